/-
  Jobs: insertion sort.
  Items: the stable sort, plain.
  Jobs: swapping of two ranges.
  Jobs: rotation.
  Jobs: the merge of one job behind a sorted part.
-/
import Derived.Test.YtoohlpieakeecaaPart19
set_option linter.unusedVariables false
set_option linter.unusedSimpArgs false
set_option maxRecDepth 100000
set_option maxHeartbeats 8000000
namespace Go.V
open Go.Proofs
theorem KE.all {f : Itm → Int} {xs ys : List Itm} {p : Itm → Prop} (h : KE f xs ys) (hp : ∀ a ∈ xs, p a) : ∀ a ∈ ys, p a := fun a ha => hp a (h.symm.mem ha)
theorem getMI {zs : List Itm} {k : Nat} (h : k < zs.length) : zs.getD k Itm.zero ∈ zs := getD_memI h
theorem swA_take {k a : Nat} {zs : List Itm} (h : a ≤ k) : (swA k zs).take a = zs.take a := by
  unfold swA
  rw [List.take_set_of_le h, List.take_set_of_le (by omega)]
theorem swA_drop {k b : Nat} {zs : List Itm} (h : k + 1 < b) : (swA k zs).drop b = zs.drop b := by
  unfold swA
  rw [List.drop_set_of_lt (by omega), List.drop_set_of_lt h]
/-- zs is xs with the places from a to i sorted -/
def mid (f : Itm → Int) (xs : List Itm) (a b : Nat) (zs : List Itm) : Prop := zs.length = xs.length ∧ KE f xs zs ∧ zs.take a = xs.take a ∧ zs.drop b = xs.drop b
theorem mid.sw {f : Itm → Int} {xs zs : List Itm} {a b k : Nat} (h : mid f xs a b zs) (h1 : a ≤ k) (h2 : k + 1 < b) (h3 : b ≤ xs.length) (hk : f (zs.getD (k + 1) Itm.zero) < f (zs.getD k Itm.zero)) : mid f xs a b (swA k zs) := by
  obtain ⟨q1, q2, q3, q4⟩ := h
  exact ⟨by rw [swA_len]; exact q1, q2.trans (KE_swap (by omega) (by omega)), by rw [swA_take h1]; exact q3, by rw [swA_drop h2]; exact q4⟩
theorem b_ins (xs : List Itm) (a b : Nat) (hi : ∀ x ∈ xs, okT x) (hab : a ≤ b) (hb : b ≤ xs.length) (hl : xs.length ≤ 1099511627776) : DoesK Try.prog 1 67 [.sl 0 .itm 0 xs.length, .int .i64 a, .int .i64 b, .fn 47 []] [.rows .itm xs]
    (EndF 1 (.tup []) ([.rows .itm (srtR tmI a b xs)] ++ [])) := by
  refine DoesK.close ?_
  have hw0 : IntKind.i64.wrap ((a : Int) + 1) = ((a + 1 : Nat) : Int) := by rw [wrap_i64 _ (by omega) (by omega)]; omega
  refine w_body (rs := []) (tm := [.sl 0 .itm 0 xs.length, .int .i64 a, .int .i64 b, .fn 47 [], .any, .any, .any, .any, .any, .any, .any, .any, .any, .any, .any, .any, .any, .any, .any, .any, .any, .any, .any, .any, .any, .any, .any, .any, .any, .any, .any, .any, .any, .any, .any, .any, .any, .any, .any, .any, .any, .any, .any, .any, .any, .any, .any, .any, .any, .any, .any, .any, .any]) fn_67 rfl rfl rfl rfl fun R hR => ?_
  (have zx1 := @hw0; all_goals (try ((first | (with_reducible refine wp_id ?_) | (with_reducible refine does_id ?_) | (with_reducible refine ops_id ?_)); refine walk ?_; (repeat' (first | exact trivial | with_reducible refine And.intro ?_ ?_)); all_goals (repeat (first | (with_reducible refine ImpB.mk fun hb => ?_) | (with_reducible refine ImpK.mk fun hK => ?_) | (with_reducible refine ImpF.mk fun hF => ?_) | (with_reducible refine ImpQ.mk fun hp => ?_) | (with_reducible refine AllE.mk fun p => ?_) | (with_reducible refine AllR.mk fun rest => ?_) | (with_reducible refine AllK.mk fun K => ?_))))); repeat' (with_reducible refine And.intro ?_ ?_))
  any_goals ((try (refine w_seq fun K hK => ?_)); (try (refine w_block ?_)); refine w_loop (A := Nat × List Itm) (fun p => a + 1 ≤ p.1 ∧ (p.1 ≤ b ∨ p.1 = a + 1) ∧ mid tmI xs a b p.2 ∧ (∀ i j, a ≤ i → i < j → j < p.1 → j < b → tmI (p.2.getD i Itm.zero) ≤ tmI (p.2.getD j Itm.zero))) (fun p => b + 1 - p.1) (fun p => [(8, .int .i64 p.1)]) (fun p => [(0, .rows .itm p.2)]) ((a + 1, xs)) (ws := ?ws1) (tk := ?tk1) ?hw1 ?ht1 ?hi ?h0 ?LH1; (case hw1 => simp only [go_sem, decide_true, decide_false, Int.reduceToNat, Nat.min_eq_left, Nat.min_eq_right, Int.reducePow, Nat.reducePow, Int.reduceLE, Int.reduceLT, Int.reduceMul, Int.reduceAdd, Int.reduceSub, Int.reduceNeg, Bool.not_true, Bool.not_false, Bool.not_not, ↓reduceIte, Nat.reduceAdd, Nat.reduceSub, Nat.reduceMul, Nat.reduceEqDiff, reduceCtorEq, Nat.reduceLT, Nat.reduceLeDiff, Nat.reduceGT]; exact rfl); (case ht1 => simp only [go_sem, decide_true, decide_false, Int.reduceToNat, Nat.min_eq_left, Nat.min_eq_right, Int.reducePow, Nat.reducePow, Int.reduceLE, Int.reduceLT, Int.reduceMul, Int.reduceAdd, Int.reduceSub, Int.reduceNeg, Bool.not_true, Bool.not_false, Bool.not_not, ↓reduceIte, Nat.reduceAdd, Nat.reduceSub, Nat.reduceMul, Nat.reduceEqDiff, reduceCtorEq, Nat.reduceLT, Nat.reduceLeDiff, Nat.reduceGT]; exact rfl); (case' LH1 => rintro ⟨i, zs⟩ E t hx hE ht; simp only [go_sem] at ht; subst ht; simp only [go_sem]; try dsimp only at hx))
  case hi => exact ⟨Nat.le_refl _, .inr rfl, ⟨rfl, KE.refl, rfl, rfl⟩, fun i j h1 h2 h3 => by dsimp only at h3; omega⟩
  case h0 => (focus (refine ⟨_, _, Gh.refl, [0], rfl, ?_⟩; (refine fitq ?_ ?_ ?_ <;> try exact trivial); (try any_goals (refine ⟨?_, ?_⟩)); (try any_goals (with_reducible rfl))))
  case LH1 =>
    obtain ⟨h1, h0, h2, h3⟩ := hx
    have h2' := h2
    obtain ⟨q1, q2, q3, q4⟩ := h2'
    (try dsimp only at h1 h0 q1 q2 q3 q4 h3)
    have hw1 : IntKind.i64.wrap ((i : Int) + 1) = ((i + 1 : Nat) : Int) := by rw [wrap_i64 _ (by omega) (by omega)]; omega
    by_cases hib : i < b
    · have d1 : decide ((i : Int) < (b : Int)) = true := decide_eq_true (by omega)
      (have zx1 := @d1; all_goals (try ((first | (with_reducible refine wp_id ?_) | (with_reducible refine does_id ?_) | (with_reducible refine ops_id ?_)); refine walk ?_; (repeat' (first | exact trivial | with_reducible refine And.intro ?_ ?_)); all_goals (repeat (first | (with_reducible refine ImpB.mk fun hb => ?_) | (with_reducible refine ImpK.mk fun hK => ?_) | (with_reducible refine ImpF.mk fun hF => ?_) | (with_reducible refine ImpQ.mk fun hp => ?_) | (with_reducible refine AllE.mk fun p => ?_) | (with_reducible refine AllR.mk fun rest => ?_) | (with_reducible refine AllK.mk fun K => ?_))))); repeat' (with_reducible refine And.intro ?_ ?_))
      any_goals ((try (refine w_seq fun K hK => ?_)); (try (refine w_block ?_)); refine w_loop (A := Nat × List Itm) (fun p => a ≤ p.1 ∧ p.1 ≤ i ∧ mid tmI xs a b p.2 ∧ (∀ u v, a ≤ u → u < v → v ≤ i → v ≠ p.1 → tmI (p.2.getD u Itm.zero) ≤ tmI (p.2.getD v Itm.zero))) (fun p => p.1) (fun p => [(8, .int .i64 i), (9, .int .i64 p.1)]) (fun p => [(0, .rows .itm p.2)]) ((i, zs)) (ws := ?ws2) (tk := ?tk2) ?hw2 ?ht2 ?hi_1 ?h0_1 ?LH2; (case hw2 => simp only [go_sem, decide_true, decide_false, Int.reduceToNat, Nat.min_eq_left, Nat.min_eq_right, Int.reducePow, Nat.reducePow, Int.reduceLE, Int.reduceLT, Int.reduceMul, Int.reduceAdd, Int.reduceSub, Int.reduceNeg, Bool.not_true, Bool.not_false, Bool.not_not, ↓reduceIte, Nat.reduceAdd, Nat.reduceSub, Nat.reduceMul, Nat.reduceEqDiff, reduceCtorEq, Nat.reduceLT, Nat.reduceLeDiff, Nat.reduceGT]; exact rfl); (case ht2 => simp only [go_sem, decide_true, decide_false, Int.reduceToNat, Nat.min_eq_left, Nat.min_eq_right, Int.reducePow, Nat.reducePow, Int.reduceLE, Int.reduceLT, Int.reduceMul, Int.reduceAdd, Int.reduceSub, Int.reduceNeg, Bool.not_true, Bool.not_false, Bool.not_not, ↓reduceIte, Nat.reduceAdd, Nat.reduceSub, Nat.reduceMul, Nat.reduceEqDiff, reduceCtorEq, Nat.reduceLT, Nat.reduceLeDiff, Nat.reduceGT]; exact rfl); (case' LH2 => rintro ⟨j, ys⟩ E t hx hE ht; simp only [go_sem] at ht; subst ht; simp only [go_sem]; try dsimp only at hx))
      case hi_1 => exact ⟨by omega, Nat.le_refl _, h2, fun u v g1 g2 g3 g4 => h3 u v g1 g2 (by dsimp only at g4; omega) (by omega)⟩
      case h0_1 => (focus (refine ⟨_, _, Gh.refl, [0], rfl, ?_⟩; (refine fitq ?_ ?_ ?_ <;> try exact trivial); (try any_goals (refine ⟨?_, ?_⟩)); (try any_goals (with_reducible rfl))))
      case LH2 =>
        obtain ⟨g1, g2, g3, g4⟩ := hx
        have g3' := g3
        obtain ⟨p1, p2, p3, p4⟩ := g3'
        (try dsimp only at g1 g2 p1 p2 p3 p4 g4)
        have hin := KE.all p2 hi
        have hjl : j < ys.length := by omega
        by_cases hja : a < j
        · have d2 : decide ((a : Int) < (j : Int)) = true := decide_eq_true (by omega)
          have hw2 : IntKind.i64.wrap ((j : Int) - 1) = ((j - 1 : Nat) : Int) := by rw [wrap_i64 _ (by omega) (by omega)]; omega
          have i1 := hin _ (getMI hjl)
          have i2 := hin _ (getMI (zs := ys) (k := j - 1) (by omega))
          obtain ⟨k, rfl⟩ : ∃ k, j = k + 1 := ⟨j - 1, by omega⟩
          have ek : k + 1 - 1 = k := by omega
          rw [ek] at hw2 i2
          by_cases c : tmI (ys.getD (k + 1) Itm.zero) < tmI (ys.getD k Itm.zero)
          · have d3 : decide (((ys.getD (k + 1) Itm.zero).time - (ys.getD k Itm.zero).time) < 0) = true := by rw [tm_lt]; exact decide_eq_true c
            (have zx1 := @d2; have zx2 := @hw2; have zx3 := @d3; have zx4 := @p1; all_goals (try ((first | (with_reducible refine wp_id ?_) | (with_reducible refine does_id ?_) | (with_reducible refine ops_id ?_)); refine walk ?_; (repeat' (first | exact trivial | with_reducible refine And.intro ?_ ?_)); all_goals (repeat (first | (with_reducible refine ImpB.mk fun hb => ?_) | (with_reducible refine ImpK.mk fun hK => ?_) | (with_reducible refine ImpF.mk fun hF => ?_) | (with_reducible refine ImpQ.mk fun hp => ?_) | (with_reducible refine AllE.mk fun p => ?_) | (with_reducible refine AllR.mk fun rest => ?_) | (with_reducible refine AllK.mk fun K => ?_))))); repeat' (with_reducible refine And.intro ?_ ?_))
            all_goals first | exact i1 | exact i2 | exact Int.natCast_nonneg _ | omega | skip
            refine ⟨(k, swA k ys), ⟨⟨by (try dsimp only); omega, by (try dsimp only); omega, g3.sw (by omega) (by omega) hb c, fun u v e1 e2 e3 e4 => ?_⟩, by (try dsimp only); omega⟩, ?_⟩
            · dsimp only at e4 ⊢
              rw [swA_get hjl, swA_get hjl]
              have s1 := fun h => g4 u k e1 h (by omega) (by omega)
              have s2 := g4 u v e1 e2 e3
              have s3 := fun h h' => g4 k v (by omega) h e3 h'
              by_cases u1 : u = k
              · subst u1
                rw [if_pos rfl, if_neg (by omega)]
                by_cases v1 : v = u + 1
                · rw [if_pos v1]; omega
                · rw [if_neg v1]; have := s3 (by omega) v1; omega
              · rw [if_neg u1]
                by_cases u2 : u = k + 1
                · rw [if_pos u2, if_neg (by omega), if_neg (by omega)]
                  exact s3 (by omega) (by omega)
                · rw [if_neg u2, if_neg (by omega)]
                  by_cases v1 : v = k + 1
                  · rw [if_pos v1]; exact s1 (by omega)
                  · rw [if_neg v1]; exact s2 v1
            (focus (refine ⟨_, _, Gh.refl, [0], rfl, ?_⟩; (refine fitq ?_ ?_ ?_ <;> try exact trivial); (try any_goals (refine ⟨?_, ?_⟩)); (try any_goals (with_reducible rfl))))
            all_goals exact rfl
          · have d3 : decide (((ys.getD (k + 1) Itm.zero).time - (ys.getD k Itm.zero).time) < 0) = false := by rw [tm_lt]; exact decide_eq_false c
            (have zx1 := @d2; have zx2 := @hw2; have zx3 := @d3; have zx4 := @hw1; have zx5 := @p1; all_goals (try ((first | (with_reducible refine wp_id ?_) | (with_reducible refine does_id ?_) | (with_reducible refine ops_id ?_)); refine walk ?_; (repeat' (first | exact trivial | with_reducible refine And.intro ?_ ?_)); all_goals (repeat (first | (with_reducible refine ImpB.mk fun hb => ?_) | (with_reducible refine ImpK.mk fun hK => ?_) | (with_reducible refine ImpF.mk fun hF => ?_) | (with_reducible refine ImpQ.mk fun hp => ?_) | (with_reducible refine AllE.mk fun p => ?_) | (with_reducible refine AllR.mk fun rest => ?_) | (with_reducible refine AllK.mk fun K => ?_))))); repeat' (with_reducible refine And.intro ?_ ?_))
            all_goals first | exact i1 | exact i2 | exact Int.natCast_nonneg _ | omega | skip
            refine ⟨(i + 1, ys), ⟨⟨by (try dsimp only); omega, by (try dsimp only); omega, g3, fun u v e1 e2 e3 e4 => ?_⟩, by (try dsimp only); omega⟩, ?_⟩
            · dsimp only at e3 ⊢
              by_cases v1 : v = k + 1
              · subst v1
                by_cases u1 : u = k
                · subst u1; omega
                · have := g4 u k e1 (by omega) (by omega) (by omega); omega
              · exact g4 u v e1 e2 (by omega) v1
            (focus (refine ⟨_, _, Gh.refl, [0], rfl, ?_⟩; (refine fitq ?_ ?_ ?_ <;> try exact trivial); (try any_goals (refine ⟨?_, ?_⟩)); (try any_goals (with_reducible rfl))))
        · have d2 : decide ((a : Int) < (j : Int)) = false := decide_eq_false (by omega)
          obtain rfl : j = a := by omega
          (have zx1 := @d2; have zx2 := @hw1; all_goals (try ((first | (with_reducible refine wp_id ?_) | (with_reducible refine does_id ?_) | (with_reducible refine ops_id ?_)); refine walk ?_; (repeat' (first | exact trivial | with_reducible refine And.intro ?_ ?_)); all_goals (repeat (first | (with_reducible refine ImpB.mk fun hb => ?_) | (with_reducible refine ImpK.mk fun hK => ?_) | (with_reducible refine ImpF.mk fun hF => ?_) | (with_reducible refine ImpQ.mk fun hp => ?_) | (with_reducible refine AllE.mk fun p => ?_) | (with_reducible refine AllR.mk fun rest => ?_) | (with_reducible refine AllK.mk fun K => ?_))))); repeat' (with_reducible refine And.intro ?_ ?_))
          refine ⟨(i + 1, ys), ⟨⟨by (try dsimp only); omega, by (try dsimp only); omega, g3, fun u v e1 e2 e3 e4 => g4 u v e1 e2 (by dsimp only at e3; omega) (by (try dsimp only); omega)⟩, by (try dsimp only); omega⟩, ?_⟩
          (focus (refine ⟨_, _, Gh.refl, [0], rfl, ?_⟩; (refine fitq ?_ ?_ ?_ <;> try exact trivial); (try any_goals (refine ⟨?_, ?_⟩)); (try any_goals (with_reducible rfl))))
    · have d1 : decide ((i : Int) < (b : Int)) = false := decide_eq_false (by omega)
      (have zx1 := @d1; all_goals (try ((first | (with_reducible refine wp_id ?_) | (with_reducible refine does_id ?_) | (with_reducible refine ops_id ?_)); refine walk ?_; (repeat' (first | exact trivial | with_reducible refine And.intro ?_ ?_)); all_goals (repeat (first | (with_reducible refine ImpB.mk fun hb => ?_) | (with_reducible refine ImpK.mk fun hK => ?_) | (with_reducible refine ImpF.mk fun hF => ?_) | (with_reducible refine ImpQ.mk fun hp => ?_) | (with_reducible refine AllE.mk fun p => ?_) | (with_reducible refine AllR.mk fun rest => ?_) | (with_reducible refine AllK.mk fun K => ?_))))); repeat' (with_reducible refine And.intro ?_ ?_))
      rw [← srtR_uniq hab q1 q2 q3 q4 fun p q e1 e2 e3 e4 => h3 p q e1 e2 (by omega) e3]
      (focus (refine ⟨_, _, Gh.refl, [0], rfl, ?_⟩; (refine fitq ?_ ?_ ?_ <;> try exact trivial); (try any_goals (refine ⟨?_, ?_⟩)); (try any_goals (with_reducible rfl))))
theorem c_ins {h : List Ch} {K : KT} {xs : List Itm} {x y : Int} {n t : Nat} (H : K (.tup []) (h.set t (.rows .itm (srtR tmI x.toNat y.toNat xs)))) (o : hth h t = .rows .itm xs) (s1 : ∀ x ∈ xs, okT x) (s2 : 0 ≤ x ∧ x ≤ y ∧ y ≤ n) (s3 : n = xs.length) (s4 : xs.length ≤ 1099511627776) : Does Try.prog 67 [.sl t .itm 0 n, .int .i64 x, .int .i64 y, .fn 47 []] h K := by
  have hx : x = (x.toNat : Int) := by omega
  have hy : y = (y.toNat : Int) := by omega
  have hb := b_ins xs x.toNat y.toNat s1 (by omega) (by omega) s4
  rw [hx, hy, s3]
  exact frame_obj0 (ret' := .tup []) hb o (by simp) (fitC_rows _ _) (br_cons (br_own rfl) (br_cons br_int (br_cons br_int (br_cons (br_fn) br_nil)))) (.inl rfl) (fun _ => rfl) rfl H
abbrev i_ins := Ctr.mk (i := 0) (g := 67) @c_ins
attribute [instance] i_ins
end Go.V

set_option maxRecDepth 100000
set_option maxHeartbeats 8000000
namespace Go.V
open Go.Proofs
theorem srtR_all {f : Itm → Int} {xs : List Itm} : srtR f 0 xs.length xs = srt f xs := by unfold srtR; simp
theorem insK_len {f : Itm → Int} {x : Itm} : ∀ {l : List Itm}, (insK f x l).length = l.length + 1
  | [] => rfl
  | y :: ys => by
    unfold insK
    split
    · rfl
    · simp [insK_len]
theorem srt_len {f : Itm → Int} : ∀ {l : List Itm}, (srt f l).length = l.length
  | [] => rfl
  | x :: xs => by rw [srt, insK_len, srt_len]; rfl
theorem srtR_len {f : Itm → Int} {a b : Nat} {xs : List Itm} (h : a ≤ b) : (srtR f a b xs).length = xs.length := by
  conv => rhs; rw [← cut3I (xs := xs) h]
  unfold srtR
  simp only [List.length_append, srt_len]
theorem srtR_KE {f : Itm → Int} {a b : Nat} {xs : List Itm} (h : a ≤ b) : KE f xs (srtR f a b xs) := by
  have := (KE.app (KE.app (KE.refl (f := f) (xs := xs.take a)) (srt_KE (f := f) (l := (xs.take b).drop a))) (KE.refl (xs := xs.drop b))).symm
  rw [cut3I h] at this
  exact this
end Go.V

set_option maxRecDepth 100000
set_option maxHeartbeats 8000000
namespace Go.V
open Go.Proofs
theorem b_swr (xs : List Itm) (a b n : Nat) (hab : a + n ≤ b) (hb : b + n ≤ xs.length) (hl : xs.length ≤ 1099511627776) : DoesK Try.prog 1 86 [.sl 0 .itm 0 xs.length, .int .i64 a, .int .i64 b, .int .i64 n, .fn 47 []] [.rows .itm xs]
    (EndF 1 (.tup []) ([.rows .itm (swR a b n xs)] ++ [])) := by
  refine DoesK.close ?_
  refine w_body (rs := []) (tm := [.sl 0 .itm 0 xs.length, .int .i64 a, .int .i64 b, .int .i64 n, .fn 47 [], .any, .any, .any, .any, .any, .any, .any, .any, .any, .any, .any, .any, .any, .any, .any, .any, .any, .any, .any, .any, .any, .any, .any, .any, .any, .any, .any, .any, .any, .any, .any, .any, .any]) fn_86 rfl rfl rfl rfl fun R hR => ?_
  (all_goals (try ((first | (with_reducible refine wp_id ?_) | (with_reducible refine does_id ?_) | (with_reducible refine ops_id ?_)); refine walk ?_; (repeat' (first | exact trivial | with_reducible refine And.intro ?_ ?_)); all_goals (repeat (first | (with_reducible refine ImpB.mk fun hb => ?_) | (with_reducible refine ImpK.mk fun hK => ?_) | (with_reducible refine ImpF.mk fun hF => ?_) | (with_reducible refine ImpQ.mk fun hp => ?_) | (with_reducible refine AllE.mk fun p => ?_) | (with_reducible refine AllR.mk fun rest => ?_) | (with_reducible refine AllK.mk fun K => ?_))))); repeat' (with_reducible refine And.intro ?_ ?_))
  any_goals ((try (refine w_seq fun K hK => ?_)); (try (refine w_block ?_)); refine w_loop (A := Nat) (fun k => k ≤ n) (fun k => n - k) (fun k => [(10, .int .i64 k)]) (fun k => [(0, .rows .itm (swR a b k xs))]) (0) (ws := ?ws1) (tk := ?tk1) ?hw1 ?ht1 ?hi ?h0 ?LH1; (case hw1 => simp only [go_sem, decide_true, decide_false, Int.reduceToNat, Nat.min_eq_left, Nat.min_eq_right, Int.reducePow, Nat.reducePow, Int.reduceLE, Int.reduceLT, Int.reduceMul, Int.reduceAdd, Int.reduceSub, Int.reduceNeg, Bool.not_true, Bool.not_false, Bool.not_not, ↓reduceIte, Nat.reduceAdd, Nat.reduceSub, Nat.reduceMul, Nat.reduceEqDiff, reduceCtorEq, Nat.reduceLT, Nat.reduceLeDiff, Nat.reduceGT]; exact rfl); (case ht1 => simp only [go_sem, decide_true, decide_false, Int.reduceToNat, Nat.min_eq_left, Nat.min_eq_right, Int.reducePow, Nat.reducePow, Int.reduceLE, Int.reduceLT, Int.reduceMul, Int.reduceAdd, Int.reduceSub, Int.reduceNeg, Bool.not_true, Bool.not_false, Bool.not_not, ↓reduceIte, Nat.reduceAdd, Nat.reduceSub, Nat.reduceMul, Nat.reduceEqDiff, reduceCtorEq, Nat.reduceLT, Nat.reduceLeDiff, Nat.reduceGT]; exact rfl); (case' LH1 => rintro k E t hx hE ht; simp only [go_sem] at ht; subst ht; simp only [go_sem]; try dsimp only at hx))
  case hi => exact Nat.zero_le _
  case h0 => (focus (refine ⟨_, _, Gh.refl, [0], rfl, ?_⟩; (refine fitq ?_ ?_ ?_ <;> try exact trivial); (try any_goals (refine ⟨?_, ?_⟩)); (try any_goals (with_reducible rfl)))); all_goals exact rfl
  case LH1 =>
    have hk0 : k ≤ n := hx
    have hsl := swR_len (a := a) (b := b) (k := k) (xs := xs)
    have hw1 : IntKind.i64.wrap ((k : Int) + 1) = ((k + 1 : Nat) : Int) := by rw [wrap_i64 _ (by omega) (by omega)]; omega
    have hw2 : IntKind.i64.wrap ((a : Int) + (k : Int)) = ((a + k : Nat) : Int) := by rw [wrap_i64 _ (by omega) (by omega)]; omega
    have hw3 : IntKind.i64.wrap ((b : Int) + (k : Int)) = ((b + k : Nat) : Int) := by rw [wrap_i64 _ (by omega) (by omega)]; omega
    by_cases hk : k < n
    · have hkd : decide ((k : Int) < (n : Int)) = true := decide_eq_true (by omega)
      (have zx1 := @hkd; have zx2 := @hw1; have zx3 := @hw2; have zx4 := @hw3; have zx5 := @hsl; all_goals (try ((first | (with_reducible refine wp_id ?_) | (with_reducible refine does_id ?_) | (with_reducible refine ops_id ?_)); refine walk ?_; (repeat' (first | exact trivial | with_reducible refine And.intro ?_ ?_)); all_goals (repeat (first | (with_reducible refine ImpB.mk fun hb => ?_) | (with_reducible refine ImpK.mk fun hK => ?_) | (with_reducible refine ImpF.mk fun hF => ?_) | (with_reducible refine ImpQ.mk fun hp => ?_) | (with_reducible refine AllE.mk fun p => ?_) | (with_reducible refine AllR.mk fun rest => ?_) | (with_reducible refine AllK.mk fun K => ?_))))); repeat' (with_reducible refine And.intro ?_ ?_))
      all_goals first | exact Int.natCast_nonneg _ | omega | skip
      refine ⟨k + 1, ⟨by first | omega | (dsimp only; omega), by first | omega | (dsimp only; omega)⟩, ?_⟩
      (focus (refine ⟨_, _, Gh.refl, [0], rfl, ?_⟩; (refine fitq ?_ ?_ ?_ <;> try exact trivial); (try any_goals (refine ⟨?_, ?_⟩)); (try any_goals (with_reducible rfl))))
      all_goals first | exact rfl | trace_state
    · have hkd : decide ((k : Int) < (n : Int)) = false := decide_eq_false (by omega)
      obtain rfl : k = n := by omega
      (have zx1 := @hkd; all_goals (try ((first | (with_reducible refine wp_id ?_) | (with_reducible refine does_id ?_) | (with_reducible refine ops_id ?_)); refine walk ?_; (repeat' (first | exact trivial | with_reducible refine And.intro ?_ ?_)); all_goals (repeat (first | (with_reducible refine ImpB.mk fun hb => ?_) | (with_reducible refine ImpK.mk fun hK => ?_) | (with_reducible refine ImpF.mk fun hF => ?_) | (with_reducible refine ImpQ.mk fun hp => ?_) | (with_reducible refine AllE.mk fun p => ?_) | (with_reducible refine AllR.mk fun rest => ?_) | (with_reducible refine AllK.mk fun K => ?_))))); repeat' (with_reducible refine And.intro ?_ ?_))
      (focus (refine ⟨_, _, Gh.refl, [0], rfl, ?_⟩; (refine fitq ?_ ?_ ?_ <;> try exact trivial); (try any_goals (refine ⟨?_, ?_⟩)); (try any_goals (with_reducible rfl))))
theorem c_swr {h : List Ch} {K : KT} {xs : List Itm} {x y z : Int} {n t : Nat} (H : K (.tup []) (h.set t (.rows .itm (swR x.toNat y.toNat z.toNat xs)))) (o : hth h t = .rows .itm xs) (s1 : 0 ≤ x ∧ 0 ≤ z ∧ x + z ≤ y ∧ y + z ≤ n) (s2 : n = xs.length) (s3 : xs.length ≤ 1099511627776) : Does Try.prog 86 [.sl t .itm 0 n, .int .i64 x, .int .i64 y, .int .i64 z, .fn 47 []] h K := by
  have hx : x = (x.toNat : Int) := by omega
  have hy : y = (y.toNat : Int) := by omega
  have hz : z = (z.toNat : Int) := by omega
  have hb := b_swr xs x.toNat y.toNat z.toNat (by omega) (by omega) s3
  rw [hx, hy, hz, s2]
  exact frame_obj0 (ret' := .tup []) hb o (by simp) (fitC_rows _ _) (br_cons (br_own rfl) (br_cons br_int (br_cons br_int (br_cons br_int (br_cons (br_fn) br_nil))))) (.inl rfl) (fun _ => rfl) rfl H
abbrev i_swr := Ctr.mk (i := 0) (g := 86) @c_swr
attribute [instance] i_swr
end Go.V

set_option maxRecDepth 100000
set_option maxHeartbeats 8000000
namespace Go.V
open Go.Proofs
theorem b_rot (A X Y B : List Itm) (hl : (A ++ X ++ Y ++ B).length ≤ 1099511627776) (hx1 : 1 ≤ X.length) (hy1 : 1 ≤ Y.length) : DoesK Try.prog 1 75 [.sl 0 .itm 0 (A ++ X ++ Y ++ B).length, .int .i64 A.length, .int .i64 (A.length + X.length : Nat), .int .i64 (A.length + X.length + Y.length : Nat), .fn 47 []] [.rows .itm (A ++ X ++ Y ++ B)]
    (EndF 1 (.tup []) ([.rows .itm (A ++ Y ++ X ++ B)] ++ [])) := by
  refine DoesK.close ?_
  obtain ⟨m, hm⟩ : ∃ m : Nat, A.length + X.length = m := ⟨_, rfl⟩
  obtain ⟨N, hN⟩ : ∃ N : Nat, (A ++ X ++ Y ++ B).length = N := ⟨_, rfl⟩
  have hNl := hN
  simp only [List.length_append] at hNl
  rw [hN] at hl
  rw [hN, hm]
  have w1 : IntKind.i64.wrap ((m : Int) - (A.length : Int)) = (X.length : Int) := by rw [wrap_i64 _ (by omega) (by omega)]; omega
  have w2 : IntKind.i64.wrap (((m + Y.length : Nat) : Int) - (m : Int)) = (Y.length : Int) := by rw [wrap_i64 _ (by omega) (by omega)]; omega
  obtain ⟨T, hT⟩ : ∃ T, A ++ Y ++ X ++ B = T := ⟨_, rfl⟩
  obtain ⟨Z, hZ⟩ : ∃ Z, A ++ X ++ Y ++ B = Z := ⟨_, rfl⟩
  rw [hT, hZ]
  refine w_body (rs := []) (tm := [.sl 0 .itm 0 N, .int .i64 A.length, .int .i64 m, .int .i64 (m + Y.length : Nat), .fn 47 [], .any, .any, .any, .any, .any, .any, .any, .any, .any, .any, .any, .any, .any, .any, .any, .any, .any, .any, .any, .any, .any, .any, .any, .any, .any, .any, .any, .any, .any, .any, .any, .any, .any, .any, .any, .any, .any, .any, .any, .any, .any, .any, .any, .any, .any, .any, .any, .any, .any, .any, .any, .any, .any]) fn_75 rfl rfl rfl rfl fun R hR => ?_
  (have zx1 := @w1; have zx2 := @w2; all_goals (try ((first | (with_reducible refine wp_id ?_) | (with_reducible refine does_id ?_) | (with_reducible refine ops_id ?_)); refine walk ?_; (repeat' (first | exact trivial | with_reducible refine And.intro ?_ ?_)); all_goals (repeat (first | (with_reducible refine ImpB.mk fun hb => ?_) | (with_reducible refine ImpK.mk fun hK => ?_) | (with_reducible refine ImpF.mk fun hF => ?_) | (with_reducible refine ImpQ.mk fun hp => ?_) | (with_reducible refine AllE.mk fun p => ?_) | (with_reducible refine AllR.mk fun rest => ?_) | (with_reducible refine AllK.mk fun K => ?_))))); repeat' (with_reducible refine And.intro ?_ ?_))
  any_goals ((try (refine w_seq fun K hK => ?_)); (try (refine w_block ?_)); refine w_loop (A := (List Itm × List Itm) × List Itm × List Itm) (fun p => p.1.1 ++ p.1.2 ++ p.2.1 ++ p.2.2 = p.1.1 ++ p.1.2 ++ p.2.1 ++ p.2.2 ∧ (p.1.1 ++ p.2.1 ++ p.1.2 ++ p.2.2 = T ∧ p.1.1.length + p.1.2.length = m ∧ 1 ≤ p.1.2.length ∧ 1 ≤ p.2.1.length ∧ m + p.2.1.length + p.2.2.length = N)) (fun p => p.1.2.length + p.2.1.length) (fun p => [(10, .int .i64 p.1.2.length), (11, .int .i64 p.2.1.length)]) (fun p => [(0, .rows .itm (p.1.1 ++ p.1.2 ++ p.2.1 ++ p.2.2))]) (((A, X), (Y, B))) (ws := ?ws1) (tk := ?tk1) ?hw1 ?ht1 ?hi ?h0 ?LH1; (case hw1 => simp only [go_sem, decide_true, decide_false, Int.reduceToNat, Nat.min_eq_left, Nat.min_eq_right, Int.reducePow, Nat.reducePow, Int.reduceLE, Int.reduceLT, Int.reduceMul, Int.reduceAdd, Int.reduceSub, Int.reduceNeg, Bool.not_true, Bool.not_false, Bool.not_not, ↓reduceIte, Nat.reduceAdd, Nat.reduceSub, Nat.reduceMul, Nat.reduceEqDiff, reduceCtorEq, Nat.reduceLT, Nat.reduceLeDiff, Nat.reduceGT]; exact rfl); (case ht1 => simp only [go_sem, decide_true, decide_false, Int.reduceToNat, Nat.min_eq_left, Nat.min_eq_right, Int.reducePow, Nat.reducePow, Int.reduceLE, Int.reduceLT, Int.reduceMul, Int.reduceAdd, Int.reduceSub, Int.reduceNeg, Bool.not_true, Bool.not_false, Bool.not_not, ↓reduceIte, Nat.reduceAdd, Nat.reduceSub, Nat.reduceMul, Nat.reduceEqDiff, reduceCtorEq, Nat.reduceLT, Nat.reduceLeDiff, Nat.reduceGT]; exact rfl); (case' LH1 => rintro ⟨⟨a, x⟩, ⟨y, b⟩⟩ E t hx hE ht; simp only [go_sem] at ht; subst ht; simp only [go_sem]; try dsimp only at hx))
  case hi => exact ⟨rfl, hT, hm, hx1, hy1, by dsimp only; omega⟩
  case h0 => (focus (refine ⟨_, _, Gh.refl, [0], rfl, ?_⟩; (refine fitq ?_ ?_ ?_ <;> try exact trivial); (try any_goals (refine ⟨?_, ?_⟩)); (try any_goals (with_reducible rfl)))); (all_goals first | exact hZ | exact hZ.symm | trace_state)
  case LH1 =>
    obtain ⟨_, h1, h2, h3, h4, h5⟩ := hx
    (try dsimp only at h1 h2 h3 h4 h5)
    by_cases he : x.length = y.length
    · have d1 : decide (¬ (x.length : Int) = (y.length : Int)) = false := decide_eq_false (by omega)
      have w3 : IntKind.i64.wrap ((m : Int) - (x.length : Int)) = (a.length : Int) := by rw [wrap_i64 _ (by omega) (by omega)]; omega
      (have zx1 := @d1; have zx2 := @w3; all_goals (try ((first | (with_reducible refine wp_id ?_) | (with_reducible refine does_id ?_) | (with_reducible refine ops_id ?_)); refine walk ?_; (repeat' (first | exact trivial | with_reducible refine And.intro ?_ ?_)); all_goals (repeat (first | (with_reducible refine ImpB.mk fun hb => ?_) | (with_reducible refine ImpK.mk fun hK => ?_) | (with_reducible refine ImpF.mk fun hF => ?_) | (with_reducible refine ImpQ.mk fun hp => ?_) | (with_reducible refine AllE.mk fun p => ?_) | (with_reducible refine AllR.mk fun rest => ?_) | (with_reducible refine AllK.mk fun K => ?_))))); repeat' (with_reducible refine And.intro ?_ ?_))
      all_goals first | (simp only [List.length_append]; omega) | skip
      have e : swR a.length m x.length (a ++ x ++ y ++ b) = T := by
        have q := swR_list (A := a) (X := x) (M := []) (Y := y) (B := b) he
        simp only [List.length_nil, Nat.add_zero, List.append_nil, h2] at q
        rw [q]; exact h1
      rw [e]
      (focus (refine ⟨_, _, Gh.refl, [0], rfl, ?_⟩; (refine fitq ?_ ?_ ?_ <;> try exact trivial); (try any_goals (refine ⟨?_, ?_⟩)); (try any_goals (with_reducible rfl))))
    · have d1 : decide (¬ (x.length : Int) = (y.length : Int)) = true := decide_eq_true (by omega)
      have w3 : IntKind.i64.wrap ((m : Int) - (x.length : Int)) = (a.length : Int) := by rw [wrap_i64 _ (by omega) (by omega)]; omega
      by_cases c : y.length < x.length
      · have d2 : decide ((y.length : Int) < (x.length : Int)) = true := decide_eq_true (by omega)
        have w4 : IntKind.i64.wrap ((x.length : Int) - (y.length : Int)) = ((x.drop y.length).length : Int) := by rw [wrap_i64 _ (by omega) (by omega), List.length_drop]; omega
        have e : swR a.length m y.length (a ++ x ++ y ++ b) = a ++ y ++ x.drop y.length ++ x.take y.length ++ b := by
          have q := swR_list (A := a) (X := x.take y.length) (M := x.drop y.length) (Y := y) (B := b) (by rw [List.length_take]; omega)
          have q1 : a.length + (x.take y.length).length + (x.drop y.length).length = m := by rw [List.length_take, List.length_drop]; omega
          have q2 : (x.take y.length).length = y.length := by rw [List.length_take]; omega
          have q3 : a ++ x.take y.length ++ x.drop y.length = a ++ x := by rw [List.append_assoc, List.take_append_drop]
          rw [q1, q2, q3] at q
          exact q
        (have zx1 := @d1; have zx2 := @d2; have zx3 := @w3; have zx4 := @w4; all_goals (try ((first | (with_reducible refine wp_id ?_) | (with_reducible refine does_id ?_) | (with_reducible refine ops_id ?_)); refine walk ?_; (repeat' (first | exact trivial | with_reducible refine And.intro ?_ ?_)); all_goals (repeat (first | (with_reducible refine ImpB.mk fun hb => ?_) | (with_reducible refine ImpK.mk fun hK => ?_) | (with_reducible refine ImpF.mk fun hF => ?_) | (with_reducible refine ImpQ.mk fun hp => ?_) | (with_reducible refine AllE.mk fun p => ?_) | (with_reducible refine AllR.mk fun rest => ?_) | (with_reducible refine AllK.mk fun K => ?_))))); repeat' (with_reducible refine And.intro ?_ ?_))
        all_goals first | (simp only [List.length_append]; omega) | skip
        refine ⟨((a ++ y, x.drop y.length), (x.take y.length, b)), ⟨⟨rfl, ?_, ?_, ?_, ?_, ?_⟩, ?_⟩, ?_⟩
        · dsimp only
          rw [← h1, List.append_assoc (a ++ y), List.take_append_drop]
        · dsimp only; rw [List.length_append, List.length_drop]; omega
        · dsimp only; rw [List.length_drop]; omega
        · dsimp only; rw [List.length_take]; omega
        · dsimp only; rw [List.length_take]; omega
        · dsimp only; rw [List.length_take, List.length_drop]; omega
        · (focus (refine ⟨_, _, Gh.refl, [0], rfl, ?_⟩; (refine fitq ?_ ?_ ?_ <;> try exact trivial); (try any_goals (refine ⟨?_, ?_⟩)); (try any_goals (with_reducible rfl))))
          all_goals first | exact e | exact e.symm | omega | (rw [List.length_take]; omega) | trace_state
      · have d2 : decide ((y.length : Int) < (x.length : Int)) = false := decide_eq_false (by omega)
        have w4 : IntKind.i64.wrap ((y.length : Int) - (x.length : Int)) = ((y.take (y.length - x.length)).length : Int) := by rw [wrap_i64 _ (by omega) (by omega), List.length_take]; omega
        have w5 : IntKind.i64.wrap ((m : Int) + (y.length : Int)) = ((m + y.length : Nat) : Int) := by rw [wrap_i64 _ (by omega) (by omega)]; omega
        have w6 : IntKind.i64.wrap (((m + y.length : Nat) : Int) - (x.length : Int)) = ((m + (y.length - x.length) : Nat) : Int) := by rw [wrap_i64 _ (by omega) (by omega)]; omega
        have e : swR a.length (m + (y.length - x.length)) x.length (a ++ x ++ y ++ b) = a ++ y.drop (y.length - x.length) ++ y.take (y.length - x.length) ++ x ++ b := by
          have q := swR_list (A := a) (X := x) (M := y.take (y.length - x.length)) (Y := y.drop (y.length - x.length)) (B := b) (by rw [List.length_drop]; omega)
          have q1 : a.length + x.length + (y.take (y.length - x.length)).length = m + (y.length - x.length) := by rw [List.length_take]; omega
          have q3 : a ++ x ++ y.take (y.length - x.length) ++ y.drop (y.length - x.length) = a ++ x ++ y := by rw [List.append_assoc (a ++ x), List.take_append_drop]
          rw [q1, q3] at q
          exact q
        (have zx1 := @d1; have zx2 := @d2; have zx3 := @w3; have zx4 := @w4; have zx5 := @w5; have zx6 := @w6; all_goals (try ((first | (with_reducible refine wp_id ?_) | (with_reducible refine does_id ?_) | (with_reducible refine ops_id ?_)); refine walk ?_; (repeat' (first | exact trivial | with_reducible refine And.intro ?_ ?_)); all_goals (repeat (first | (with_reducible refine ImpB.mk fun hb => ?_) | (with_reducible refine ImpK.mk fun hK => ?_) | (with_reducible refine ImpF.mk fun hF => ?_) | (with_reducible refine ImpQ.mk fun hp => ?_) | (with_reducible refine AllE.mk fun p => ?_) | (with_reducible refine AllR.mk fun rest => ?_) | (with_reducible refine AllK.mk fun K => ?_))))); repeat' (with_reducible refine And.intro ?_ ?_))
        all_goals first | (simp only [List.length_append]; omega) | skip
        refine ⟨((a, y.drop (y.length - x.length)), (y.take (y.length - x.length), x ++ b)), ⟨⟨rfl, ?_, ?_, ?_, ?_, ?_⟩, ?_⟩, ?_⟩
        · dsimp only
          rw [← h1, List.append_assoc a, List.take_append_drop, List.append_assoc (a ++ y) x b]
        · dsimp only; rw [List.length_drop]; omega
        · dsimp only; rw [List.length_drop]; omega
        · dsimp only; rw [List.length_take]; omega
        · dsimp only; rw [List.length_take, List.length_append]; omega
        · dsimp only; rw [List.length_take, List.length_drop]; omega
        · have e2 : a ++ y.drop (y.length - x.length) ++ y.take (y.length - x.length) ++ (x ++ b) = a ++ y.drop (y.length - x.length) ++ y.take (y.length - x.length) ++ x ++ b := (List.append_assoc _ _ _).symm
          have e3 := e.trans e2.symm
          (focus (refine ⟨_, _, Gh.refl, [0], rfl, ?_⟩; (refine fitq ?_ ?_ ?_ <;> try exact trivial); (try any_goals (refine ⟨?_, ?_⟩)); (try any_goals (with_reducible rfl))))
          all_goals first | exact e3 | exact e3.symm | omega | (rw [List.length_drop]; omega) | trace_state
/-- the parts from a to m and from m to b change places -/
def rotR (a m b : Nat) (xs : List Itm) : List Itm := xs.take a ++ (xs.take b).drop m ++ (xs.take m).drop a ++ xs.drop b
theorem cut4 {a m b : Nat} {xs : List Itm} (h1 : a ≤ m) (h2 : m ≤ b) : xs.take a ++ (xs.take m).drop a ++ (xs.take b).drop m ++ xs.drop b = xs := by
  have e1 : xs.take a ++ (xs.take m).drop a = xs.take m := by
    have : xs.take a = (xs.take m).take a := by rw [List.take_take, Nat.min_eq_left h1]
    rw [this, List.take_append_drop]
  rw [e1, cut3I h2]
theorem c_rot {h : List Ch} {K : KT} {xs : List Itm} {x y z : Int} {n t : Nat} (H : K (.tup []) (h.set t (.rows .itm (rotR x.toNat y.toNat z.toNat xs)))) (o : hth h t = .rows .itm xs) (s1 : 0 ≤ x ∧ x < y ∧ y < z ∧ z ≤ n) (s2 : n = xs.length) (s3 : xs.length ≤ 1099511627776) : Does Try.prog 75 [.sl t .itm 0 n, .int .i64 x, .int .i64 y, .int .i64 z, .fn 47 []] h K := by
  have hc := cut4 (a := x.toNat) (m := y.toNat) (b := z.toNat) (xs := xs) (by omega) (by omega)
  have g1 : (xs.take x.toNat).length = x.toNat := by rw [List.length_take]; omega
  have g2 : ((xs.take y.toNat).drop x.toNat).length = y.toNat - x.toNat := by rw [List.length_drop, List.length_take]; omega
  have g3 : ((xs.take z.toNat).drop y.toNat).length = z.toNat - y.toNat := by rw [List.length_drop, List.length_take]; omega
  have hb := b_rot (xs.take x.toNat) ((xs.take y.toNat).drop x.toNat) ((xs.take z.toNat).drop y.toNat) (xs.drop z.toNat) (by rw [hc]; exact s3) (by omega) (by omega)
  rw [hc, g1, g2, g3] at hb
  have hx : x = (x.toNat : Int) := by omega
  have hy : y = ((x.toNat + (y.toNat - x.toNat) : Nat) : Int) := by omega
  have hz : z = ((x.toNat + (y.toNat - x.toNat) + (z.toNat - y.toNat) : Nat) : Int) := by omega
  rw [← hx, ← hy, ← hz] at hb
  rw [s2]
  exact frame_obj0 (ret' := .tup []) hb o (by simp) (fitC_rows _ _) (br_cons (br_own rfl) (br_cons br_int (br_cons br_int (br_cons br_int (br_cons (br_fn) br_nil))))) (.inl rfl) (fun _ => rfl) rfl H
abbrev i_rot := Ctr.mk (i := 0) (g := 75) @c_rot
attribute [instance] i_rot
end Go.V

set_option maxRecDepth 100000
set_option maxHeartbeats 8000000
namespace Go.V
open Go.Proofs
theorem b_sym1 (xs : List Itm) (a m : Nat) (hi : ∀ x ∈ xs, okT x) (ham : a + 1 < m) (hm : m < xs.length) (hl : xs.length ≤ 1099511627776) (hs : ∀ u v, a ≤ u → u < v → v < m → tmI (xs.getD u Itm.zero) ≤ tmI (xs.getD v Itm.zero)) : DoesK Try.prog 1 68 [.sl 0 .itm 0 xs.length, .int .i64 a, .int .i64 m, .int .i64 (m + 1 : Nat), .fn 47 []] [.rows .itm xs]
    (EndF 1 (.tup []) ([.rows .itm (srtR tmI a (m + 1) xs)] ++ [])) := by
  refine DoesK.close ?_
  have x1 : IntKind.i64.wrap ((m : Int) - (a : Int)) = ((m - a : Nat) : Int) := by rw [wrap_i64 _ (by omega) (by omega)]; omega
  have x2 : IntKind.i64.wrap (((m + 1 : Nat) : Int) - (m : Int)) = 1 := by rw [wrap_i64 _ (by omega) (by omega)]; omega
  have x3 : decide (((m - a : Nat) : Int) = 1) = false := decide_eq_false (by omega)
  refine w_body (rs := []) (tm := [.sl 0 .itm 0 xs.length, .int .i64 a, .int .i64 m, .int .i64 (m + 1 : Nat), .fn 47 [], .any, .any, .any, .any, .any, .any, .any, .any, .any, .any, .any, .any, .any, .any, .any, .any, .any, .any, .any, .any, .any, .any, .any, .any, .any, .any, .any, .any, .any, .any, .any, .any, .any, .any, .any, .any, .any, .any, .any, .any, .any, .any, .any, .any, .any, .any, .any, .any, .any, .any, .any, .any, .any, .any, .any, .any, .any, .any, .any, .any, .any, .any, .any, .any, .any, .any, .any, .any, .any, .any, .any, .any, .any, .any, .any, .any, .any, .any, .any, .any, .any, .any, .any, .any, .any, .any, .any, .any, .any, .any, .any, .any, .any, .any, .any, .any, .any, .any, .any, .any, .any, .any, .any, .any, .any, .any, .any, .any, .any, .any, .any, .any, .any, .any, .any, .any, .any, .any, .any, .any, .any, .any, .any, .any, .any, .any, .any, .any, .any, .any, .any, .any, .any, .any, .any, .any, .any, .any, .any, .any, .any, .any, .any, .any, .any, .any, .any, .any, .any, .any, .any, .any, .any, .any, .any, .any, .any, .any, .any, .any, .any, .any, .any, .any, .any, .any, .any, .any, .any, .any, .any, .any, .any, .any, .any, .any, .any, .any, .any, .any, .any, .any, .any, .any, .any, .any, .any, .any, .any, .any, .any, .any, .any, .any, .any, .any, .any, .any, .any, .any, .any, .any, .any, .any, .any, .any, .any, .any, .any, .any, .any, .any, .any, .any, .any]) fn_68 rfl rfl rfl rfl fun R hR => ?_
  (have zx1 := @x1; have zx2 := @x2; have zx3 := @x3; all_goals (try ((first | (with_reducible refine wp_id ?_) | (with_reducible refine does_id ?_) | (with_reducible refine ops_id ?_)); refine walk ?_; (repeat' (first | exact trivial | with_reducible refine And.intro ?_ ?_)); all_goals (repeat (first | (with_reducible refine ImpB.mk fun hb => ?_) | (with_reducible refine ImpK.mk fun hK => ?_) | (with_reducible refine ImpF.mk fun hF => ?_) | (with_reducible refine ImpQ.mk fun hp => ?_) | (with_reducible refine AllE.mk fun p => ?_) | (with_reducible refine AllR.mk fun rest => ?_) | (with_reducible refine AllK.mk fun K => ?_))))); repeat' (with_reducible refine And.intro ?_ ?_))
  any_goals ((try (refine w_seq fun K hK => ?_)); (try (refine w_block ?_)); refine w_loop (A := Nat × Nat) (fun p => a ≤ p.1 ∧ p.1 ≤ p.2 ∧ p.2 ≤ m ∧ (∀ u, a ≤ u → u < p.1 → tmI (xs.getD u Itm.zero) ≤ tmI (xs.getD m Itm.zero)) ∧ (∀ u, p.2 ≤ u → u < m → tmI (xs.getD m Itm.zero) < tmI (xs.getD u Itm.zero))) (fun p => p.2 - p.1) (fun p => [(14, .int .i64 p.1), (15, .int .i64 p.2)]) (fun _ => []) ((a, m)) (ws := ?ws1) (tk := ?tk1) ?hw1 ?ht1 ?hi ?h0 ?LH1; (case hw1 => simp only [go_sem, decide_true, decide_false, Int.reduceToNat, Nat.min_eq_left, Nat.min_eq_right, Int.reducePow, Nat.reducePow, Int.reduceLE, Int.reduceLT, Int.reduceMul, Int.reduceAdd, Int.reduceSub, Int.reduceNeg, Bool.not_true, Bool.not_false, Bool.not_not, ↓reduceIte, Nat.reduceAdd, Nat.reduceSub, Nat.reduceMul, Nat.reduceEqDiff, reduceCtorEq, Nat.reduceLT, Nat.reduceLeDiff, Nat.reduceGT]; exact rfl); (case ht1 => simp only [go_sem, decide_true, decide_false, Int.reduceToNat, Nat.min_eq_left, Nat.min_eq_right, Int.reducePow, Nat.reducePow, Int.reduceLE, Int.reduceLT, Int.reduceMul, Int.reduceAdd, Int.reduceSub, Int.reduceNeg, Bool.not_true, Bool.not_false, Bool.not_not, ↓reduceIte, Nat.reduceAdd, Nat.reduceSub, Nat.reduceMul, Nat.reduceEqDiff, reduceCtorEq, Nat.reduceLT, Nat.reduceLeDiff, Nat.reduceGT]; exact rfl); (case' LH1 => rintro ⟨i, j⟩ E t hx hE ht; simp only [go_sem] at ht; subst ht; simp only [go_sem]; try dsimp only at hx))
  case hi => exact ⟨Nat.le_refl _, by omega, Nat.le_refl _, fun u h1 h2 => by dsimp only at h2; omega, fun u h1 h2 => by dsimp only at h1; omega⟩
  case h0 => (focus (refine ⟨_, _, Gh.refl, [0], rfl, ?_⟩; (refine fitq ?_ ?_ ?_ <;> try exact trivial); (try any_goals (refine ⟨?_, ?_⟩)); (try any_goals (with_reducible rfl))))
  case LH1 =>
    obtain ⟨h1, h2, h3, h4, h5⟩ := hx
    (try dsimp only at h1 h2 h3 h4 h5)
    by_cases hij : i < j
    · have d1 : decide ((i : Int) < (j : Int)) = true := decide_eq_true (by omega)
      obtain ⟨c, hc⟩ : ∃ c : Nat, (i + j) / 2 = c := ⟨_, rfl⟩
      have w1 : IntKind.i64.wrap ((i : Int) + (j : Int)) = ((i + j : Nat) : Int) := by rw [wrap_i64 _ (by omega) (by omega)]; omega
      have w2 : IntKind.u64.wrap ((i + j : Nat) : Int) = ((i + j : Nat) : Int) := by rw [wrap_u64]; omega
      have w3 : Int.fdiv ((i + j : Nat) : Int) 2 = (c : Int) := by rw [Int.fdiv_eq_ediv_of_nonneg _ (by omega)]; omega
      have w4 : IntKind.i64.wrap (c : Int) = (c : Int) := wrap_i64 _ (by omega) (by omega)
      have w5 : IntKind.i64.wrap ((c : Int) + 1) = ((c + 1 : Nat) : Int) := by rw [wrap_i64 _ (by omega) (by omega)]; omega
      have i1 := hi _ (getMI hm)
      have i2 := hi _ (getMI (zs := xs) (k := c) (by omega))
      by_cases q : tmI (xs.getD m Itm.zero) < tmI (xs.getD c Itm.zero)
      · have d2 : decide (((xs.getD m Itm.zero).time - (xs.getD c Itm.zero).time) < 0) = true := by rw [tm_lt]; exact decide_eq_true q
        (have zx1 := @d1; have zx2 := @w1; have zx3 := @w2; have zx4 := @w3; have zx5 := @w4; have zx6 := @w5; have zx7 := @d2; all_goals (try ((first | (with_reducible refine wp_id ?_) | (with_reducible refine does_id ?_) | (with_reducible refine ops_id ?_)); refine walk ?_; (repeat' (first | exact trivial | with_reducible refine And.intro ?_ ?_)); all_goals (repeat (first | (with_reducible refine ImpB.mk fun hb => ?_) | (with_reducible refine ImpK.mk fun hK => ?_) | (with_reducible refine ImpF.mk fun hF => ?_) | (with_reducible refine ImpQ.mk fun hp => ?_) | (with_reducible refine AllE.mk fun p => ?_) | (with_reducible refine AllR.mk fun rest => ?_) | (with_reducible refine AllK.mk fun K => ?_))))); repeat' (with_reducible refine And.intro ?_ ?_))
        all_goals first | exact i1 | exact i2 | exact Int.natCast_nonneg _ | omega | skip
        refine ⟨(i, c), ⟨⟨h1, by dsimp only; omega, by dsimp only; omega, h4, fun u e1 e2 => ?_⟩, by dsimp only; omega⟩, ?_⟩
        · dsimp only at e1
          by_cases e : u = c
          · rw [e]; exact q
          · have := hs c u (by omega) (by omega) e2; omega
        (focus (refine ⟨_, _, Gh.refl, [0], rfl, ?_⟩; (refine fitq ?_ ?_ ?_ <;> try exact trivial); (try any_goals (refine ⟨?_, ?_⟩)); (try any_goals (with_reducible rfl))))
      · have d2 : decide (((xs.getD m Itm.zero).time - (xs.getD c Itm.zero).time) < 0) = false := by rw [tm_lt]; exact decide_eq_false q
        (have zx1 := @d1; have zx2 := @w1; have zx3 := @w2; have zx4 := @w3; have zx5 := @w4; have zx6 := @w5; have zx7 := @d2; all_goals (try ((first | (with_reducible refine wp_id ?_) | (with_reducible refine does_id ?_) | (with_reducible refine ops_id ?_)); refine walk ?_; (repeat' (first | exact trivial | with_reducible refine And.intro ?_ ?_)); all_goals (repeat (first | (with_reducible refine ImpB.mk fun hb => ?_) | (with_reducible refine ImpK.mk fun hK => ?_) | (with_reducible refine ImpF.mk fun hF => ?_) | (with_reducible refine ImpQ.mk fun hp => ?_) | (with_reducible refine AllE.mk fun p => ?_) | (with_reducible refine AllR.mk fun rest => ?_) | (with_reducible refine AllK.mk fun K => ?_))))); repeat' (with_reducible refine And.intro ?_ ?_))
        all_goals first | exact i1 | exact i2 | exact Int.natCast_nonneg _ | omega | skip
        refine ⟨(c + 1, j), ⟨⟨by dsimp only; omega, by dsimp only; omega, h3, fun u e1 e2 => ?_, h5⟩, by dsimp only; omega⟩, ?_⟩
        · dsimp only at e2
          by_cases e : u = c
          · rw [e]; omega
          · have := hs u c e1 (by omega) (by omega); omega
        (focus (refine ⟨_, _, Gh.refl, [0], rfl, ?_⟩; (refine fitq ?_ ?_ ?_ <;> try exact trivial); (try any_goals (refine ⟨?_, ?_⟩)); (try any_goals (with_reducible rfl))))
    · have d1 : decide ((i : Int) < (j : Int)) = false := decide_eq_false (by omega)
      obtain rfl : i = j := by omega
      (have zx1 := @d1; all_goals (try ((first | (with_reducible refine wp_id ?_) | (with_reducible refine does_id ?_) | (with_reducible refine ops_id ?_)); refine walk ?_; (repeat' (first | exact trivial | with_reducible refine And.intro ?_ ?_)); all_goals (repeat (first | (with_reducible refine ImpB.mk fun hb => ?_) | (with_reducible refine ImpK.mk fun hK => ?_) | (with_reducible refine ImpF.mk fun hF => ?_) | (with_reducible refine ImpQ.mk fun hp => ?_) | (with_reducible refine AllE.mk fun p => ?_) | (with_reducible refine AllR.mk fun rest => ?_) | (with_reducible refine AllK.mk fun K => ?_))))); repeat' (with_reducible refine And.intro ?_ ?_))
      any_goals ((try (refine w_seq fun K hK => ?_)); (try (refine w_block ?_)); refine w_loop (A := Nat × List Itm) (fun p => i ≤ p.1 ∧ p.1 ≤ m ∧ mid tmI xs a (m + 1) p.2 ∧ p.2.getD p.1 Itm.zero = xs.getD m Itm.zero ∧ (∀ u, u < p.1 → p.2.getD u Itm.zero = xs.getD u Itm.zero) ∧ (∀ u v, a ≤ u → u < v → v ≤ m → v ≠ p.1 → tmI (p.2.getD u Itm.zero) ≤ tmI (p.2.getD v Itm.zero))) (fun p => p.1) (fun p => [(14, .int .i64 i), (17, .int .i64 p.1)]) (fun p => [(0, .rows .itm p.2)]) ((m, xs)) (ws := ?ws2) (tk := ?tk2) ?hw2 ?ht2 ?hi_1 ?h0_1 ?LH2; (case hw2 => simp only [go_sem, decide_true, decide_false, Int.reduceToNat, Nat.min_eq_left, Nat.min_eq_right, Int.reducePow, Nat.reducePow, Int.reduceLE, Int.reduceLT, Int.reduceMul, Int.reduceAdd, Int.reduceSub, Int.reduceNeg, Bool.not_true, Bool.not_false, Bool.not_not, ↓reduceIte, Nat.reduceAdd, Nat.reduceSub, Nat.reduceMul, Nat.reduceEqDiff, reduceCtorEq, Nat.reduceLT, Nat.reduceLeDiff, Nat.reduceGT]; exact rfl); (case ht2 => simp only [go_sem, decide_true, decide_false, Int.reduceToNat, Nat.min_eq_left, Nat.min_eq_right, Int.reducePow, Nat.reducePow, Int.reduceLE, Int.reduceLT, Int.reduceMul, Int.reduceAdd, Int.reduceSub, Int.reduceNeg, Bool.not_true, Bool.not_false, Bool.not_not, ↓reduceIte, Nat.reduceAdd, Nat.reduceSub, Nat.reduceMul, Nat.reduceEqDiff, reduceCtorEq, Nat.reduceLT, Nat.reduceLeDiff, Nat.reduceGT]; exact rfl); (case' LH2 => rintro ⟨k, zs⟩ E t hx hE ht; simp only [go_sem] at ht; subst ht; simp only [go_sem]; try dsimp only at hx))
      case hi_1 => exact ⟨h3, Nat.le_refl _, ⟨rfl, KE.refl, rfl, rfl⟩, rfl, fun u _ => rfl, fun u v e1 e2 e3 e4 => hs u v e1 e2 (by dsimp only at e4; omega)⟩
      case h0_1 => (focus (refine ⟨_, _, Gh.refl, [0], rfl, ?_⟩; (refine fitq ?_ ?_ ?_ <;> try exact trivial); (try any_goals (refine ⟨?_, ?_⟩)); (try any_goals (with_reducible rfl))))
      case LH2 =>
        obtain ⟨g1, g2, g3, g4, g5, g6⟩ := hx
        have g3' := g3
        obtain ⟨p1, p2, p3, p4⟩ := g3'
        (try dsimp only at g1 g2 p1 p2 p3 p4 g4 g5 g6)
        by_cases hk : i < k
        · have d2 : decide ((i : Int) < (k : Int)) = true := decide_eq_true (by omega)
          obtain ⟨k, rfl⟩ : ∃ k', k = k' + 1 := ⟨k - 1, by omega⟩
          have hkl : k + 1 < zs.length := by omega
          have w0 : IntKind.i64.wrap (((k + 1 : Nat) : Int) - 1) = (k : Int) := by rw [wrap_i64 _ (by omega) (by omega)]; omega
          have c : tmI (zs.getD (k + 1) Itm.zero) < tmI (zs.getD k Itm.zero) := by
            rw [g4, g5 k (by omega)]
            exact h5 k (by omega) (by omega)
          (have zx1 := @d2; have zx2 := @w0; have zx3 := @p1; all_goals (try ((first | (with_reducible refine wp_id ?_) | (with_reducible refine does_id ?_) | (with_reducible refine ops_id ?_)); refine walk ?_; (repeat' (first | exact trivial | with_reducible refine And.intro ?_ ?_)); all_goals (repeat (first | (with_reducible refine ImpB.mk fun hb => ?_) | (with_reducible refine ImpK.mk fun hK => ?_) | (with_reducible refine ImpF.mk fun hF => ?_) | (with_reducible refine ImpQ.mk fun hp => ?_) | (with_reducible refine AllE.mk fun p => ?_) | (with_reducible refine AllR.mk fun rest => ?_) | (with_reducible refine AllK.mk fun K => ?_))))); repeat' (with_reducible refine And.intro ?_ ?_))
          all_goals first | exact Int.natCast_nonneg _ | omega | skip
          refine ⟨(k, swA k zs), ⟨⟨by (try dsimp only); omega, by (try dsimp only); omega, g3.sw (by omega) (by omega) (by omega) c, ?_, fun u hu => ?_, fun u v e1 e2 e3 e4 => ?_⟩, by (try dsimp only); omega⟩, ?_⟩
          · dsimp only
            rw [swA_get hkl, if_pos rfl]; exact g4
          · dsimp only at hu ⊢
            rw [swA_get hkl, if_neg (by omega), if_neg (by omega)]
            exact g5 u (by omega)
          · dsimp only at e4 ⊢
            rw [swA_get hkl, swA_get hkl]
            have s1 := fun h => g6 u k e1 h (by omega) (by omega)
            have s2 := g6 u v e1 e2 e3
            have s3 := fun h h' => g6 k v (by omega) h e3 h'
            by_cases u1 : u = k
            · subst u1
              rw [if_pos rfl, if_neg (by omega)]
              by_cases v1 : v = u + 1
              · rw [if_pos v1]; omega
              · rw [if_neg v1]; have := s3 (by omega) v1; omega
            · rw [if_neg u1]
              by_cases u2 : u = k + 1
              · rw [if_pos u2, if_neg (by omega), if_neg (by omega)]
                exact s3 (by omega) (by omega)
              · rw [if_neg u2, if_neg (by omega)]
                by_cases v1 : v = k + 1
                · rw [if_pos v1]; exact s1 (by omega)
                · rw [if_neg v1]; exact s2 v1
          (focus (refine ⟨_, _, Gh.refl, [0], rfl, ?_⟩; (refine fitq ?_ ?_ ?_ <;> try exact trivial); (try any_goals (refine ⟨?_, ?_⟩)); (try any_goals (with_reducible rfl))))
          all_goals exact rfl
        · have d2 : decide ((i : Int) < (k : Int)) = false := decide_eq_false (by omega)
          obtain rfl : k = i := by omega
          (have zx1 := @d2; all_goals (try ((first | (with_reducible refine wp_id ?_) | (with_reducible refine does_id ?_) | (with_reducible refine ops_id ?_)); refine walk ?_; (repeat' (first | exact trivial | with_reducible refine And.intro ?_ ?_)); all_goals (repeat (first | (with_reducible refine ImpB.mk fun hb => ?_) | (with_reducible refine ImpK.mk fun hK => ?_) | (with_reducible refine ImpF.mk fun hF => ?_) | (with_reducible refine ImpQ.mk fun hp => ?_) | (with_reducible refine AllE.mk fun p => ?_) | (with_reducible refine AllR.mk fun rest => ?_) | (with_reducible refine AllK.mk fun K => ?_))))); repeat' (with_reducible refine And.intro ?_ ?_))
          rw [← srtR_uniq (by omega) p1 p2 p3 p4 fun u v e1 e2 e3 e4 => ?_]
          · (focus (refine ⟨_, _, Gh.refl, [0], rfl, ?_⟩; (refine fitq ?_ ?_ ?_ <;> try exact trivial); (try any_goals (refine ⟨?_, ?_⟩)); (try any_goals (with_reducible rfl))))
          · by_cases v1 : v = k
            · subst v1
              rw [g4, g5 u e2]
              exact h4 u e1 e2
            · exact g6 u v e1 e2 (by omega) v1
end Go.V
