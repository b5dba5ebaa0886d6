/-
  Jobs: the stable sort.
  archive: Between agrees (plain).
  archive: Between at any number of application processes.
  ArchiveSelects: Between returns the specified items.
-/
import Derived.Test.YtoohlpieakeecaaPart21
set_option linter.unusedVariables false
set_option linter.unusedSimpArgs false
set_option maxRecDepth 100000
set_option maxHeartbeats 8000000
namespace Go.V
open Go.Proofs
theorem srtR_out {f : Itm → Int} {a b i : Nat} {xs : List Itm} (hab : a ≤ b) (hb : b ≤ xs.length) (h : i < a ∨ b ≤ i) : (srtR f a b xs).getD i Itm.zero = xs.getD i Itm.zero := by
  have hl : (srt f ((xs.take b).drop a)).length = b - a := by rw [srt_lenK, List.length_drop, List.length_take]; omega
  have ht : (xs.take a).length = a := by rw [List.length_take]; omega
  unfold srtR
  rw [List.getD_eq_getElem?_getD, List.getD_eq_getElem?_getD]
  rcases h with h | h
  · rw [List.append_assoc, List.getElem?_append_left (by omega), List.getElem?_take_of_lt h]
  · rw [List.getElem?_append_right (by rw [List.length_append]; omega), List.length_append, hl, ht, List.getElem?_drop]
    congr 2; omega
theorem srtR_in {f : Itm → Int} {a b u v : Nat} {xs : List Itm} (hb : b ≤ xs.length) (h1 : a ≤ u) (h2 : u < v) (h3 : v < b) : f ((srtR f a b xs).getD u Itm.zero) ≤ f ((srtR f a b xs).getD v Itm.zero) := by
  have hab : a ≤ b := by omega
  have ht : (xs.take a).length = a := by rw [List.length_take]; omega
  have hl : ((xs.take b).drop a).length = b - a := by rw [List.length_drop, List.length_take]; omega
  refine Srt_ix (a := a) (b := b) ?_ (by rw [srtR_len hab]; exact hb) h1 h2 h3
  unfold srtR
  rw [part_app ht.symm (by rw [srt_lenK]; omega)]
  exact srt_Srt
theorem ix_Srt {f : Itm → Int} {a b : Nat} {zs : List Itm} (hb : b ≤ zs.length) (hs : ∀ p q, a ≤ p → p < q → q < b → f (zs.getD p Itm.zero) ≤ f (zs.getD q Itm.zero)) : Srt f ((zs.take b).drop a) := by
  refine List.pairwise_iff_getElem.2 fun i j hi hj hij => ?_
  rw [List.length_drop, List.length_take] at hj
  have := hs (a + i) (a + j) (by omega) (by omega) (by omega)
  rw [List.getElem_drop, List.getElem_take, List.getElem_drop, List.getElem_take]
  rw [List.getD_eq_getElem?_getD, List.getD_eq_getElem?_getD, List.getElem?_eq_getElem (by omega), List.getElem?_eq_getElem (by omega)] at this
  exact this
/-- the blocks of B that begin behind lo are sorted, up to hi -/
def SB (f : Itm → Int) (B lo hi : Nat) (zs : List Itm) : Prop := ∀ k u v, lo ≤ k * B → k * B ≤ u → u < v → v < k * B + B → v < hi → f (zs.getD u Itm.zero) ≤ f (zs.getD v Itm.zero)
theorem SB.step20 {f : Itm → Int} {k : Nat} {zs : List Itm} (h : SB f 20 0 (20 * k) zs) {b : Nat} (h1 : 20 * k ≤ b) (h2 : b ≤ 20 * k + 20) (hb : b ≤ zs.length) : SB f 20 0 b (srtR f (20 * k) b zs) := fun j u v _ g1 g2 g3 g4 => by
  by_cases c : j < k
  · rw [srtR_out h1 hb (.inl (by omega)), srtR_out h1 hb (.inl (by omega))]
    exact h j u v (Nat.zero_le _) g1 g2 g3 (by omega)
  · exact srtR_in hb (by omega) g2 g4
theorem SB.left {f : Itm → Int} {a B n k : Nat} {zs : List Itm} (h : SB f B a n zs) (hk : a = k * (2 * B)) (hb : a + B ≤ n) (hn : n ≤ zs.length) : Srt f ((zs.take (a + B)).drop a) := by
  have e : 2 * k * B = a := by rw [hk, Nat.mul_comm 2 k, Nat.mul_assoc]
  exact ix_Srt (by omega) fun p q h1 h2 h3 => h (2 * k) p q (by omega) (by omega) h2 (by omega) (by omega)
theorem SB.right {f : Itm → Int} {a B n k m : Nat} {zs : List Itm} (h : SB f B a n zs) (hk : a = k * (2 * B)) (hm : m ≤ a + 2 * B) (hb : m ≤ n) (hn : n ≤ zs.length) : Srt f ((zs.take m).drop (a + B)) := by
  have e : 2 * k * B = a := by rw [hk, Nat.mul_comm 2 k, Nat.mul_assoc]
  have e2 : (2 * k + 1) * B = a + B := by rw [Nat.succ_mul, e]
  exact ix_Srt (by omega) fun p q h1 h2 h3 => h (2 * k + 1) p q (by omega) (by omega) h2 (by omega) (by omega)
theorem SB.step {f : Itm → Int} {a B k b : Nat} {zs : List Itm} (h : SB f (2 * B) 0 a zs) (hk : a = k * (2 * B)) (h1 : a ≤ b) (h2 : b ≤ a + 2 * B) (hb : b ≤ zs.length) : SB f (2 * B) 0 b (srtR f a b zs) := fun j u v _ g1 g2 g3 g4 => by
  by_cases c : j < k
  · have q : (j + 1) * (2 * B) ≤ k * (2 * B) := Nat.mul_le_mul_right _ c
    rw [Nat.succ_mul, ← hk] at q
    rw [srtR_out h1 hb (.inl (by omega)), srtR_out h1 hb (.inl (by omega))]
    exact h j u v (Nat.zero_le _) g1 g2 g3 (by omega)
  · have q : k * (2 * B) ≤ j * (2 * B) := Nat.mul_le_mul_right _ (by omega)
    exact srtR_in hb (by omega) g2 g4
theorem SB.keep {f : Itm → Int} {a B b n : Nat} {zs : List Itm} (h : SB f B a n zs) (h1 : a ≤ b) (hb : b ≤ zs.length) : SB f B b n (srtR f a b zs) := fun j u v g0 g1 g2 g3 g4 => by
  rw [srtR_out h1 hb (.inr (by omega)), srtR_out h1 hb (.inr (by omega))]
  exact h j u v (by omega) g1 g2 g3 g4
theorem SB.last {f : Itm → Int} {a B k n : Nat} {zs : List Itm} (h : SB f (2 * B) 0 a zs) (h' : SB f B a n zs) (hk : a = k * (2 * B)) (h2 : n ≤ a + B) : SB f (2 * B) 0 n zs := fun j u v _ g1 g2 g3 g4 => by
  by_cases c : j < k
  · have q : (j + 1) * (2 * B) ≤ k * (2 * B) := Nat.mul_le_mul_right _ c
    rw [Nat.succ_mul, ← hk] at q
    exact h j u v (Nat.zero_le _) g1 g2 g3 (by omega)
  · have q : k * (2 * B) ≤ j * (2 * B) := Nat.mul_le_mul_right _ (by omega)
    have e : 2 * k * B = a := by rw [hk, Nat.mul_comm 2 k, Nat.mul_assoc]
    exact h' (2 * k) u v (by omega) (by omega) g2 (by omega) g4
theorem SB.done {f : Itm → Int} {B : Nat} {xs zs : List Itm} (h : SB f B 0 xs.length zs) (hB : xs.length ≤ B) (hl : zs.length = xs.length) (hk : KE f xs zs) : zs = srt f xs := by
  have := srtR_uniq (f := f) (a := 0) (b := xs.length) (xs := xs) (zs := zs) (Nat.zero_le _) hl hk (by simp) (by rw [List.drop_eq_nil_of_le (by omega), List.drop_eq_nil_of_le (Nat.le_refl _)]) fun p q h1 h2 h3 h4 => h 0 p q (by omega) (by omega) h2 (by omega) h3
  rw [this, srtR_all]
theorem b_stabG (xs : List Itm) (n : Nat) (hn : xs.length = n) (hi : ∀ x ∈ xs, okT x) (hl : n ≤ 1099511627776) : DoesK Try.prog 1 57 [.sl 0 .itm 0 n, .int .i64 n, .fn 47 []] [.rows .itm xs]
    (EndF 1 (.tup []) ([.rows .itm (srt tmI xs)] ++ [])) := by
  refine DoesK.close ?_
  refine w_body (rs := []) (tm := [.sl 0 .itm 0 n, .int .i64 n, .fn 47 [], .any, .any, .any, .any, .any, .any, .any, .any, .any, .any, .any, .any, .any, .any, .any, .any, .any, .any, .any, .any, .any, .any, .any, .any, .any, .any, .any, .any, .any, .any, .any, .any, .any, .any, .any, .any, .any, .any, .any, .any, .any, .any, .any, .any, .any, .any, .any, .any, .any, .any, .any, .any, .any, .any, .any, .any, .any, .any, .any, .any]) fn_57 rfl rfl rfl rfl fun R hR => ?_
  (all_goals (try ((first | (with_reducible refine wp_id ?_) | (with_reducible refine does_id ?_) | (with_reducible refine ops_id ?_)); refine walk ?_; (repeat' (first | exact trivial | with_reducible refine And.intro ?_ ?_)); all_goals (repeat (first | (with_reducible refine ImpB.mk fun hb => ?_) | (with_reducible refine ImpK.mk fun hK => ?_) | (with_reducible refine ImpF.mk fun hF => ?_) | (with_reducible refine ImpQ.mk fun hp => ?_) | (with_reducible refine AllE.mk fun p => ?_) | (with_reducible refine AllR.mk fun rest => ?_) | (with_reducible refine AllK.mk fun K => ?_))))); repeat' (with_reducible refine And.intro ?_ ?_))
  any_goals ((try (refine w_seq fun K hK => ?_)); (try (refine w_block ?_)); refine w_loop (A := Nat × List Itm) (fun p => 20 * p.1 ≤ n ∧ p.2.length = n ∧ KE tmI xs p.2 ∧ SB tmI 20 0 (20 * p.1) p.2) (fun p => n - 20 * p.1) (fun p => [(6, .int .i64 20), (7, .int .i64 (20 * p.1 : Nat)), (8, .int .i64 (20 * p.1 + 20 : Nat))]) (fun p => [(0, .rows .itm p.2)]) ((0, xs)) (ws := ?ws1) (tk := ?tk1) ?hw1 ?ht1 ?hi ?h0 ?LH1; (case hw1 => simp only [go_sem, decide_true, decide_false, Int.reduceToNat, Nat.min_eq_left, Nat.min_eq_right, Int.reducePow, Nat.reducePow, Int.reduceLE, Int.reduceLT, Int.reduceMul, Int.reduceAdd, Int.reduceSub, Int.reduceNeg, Bool.not_true, Bool.not_false, Bool.not_not, ↓reduceIte, Nat.reduceAdd, Nat.reduceSub, Nat.reduceMul, Nat.reduceEqDiff, reduceCtorEq, Nat.reduceLT, Nat.reduceLeDiff, Nat.reduceGT]; exact rfl); (case ht1 => simp only [go_sem, decide_true, decide_false, Int.reduceToNat, Nat.min_eq_left, Nat.min_eq_right, Int.reducePow, Nat.reducePow, Int.reduceLE, Int.reduceLT, Int.reduceMul, Int.reduceAdd, Int.reduceSub, Int.reduceNeg, Bool.not_true, Bool.not_false, Bool.not_not, ↓reduceIte, Nat.reduceAdd, Nat.reduceSub, Nat.reduceMul, Nat.reduceEqDiff, reduceCtorEq, Nat.reduceLT, Nat.reduceLeDiff, Nat.reduceGT]; exact rfl); (case' LH1 => rintro ⟨k, zs⟩ E t hx hE ht; simp only [go_sem] at ht; subst ht; simp only [go_sem]; try dsimp only at hx))
  case hi => exact ⟨by dsimp only; omega, hn, KE.refl, fun k u v h0 h1 h2 h3 h4 => absurd h4 (by dsimp only; omega)⟩
  case h0 => (focus (refine ⟨_, _, Gh.refl, [0], rfl, ?_⟩; (refine fitq ?_ ?_ ?_ <;> try exact trivial); (try any_goals (refine ⟨?_, ?_⟩)); (try any_goals (with_reducible rfl)))); (all_goals first | exact rfl | omega)
  case LH1 =>
    obtain ⟨h1, h2, h3, h4⟩ := hx
    (try dsimp only at h1 h2 h3 h4)
    have iz := KE.all h3 hi
    by_cases h20 : 20 * k + 20 ≤ n
    · have d1 : decide (((20 * k + 20 : Nat) : Int) ≤ (n : Int)) = true := decide_eq_true (by omega)
      have w1 : IntKind.i64.wrap (((20 * k + 20 : Nat) : Int) + 20) = ((20 * (k + 1) + 20 : Nat) : Int) := by rw [wrap_i64 _ (by omega) (by omega)]; omega
      obtain ⟨ys, hys⟩ : ∃ ys, srtR tmI (20 * k) (20 * k + 20) zs = ys := ⟨_, rfl⟩
      have s0 := SB.step20 h4 (b := 20 * k + 20) (by omega) (by omega) (by omega)
      have s1 := h3.trans (srtR_KE (f := tmI) (a := 20 * k) (b := 20 * k + 20) (xs := zs) (by omega))
      have s2 := srtR_len (f := tmI) (a := 20 * k) (b := 20 * k + 20) (xs := zs) (by omega)
      rw [hys] at s0 s1 s2
      (have zx1 := @d1; have zx2 := @w1; have zx3 := @hys; all_goals (try ((first | (with_reducible refine wp_id ?_) | (with_reducible refine does_id ?_) | (with_reducible refine ops_id ?_)); refine walk ?_; (repeat' (first | exact trivial | with_reducible refine And.intro ?_ ?_)); all_goals (repeat (first | (with_reducible refine ImpB.mk fun hb => ?_) | (with_reducible refine ImpK.mk fun hK => ?_) | (with_reducible refine ImpF.mk fun hF => ?_) | (with_reducible refine ImpQ.mk fun hp => ?_) | (with_reducible refine AllE.mk fun p => ?_) | (with_reducible refine AllR.mk fun rest => ?_) | (with_reducible refine AllK.mk fun K => ?_))))); repeat' (with_reducible refine And.intro ?_ ?_))
      all_goals first | exact iz | omega | skip
      refine ⟨(k + 1, ys), ⟨⟨by dsimp only; omega, by dsimp only; omega, s1, by dsimp only; exact s0⟩, by dsimp only; omega⟩, ?_⟩
      (focus (refine ⟨_, _, Gh.refl, [0], rfl, ?_⟩; (refine fitq ?_ ?_ ?_ <;> try exact trivial); (try any_goals (refine ⟨?_, ?_⟩)); (try any_goals (with_reducible rfl))))
      all_goals first | exact rfl | exact hys.symm | omega
    · have d1 : decide (((20 * k + 20 : Nat) : Int) ≤ (n : Int)) = false := decide_eq_false (by omega)
      obtain ⟨ys, hys⟩ : ∃ ys, srtR tmI (20 * k) n zs = ys := ⟨_, rfl⟩
      have s0 := SB.step20 h4 (b := n) (by omega) (by omega) (by omega)
      have s1 := h3.trans (srtR_KE (f := tmI) (a := 20 * k) (b := n) (xs := zs) (by omega))
      have s2 := srtR_len (f := tmI) (a := 20 * k) (b := n) (xs := zs) (by omega)
      rw [hys] at s0 s1 s2
      (have zx1 := @d1; have zx2 := @hys; all_goals (try ((first | (with_reducible refine wp_id ?_) | (with_reducible refine does_id ?_) | (with_reducible refine ops_id ?_)); refine walk ?_; (repeat' (first | exact trivial | with_reducible refine And.intro ?_ ?_)); all_goals (repeat (first | (with_reducible refine ImpB.mk fun hb => ?_) | (with_reducible refine ImpK.mk fun hK => ?_) | (with_reducible refine ImpF.mk fun hF => ?_) | (with_reducible refine ImpQ.mk fun hp => ?_) | (with_reducible refine AllE.mk fun p => ?_) | (with_reducible refine AllR.mk fun rest => ?_) | (with_reducible refine AllK.mk fun K => ?_))))); repeat' (with_reducible refine And.intro ?_ ?_))
      all_goals first | exact iz | omega | skip
      any_goals ((try (refine w_seq fun K hK => ?_)); (try (refine w_block ?_)); refine w_loop (A := Nat × List Itm) (fun p => 20 ≤ p.1 ∧ p.1 ≤ 2 * n + 20 ∧ p.2.length = n ∧ KE tmI xs p.2 ∧ SB tmI p.1 0 n p.2) (fun p => n - p.1) (fun p => [(6, .int .i64 p.1)]) (fun p => [(0, .rows .itm p.2)]) ((20, ys)) (ws := ?ws2) (tk := ?tk2) ?hw2 ?ht2 ?hi_1 ?h0_1 ?LH2; (case hw2 => simp only [go_sem, decide_true, decide_false, Int.reduceToNat, Nat.min_eq_left, Nat.min_eq_right, Int.reducePow, Nat.reducePow, Int.reduceLE, Int.reduceLT, Int.reduceMul, Int.reduceAdd, Int.reduceSub, Int.reduceNeg, Bool.not_true, Bool.not_false, Bool.not_not, ↓reduceIte, Nat.reduceAdd, Nat.reduceSub, Nat.reduceMul, Nat.reduceEqDiff, reduceCtorEq, Nat.reduceLT, Nat.reduceLeDiff, Nat.reduceGT]; exact rfl); (case ht2 => simp only [go_sem, decide_true, decide_false, Int.reduceToNat, Nat.min_eq_left, Nat.min_eq_right, Int.reducePow, Nat.reducePow, Int.reduceLE, Int.reduceLT, Int.reduceMul, Int.reduceAdd, Int.reduceSub, Int.reduceNeg, Bool.not_true, Bool.not_false, Bool.not_not, ↓reduceIte, Nat.reduceAdd, Nat.reduceSub, Nat.reduceMul, Nat.reduceEqDiff, reduceCtorEq, Nat.reduceLT, Nat.reduceLeDiff, Nat.reduceGT]; exact rfl); (case' LH2 => rintro ⟨B, vs⟩ E t hx hE ht; simp only [go_sem] at ht; subst ht; simp only [go_sem]; try dsimp only at hx))
      case hi_1 => exact ⟨Nat.le_refl _, by dsimp only; omega, by dsimp only; omega, s1, s0⟩
      case h0_1 => (focus (refine ⟨_, _, Gh.refl, [0], rfl, ?_⟩; (refine fitq ?_ ?_ ?_ <;> try exact trivial); (try any_goals (refine ⟨?_, ?_⟩)); (try any_goals (with_reducible rfl)))); (all_goals first | exact rfl | exact hys.symm)
      case LH2 =>
        obtain ⟨g1, g2, g3, g4, g5⟩ := hx
        (try dsimp only at g1 g2 g3 g4 g5)
        by_cases hB : B < n
        · have d2 : decide ((B : Int) < (n : Int)) = true := decide_eq_true (by omega)
          have w2 : IntKind.i64.wrap (2 * (B : Int)) = ((2 * B : Nat) : Int) := by rw [wrap_i64 _ (by omega) (by omega)]; omega
          (have zx1 := @d2; have zx2 := @w2; all_goals (try ((first | (with_reducible refine wp_id ?_) | (with_reducible refine does_id ?_) | (with_reducible refine ops_id ?_)); refine walk ?_; (repeat' (first | exact trivial | with_reducible refine And.intro ?_ ?_)); all_goals (repeat (first | (with_reducible refine ImpB.mk fun hb => ?_) | (with_reducible refine ImpK.mk fun hK => ?_) | (with_reducible refine ImpF.mk fun hF => ?_) | (with_reducible refine ImpQ.mk fun hp => ?_) | (with_reducible refine AllE.mk fun p => ?_) | (with_reducible refine AllR.mk fun rest => ?_) | (with_reducible refine AllK.mk fun K => ?_))))); repeat' (with_reducible refine And.intro ?_ ?_))
          any_goals ((try (refine w_seq fun K hK => ?_)); (try (refine w_block ?_)); refine w_loop (A := Nat × List Itm) (fun p => (∃ k, p.1 = k * (2 * B)) ∧ p.1 ≤ n ∧ p.2.length = n ∧ KE tmI xs p.2 ∧ SB tmI (2 * B) 0 p.1 p.2 ∧ SB tmI B p.1 n p.2) (fun p => n - p.1) (fun p => [(6, .int .i64 B), (7, .int .i64 p.1), (8, .int .i64 (p.1 + 2 * B : Nat))]) (fun p => [(0, .rows .itm p.2)]) ((0, vs)) (ws := ?ws3) (tk := ?tk3) ?hw3 ?ht3 ?hi_2 ?h0_2 ?LH3; (case hw3 => simp only [go_sem, decide_true, decide_false, Int.reduceToNat, Nat.min_eq_left, Nat.min_eq_right, Int.reducePow, Nat.reducePow, Int.reduceLE, Int.reduceLT, Int.reduceMul, Int.reduceAdd, Int.reduceSub, Int.reduceNeg, Bool.not_true, Bool.not_false, Bool.not_not, ↓reduceIte, Nat.reduceAdd, Nat.reduceSub, Nat.reduceMul, Nat.reduceEqDiff, reduceCtorEq, Nat.reduceLT, Nat.reduceLeDiff, Nat.reduceGT]; exact rfl); (case ht3 => simp only [go_sem, decide_true, decide_false, Int.reduceToNat, Nat.min_eq_left, Nat.min_eq_right, Int.reducePow, Nat.reducePow, Int.reduceLE, Int.reduceLT, Int.reduceMul, Int.reduceAdd, Int.reduceSub, Int.reduceNeg, Bool.not_true, Bool.not_false, Bool.not_not, ↓reduceIte, Nat.reduceAdd, Nat.reduceSub, Nat.reduceMul, Nat.reduceEqDiff, reduceCtorEq, Nat.reduceLT, Nat.reduceLeDiff, Nat.reduceGT]; exact rfl); (case' LH3 => rintro ⟨a, us⟩ E t hx hE ht; simp only [go_sem] at ht; subst ht; simp only [go_sem]; try dsimp only at hx))
          case hi_2 => exact ⟨⟨0, by simp⟩, Nat.zero_le _, g3, g4, fun k u v h0 h1 h2 h3 h4 => absurd h4 (Nat.not_lt_zero _), g5⟩
          case h0_2 => (focus (refine ⟨_, _, Gh.refl, [0], rfl, ?_⟩; (refine fitq ?_ ?_ ?_ <;> try exact trivial); (try any_goals (refine ⟨?_, ?_⟩)); (try any_goals (with_reducible rfl)))); (all_goals first | exact rfl | omega)
          case LH3 =>
            obtain ⟨⟨k', f1⟩, f2, f3, f4, f5, f6⟩ := hx
            (try dsimp only at f1 f2 f3 f4 f5 f6)
            have iu := KE.all f4 hi
            have w3 : IntKind.i64.wrap ((a : Int) + (B : Int)) = ((a + B : Nat) : Int) := by rw [wrap_i64 _ (by omega) (by omega)]; omega
            by_cases c : a + 2 * B ≤ n
            · have d3 : decide (((a + 2 * B : Nat) : Int) ≤ (n : Int)) = true := decide_eq_true (by omega)
              have w4 : IntKind.i64.wrap (((a + 2 * B : Nat) : Int) + ((2 * B : Nat) : Int)) = ((a + 2 * B + 2 * B : Nat) : Int) := by rw [wrap_i64 _ (by omega) (by omega)]; omega
              obtain ⟨ts, hts⟩ : ∃ ys, srtR tmI a (a + 2 * B) us = ys := ⟨_, rfl⟩
              have t0 := SB.step f5 f1 (b := a + 2 * B) (by omega) (by omega) (by omega)
              have t1 := f4.trans (srtR_KE (f := tmI) (a := a) (b := a + 2 * B) (xs := us) (by omega))
              have t2 := srtR_len (f := tmI) (a := a) (b := a + 2 * B) (xs := us) (by omega)
              have t3 := SB.keep f6 (b := a + 2 * B) (by omega) (by omega)
              have t4 := SB.left f6 f1 (by omega) (by omega)
              have t5 := SB.right f6 f1 (m := a + 2 * B) (by omega) c (by omega)
              rw [hts] at t0 t1 t2 t3
              (have zx1 := @d3; have zx2 := @w2; have zx3 := @w3; have zx4 := @w4; have zx5 := @hts; all_goals (try ((first | (with_reducible refine wp_id ?_) | (with_reducible refine does_id ?_) | (with_reducible refine ops_id ?_)); refine walk ?_; (repeat' (first | exact trivial | with_reducible refine And.intro ?_ ?_)); all_goals (repeat (first | (with_reducible refine ImpB.mk fun hb => ?_) | (with_reducible refine ImpK.mk fun hK => ?_) | (with_reducible refine ImpF.mk fun hF => ?_) | (with_reducible refine ImpQ.mk fun hp => ?_) | (with_reducible refine AllE.mk fun p => ?_) | (with_reducible refine AllR.mk fun rest => ?_) | (with_reducible refine AllK.mk fun K => ?_))))); repeat' (with_reducible refine And.intro ?_ ?_))
              all_goals first | exact iu | exact t4 | exact t5 | omega | skip
              refine ⟨(a + 2 * B, ts), ⟨⟨⟨k' + 1, by dsimp only; have := Nat.add_mul k' 1 (2 * B); omega⟩, by dsimp only; omega, by dsimp only; omega, t1, t0, t3⟩, by dsimp only; omega⟩, ?_⟩
              (focus (refine ⟨_, _, Gh.refl, [0], rfl, ?_⟩; (refine fitq ?_ ?_ ?_ <;> try exact trivial); (try any_goals (refine ⟨?_, ?_⟩)); (try any_goals (with_reducible rfl))))
              all_goals first | exact rfl | exact hts.symm | omega
            · have d3 : decide (((a + 2 * B : Nat) : Int) ≤ (n : Int)) = false := decide_eq_false (by omega)
              have w5 : IntKind.i64.wrap ((B : Int) * 2) = ((2 * B : Nat) : Int) := by rw [wrap_i64 _ (by omega) (by omega)]; omega
              by_cases c2 : a + B < n
              · have d4 : decide (((a + B : Nat) : Int) < (n : Int)) = true := decide_eq_true (by omega)
                obtain ⟨ts, hts⟩ : ∃ ys, srtR tmI a n us = ys := ⟨_, rfl⟩
                have t0 := SB.step f5 f1 (b := n) (by omega) (by omega) (by omega)
                have t1 := f4.trans (srtR_KE (f := tmI) (a := a) (b := n) (xs := us) (by omega))
                have t2 := srtR_len (f := tmI) (a := a) (b := n) (xs := us) (by omega)
                have t4 := SB.left f6 f1 (by omega) (by omega)
                have t5 := SB.right f6 f1 (m := n) (by omega) (Nat.le_refl _) (by omega)
                rw [hts] at t0 t1 t2
                (have zx1 := @d3; have zx2 := @w3; have zx3 := @w5; have zx4 := @d4; have zx5 := @hts; all_goals (try ((first | (with_reducible refine wp_id ?_) | (with_reducible refine does_id ?_) | (with_reducible refine ops_id ?_)); refine walk ?_; (repeat' (first | exact trivial | with_reducible refine And.intro ?_ ?_)); all_goals (repeat (first | (with_reducible refine ImpB.mk fun hb => ?_) | (with_reducible refine ImpK.mk fun hK => ?_) | (with_reducible refine ImpF.mk fun hF => ?_) | (with_reducible refine ImpQ.mk fun hp => ?_) | (with_reducible refine AllE.mk fun p => ?_) | (with_reducible refine AllR.mk fun rest => ?_) | (with_reducible refine AllK.mk fun K => ?_))))); repeat' (with_reducible refine And.intro ?_ ?_))
                all_goals first | exact iu | exact t4 | exact t5 | omega | skip
                refine ⟨(2 * B, ts), ⟨⟨by dsimp only; omega, by dsimp only; omega, by dsimp only; omega, t1, t0⟩, by dsimp only; omega⟩, ?_⟩
                (focus (refine ⟨_, _, Gh.refl, [0], rfl, ?_⟩; (refine fitq ?_ ?_ ?_ <;> try exact trivial); (try any_goals (refine ⟨?_, ?_⟩)); (try any_goals (with_reducible rfl))))
                all_goals first | exact rfl | exact hts.symm | omega
              · have d4 : decide (((a + B : Nat) : Int) < (n : Int)) = false := decide_eq_false (by omega)
                have t0 := SB.last f5 f6 f1 (by omega)
                (have zx1 := @d3; have zx2 := @w3; have zx3 := @w5; have zx4 := @d4; all_goals (try ((first | (with_reducible refine wp_id ?_) | (with_reducible refine does_id ?_) | (with_reducible refine ops_id ?_)); refine walk ?_; (repeat' (first | exact trivial | with_reducible refine And.intro ?_ ?_)); all_goals (repeat (first | (with_reducible refine ImpB.mk fun hb => ?_) | (with_reducible refine ImpK.mk fun hK => ?_) | (with_reducible refine ImpF.mk fun hF => ?_) | (with_reducible refine ImpQ.mk fun hp => ?_) | (with_reducible refine AllE.mk fun p => ?_) | (with_reducible refine AllR.mk fun rest => ?_) | (with_reducible refine AllK.mk fun K => ?_))))); repeat' (with_reducible refine And.intro ?_ ?_))
                all_goals first | omega | skip
                refine ⟨(2 * B, us), ⟨⟨by dsimp only; omega, by dsimp only; omega, f3, f4, t0⟩, by dsimp only; omega⟩, ?_⟩
                (focus (refine ⟨_, _, Gh.refl, [0], rfl, ?_⟩; (refine fitq ?_ ?_ ?_ <;> try exact trivial); (try any_goals (refine ⟨?_, ?_⟩)); (try any_goals (with_reducible rfl))))
                all_goals first | exact rfl | omega
        · have d2 : decide ((B : Int) < (n : Int)) = false := decide_eq_false (by omega)
          rw [← hn] at g3 g5
          obtain rfl := SB.done g5 (by omega) g3 g4
          (have zx1 := @d2; all_goals (try ((first | (with_reducible refine wp_id ?_) | (with_reducible refine does_id ?_) | (with_reducible refine ops_id ?_)); refine walk ?_; (repeat' (first | exact trivial | with_reducible refine And.intro ?_ ?_)); all_goals (repeat (first | (with_reducible refine ImpB.mk fun hb => ?_) | (with_reducible refine ImpK.mk fun hK => ?_) | (with_reducible refine ImpF.mk fun hF => ?_) | (with_reducible refine ImpQ.mk fun hp => ?_) | (with_reducible refine AllE.mk fun p => ?_) | (with_reducible refine AllR.mk fun rest => ?_) | (with_reducible refine AllK.mk fun K => ?_))))); repeat' (with_reducible refine And.intro ?_ ?_))
          (focus (refine ⟨_, _, Gh.refl, [0], rfl, ?_⟩; (refine fitq ?_ ?_ ?_ <;> try exact trivial); (try any_goals (refine ⟨?_, ?_⟩)); (try any_goals (with_reducible rfl))))
theorem c_stab {h : List Ch} {K : KT} {xs : List Itm} {x : Int} {n t : Nat} (H : K (.tup []) (h.set t (.rows .itm (srt tmI xs)))) (o : hth h t = .rows .itm xs) (s1 : ∀ x ∈ xs, okT x) (s2 : x = n) (s3 : n = xs.length) (s4 : xs.length ≤ 1099511627776) : Does Try.prog 57 [.sl t .itm 0 n, .int .i64 x, .fn 47 []] h K := by
  have hb := b_stabG xs n s3.symm s1 (by omega)
  rw [s2]
  exact frame_obj0 (ret' := .tup []) hb o (by simp) (fitC_rows _ _) (br_cons (br_own rfl) (br_cons br_int (br_cons (br_fn) br_nil))) (.inl rfl) (fun _ => rfl) rfl H
abbrev i_stab := Ctr.mk (i := 0) (g := 57) @c_stab
attribute [instance] i_stab
theorem b_sts (xs : List Itm) (hi : ∀ x ∈ xs, okT x) (hl : xs.length ≤ 1099511627776) : DoesK Try.prog 1 46 [.sl 0 .itm 0 xs.length, .fn 47 []] [.rows .itm xs]
    (EndF 1 (.tup []) ([.rows .itm (srt tmI xs)] ++ [])) := by
  refine DoesK.close ?_
  refine w_body (rs := []) (tm := [.sl 0 .itm 0 xs.length, .fn 47 [], .any, .any, .any, .any, .any, .any, .any]) fn_46 rfl rfl rfl rfl fun R hR => ?_
  (all_goals (try ((first | (with_reducible refine wp_id ?_) | (with_reducible refine does_id ?_) | (with_reducible refine ops_id ?_)); refine walk ?_; (repeat' (first | exact trivial | with_reducible refine And.intro ?_ ?_)); all_goals (repeat (first | (with_reducible refine ImpB.mk fun hb => ?_) | (with_reducible refine ImpK.mk fun hK => ?_) | (with_reducible refine ImpF.mk fun hF => ?_) | (with_reducible refine ImpQ.mk fun hp => ?_) | (with_reducible refine AllE.mk fun p => ?_) | (with_reducible refine AllR.mk fun rest => ?_) | (with_reducible refine AllK.mk fun K => ?_))))); repeat' (with_reducible refine And.intro ?_ ?_))
  all_goals first | exact hi | omega | skip
  (focus (refine ⟨_, _, Gh.refl, [0], rfl, ?_⟩; (refine fitq ?_ ?_ ?_ <;> try exact trivial); (try any_goals (refine ⟨?_, ?_⟩)); (try any_goals (with_reducible rfl))))
theorem c_sts {h : List Ch} {K : KT} {xs : List Itm} {n t : Nat} (H : K (.tup []) (h.set t (.rows .itm (srt tmI xs)))) (o : hth h t = .rows .itm xs) (s1 : ∀ x ∈ xs, okT x) (s3 : n = xs.length) (s4 : xs.length ≤ 1099511627776) : Does Try.prog 46 [.sl t .itm 0 n, .fn 47 []] h K := by
  have hb := b_sts xs s1 s4
  rw [s3]
  exact frame_obj0 (ret' := .tup []) hb o (by simp) (fitC_rows _ _) (br_cons (br_own rfl) (br_cons (br_fn) br_nil)) (.inl rfl) (fun _ => rfl) rfl H
abbrev i_sts := Ctr.mk (i := 0) (g := 46) @c_sts
attribute [instance] i_sts
end Go.V

set_option maxRecDepth 100000
set_option maxHeartbeats 8000000
namespace Go.V
open Go.Proofs
def inE (f t : Int) (x : Ent) : Bool := decide (f ≤ x.time) && decide (x.time < t)
def flatE (ps : List Prc) : List Ent := ps.flatMap fun p => p.list
def betL (ps : List Prc) (f t : Int) : List Itm := ((flatE ps).filter (inE f t)).map toI
def ltAC (x y : Ent) : Prop := x.apid < y.apid ∨ x.apid = y.apid ∧ x.count < y.count
theorem getP_mem {ps : List Prc} (h : srtP ps) {p : Prc} (hp : p ∈ ps) : getP ps p.apid = p.list := by
  rcases find_cases ps p.apid h with ⟨A, b, B, e, hb, h1, h2, h3, h4, h5, h6⟩ | ⟨A, B, e, h1, h2, h3, h4, h5, h6⟩
  · rw [h5]
    rw [e] at hp
    rcases List.mem_append.1 hp with q | q
    · have := h1 p q; omega
    · rcases List.mem_cons.1 q with rfl | q
      · rfl
      · have := h2 p q; omega
  · rw [e] at hp
    rcases List.mem_append.1 hp with q | q
    · have := h1 p q; omega
    · have := h2 p q; omega
theorem flat_srt {ps : List Prc} {rs : List REnt} {n : Nat} (h : Agree ps rs) (hs : StP ps n) : (flatE ps).Pairwise ltAC := by
  refine List.pairwise_flatMap.2 ⟨fun p hp => ?_, hs.srt.imp_of_mem fun {p q} hp hq hlt x hx y hy => ?_⟩
  · have h1 := h.srt p.apid
    have h2 := h.cnt p.apid
    rw [getP_mem hs.srt hp] at h1 h2
    exact h1.imp_of_mem fun {x y} hx hy hxy => .inr ⟨by rw [(h2 x hx).1, (h2 y hy).1], hxy⟩
  · have h2 := h.cnt p.apid
    have h3 := h.cnt q.apid
    rw [getP_mem hs.srt hp] at h2
    rw [getP_mem hs.srt hq] at h3
    exact .inl (by rw [(h2 x hx).1, (h3 y hy).1]; exact hlt)
theorem flat_filter {ps : List Prc} {rs : List REnt} {n : Nat} (h : Agree ps rs) (hs : StP ps n) (a : Int) : ((flatE ps).map enR).filter (isA a) = (getP ps a).map enR := by
  have none : ∀ A : List Prc, (∀ p ∈ A, p ∈ ps) → (∀ p ∈ A, p.apid ≠ a) → ((flatE A).map enR).filter (isA a) = [] := fun A hA hne => by
    refine List.filter_eq_nil_iff.2 fun r hr hra => ?_
    obtain ⟨x, hx, rfl⟩ := List.mem_map.1 hr
    obtain ⟨p, hp, hxp⟩ := List.mem_flatMap.1 hx
    have h2 := h.cnt p.apid
    rw [getP_mem hs.srt (hA p hp)] at h2
    have e1 := (h2 x hxp).1
    have e2 : x.apid = a := isA_iff.1 hra
    exact hne p hp (by rw [← e1, e2])
  rcases find_cases ps a hs.srt with ⟨A, b, B, e, hb, h1, h2, h3, h4, h5, h6⟩ | ⟨A, B, e, h1, h2, h3, h4, h5, h6⟩
  · have e0 : flatE ps = flatE A ++ (b.list ++ flatE B) := by rw [e]; simp [flatE]
    rw [e0, List.map_append, List.map_append, List.filter_append, List.filter_append]
    rw [none A (fun p hp => by rw [e]; simp [hp]) (fun p hp => by have := h1 p hp; omega), none B (fun p hp => by rw [e]; simp [hp]) (fun p hp => by have := h2 p hp; omega)]
    rw [List.nil_append, List.append_nil, h5]
    refine List.filter_eq_self.2 fun r hr => ?_
    obtain ⟨x, hx, rfl⟩ := List.mem_map.1 hr
    have h7 := h.cnt a
    rw [h5] at h7
    exact isA_iff.2 (h7 x hx).1
  · rw [h5, none ps (fun p hp => hp) (fun p hp => by
      rw [e] at hp
      rcases List.mem_append.1 hp with q | q
      · have := h1 p q; omega
      · have := h2 p q; omega)]
    rfl
theorem perm_of_isA {l m : List REnt} (h : ∀ a, (l.filter (isA a)).Perm (m.filter (isA a))) : l.Perm m := by
  classical
  refine List.perm_iff_count.2 fun x => ?_
  have h1 := (h x.apid).count_eq x
  rwa [List.count_filter (isA_iff.2 rfl), List.count_filter (isA_iff.2 rfl)] at h1
theorem Agree.flat {ps : List Prc} {rs : List REnt} {n : Nat} (h : Agree ps rs) (hs : StP ps n) : rs.Perm ((flatE ps).map enR) :=
  perm_of_isA fun a => by rw [flat_filter h hs]; exact h.perm a
theorem ordB : OrdQ ltB := by
  constructor
  · intro x y h
    unfold ltB at *
    by_cases c1 : x.time = y.time
    · rw [if_pos c1] at h
      rw [if_pos c1.symm]
      by_cases c2 : x.apid = y.apid
      · rw [if_pos c2] at h
        rw [if_pos c2.symm]
        have := of_decide_eq_true h
        exact decide_eq_false (by omega)
      · rw [if_neg c2] at h
        rw [if_neg (Ne.symm c2)]
        have := of_decide_eq_true h
        exact decide_eq_false (by omega)
    · rw [if_neg c1] at h
      rw [if_neg (Ne.symm c1)]
      have := of_decide_eq_true h
      exact decide_eq_false (by omega)
  · intro x y z h1 h2
    have key : ∀ a b : REnt, ltB a b = false ↔ (b.time < a.time ∨ b.time = a.time ∧ (b.apid < a.apid ∨ b.apid = a.apid ∧ b.count ≤ a.count)) := fun a b => by
      unfold ltB
      by_cases c1 : a.time = b.time
      · rw [if_pos c1]
        by_cases c2 : a.apid = b.apid
        · rw [if_pos c2, decide_eq_false_iff_not]; omega
        · rw [if_neg c2, decide_eq_false_iff_not]; omega
      · rw [if_neg c1, decide_eq_false_iff_not]; omega
    rw [key] at *
    omega
theorem Agree.between {ps : List Prc} {rs : List REnt} {n : Nat} (h : Agree ps rs) (hs : StP ps n) (f t : Int) : Go.V.srt tmI (betL ps f t) = (sortR ltB (rs.filter (inT f t))).map itR := by
  have hfl := (h.flat hs).filter (inT f t)
  have e1 : ((flatE ps).map enR).filter (inT f t) = ((flatE ps).filter (inE f t)).map enR := by
    rw [List.filter_map]; rfl
  rw [e1] at hfl
  have hSp := (sortR_perm ltB (rs.filter (inT f t))).trans hfl
  have hSs := sortR_sorted ordB (rs.filter (inT f t))
  generalize sortR ltB (rs.filter (inT f t)) = S at hSp hSs ⊢
  have hR : ((flatE ps).filter (inE f t)).Pairwise ltAC := (flat_srt h hs).filter _
  unfold betL
  generalize (flatE ps).filter (inE f t) = F at hSp hR ⊢
  refine srt_uniq srt_Srt ?_ (srt_KE.trans fun k => ?_)
  · refine List.pairwise_map.2 (hSs.imp fun {x y} q => ?_)
    show x.time ≤ y.time
    unfold ltB at q
    by_cases c1 : y.time = x.time
    · omega
    · rw [if_neg c1] at q
      have := of_decide_eq_false q
      omega
  · have e2 : F.map toI = (F.map enR).map itR := by rw [List.map_map]; rfl
    have g1 := List.filter_map (f := itR) (p := fun a => decide (tmI a = k)) (l := F.map enR)
    have g2 := List.filter_map (f := itR) (p := fun a => decide (tmI a = k)) (l := S)
    rw [e2, g1, g2]
    congr 1
    refine (sort_one ordB.asym ((hSp.filter _)) (hSs.filter _) ?_).symm
    refine List.pairwise_filter.2 (List.pairwise_map.2 (hR.imp fun {x y} q hx hy => ?_))
    have hx : x.time = k := of_decide_eq_true hx
    have hy : y.time = k := of_decide_eq_true hy
    show ltB (enR x) (enR y) = true
    unfold ltB
    rw [if_pos (show (enR x).time = (enR y).time by show x.time = y.time; rw [hx, hy])]
    rcases q with q | q
    · rw [if_neg (show ¬ (enR x).apid = (enR y).apid by show ¬ x.apid = y.apid; omega)]
      exact decide_eq_true q
    · rw [if_pos (show (enR x).apid = (enR y).apid from q.1)]
      exact decide_eq_true q.2
end Go.V

set_option maxRecDepth 100000
set_option maxHeartbeats 8000000
namespace Go.V
open Go.Proofs
attribute [-go_sem] AE AO
def betI (ps : List Prc) (f t : Int) (i : Nat) : List Itm := betL (ps.take i) f t
def betK (out : List Itm) (xs : List Ent) (f t : Int) (k : Nat) : List Itm := out ++ ((xs.take k).filter (inE f t)).map toI
theorem betI_next {ps : List Prc} {f t : Int} {i : Nat} (h : i < ps.length) : betI ps f t (i + 1) = betK (betI ps f t i) (pAt ps i).list f t (pAt ps i).list.length := by
  unfold betI betK betL flatE
  have e : ps.take (i + 1) = ps.take i ++ [pAt ps i] := by
    rw [List.take_succ_eq_append_getElem h]
    congr 2
    show _ = ps.getD i Prc.zero
    rw [List.getD_eq_getElem?_getD, List.getElem?_eq_getElem h]; rfl
  rw [e, List.flatMap_append, List.filter_append, List.map_append, List.take_length]
  simp
theorem betK_next {out : List Itm} {xs : List Ent} {f t : Int} {k : Nat} (h : k < xs.length) : betK out xs f t (k + 1) = betK out xs f t k ++ (if inE f t (xs.getD k Ent.zero) = true then [toI (xs.getD k Ent.zero)] else []) := by
  unfold betK
  rw [filter_next (P := inE f t) (d := Ent.zero) h, List.map_append, ← List.append_assoc]
  congr 1
  split <;> rfl
theorem betK_len (out : List Itm) (xs : List Ent) (f t : Int) (k : Nat) : (betK out xs f t k).length ≤ out.length + xs.length := by
  unfold betK
  rw [List.length_append, List.length_map]
  have h1 := List.length_filter_le (inE f t) (xs.take k)
  have h2 : (xs.take k).length ≤ xs.length := by rw [List.length_take]; omega
  omega
theorem betI_len {ps : List Prc} {f t : Int} (hl : ∀ i, i < ps.length → (pAt ps i).list.length ≤ 1000000) : ∀ i, i ≤ ps.length → (betI ps f t i).length ≤ i * 1000000
  | 0, _ => by simp [betI, betL, flatE]
  | i + 1, h => by
    rw [betI_next (by omega)]
    have h1 := betK_len (betI ps f t i) (pAt ps i).list f t (pAt ps i).list.length
    have h2 := betI_len hl i (f := f) (t := t) (by omega)
    have h3 := hl i (by omega)
    omega
theorem b_betM (ps : List Prc) (f t : Int) (hpp : 0 < ps.length) (hm : ps.length ≤ 900000) (hl : ∀ i, i < ps.length → (pAt ps i).list.length ≤ 1000000) (hd : ∀ i k, ((pAt ps i).list.getD k Ent.zero).data.length ≤ 1099511627776) (ht : ∀ x ∈ betL ps f t, okT x) :
    DoesK Try.prog 1 25 [.ptr 0 0, .int .i64 f, .int .i64 t] [.pack (AM ps)] (EndF 1 (.ro .itm (srt tmI (betL ps f t))) ([.pack (AM ps)] ++ [])) := by
  refine DoesK.close ?_
  refine w_body (rs := [.tmp 6]) (tm := [.ptr 0 0, .int .i64 f, .int .i64 t, .any, .any, .any, .any, .any, .any, .any, .any, .any, .any, .any, .any, .any, .any, .any, .any, .any, .any, .any, .any, .any, .any, .any, .any, .any, .any, .any, .any, .any, .any, .any, .any, .any, .any, .any, .any, .any, .any, .any, .any, .any, .any, .any, .any, .any, .any, .any, .any, .any, .any, .any]) fn_25 rfl rfl rfl rfl fun R hR => ?_
  refine w_openM hpp ?_
  have A := arc_open hpp
  have S := AM_self hpp
  have hlen := AM_len hpp
  have FR := AM_fr hpp .itm (srt tmI (betL ps f t))
  generalize AM ps = h at A S hlen FR ⊢
  obtain ⟨ts, hts⟩ : ∃ ts, List.range' 2 ps.length = ts := ⟨_, rfl⟩
  rw [hts] at A
  have hln : ∀ t ∈ 0 :: 1 :: ts, t < h.length := A.lt
  have o : (hth h 0 = .cells [.bool true, .csl 1 ps.length 2] ∧ hth h 1 = .crow (flatP ts ps)) ∧ (∀ l, hth (h ++ l) 0 = .cells [.bool true, .csl 1 ps.length 2]) ∧ ∀ l, hth (h ++ l) 1 = .crow (flatP ts ps) := ⟨⟨A.o, A.o1⟩, fun l => (A.app l).o, fun l => (A.app l).o1⟩
  have t2 := symH h
  have hfl := flatP_len A.len
  (have zx1 := @o; all_goals (try ((first | (with_reducible refine wp_id ?_) | (with_reducible refine does_id ?_) | (with_reducible refine ops_id ?_)); refine walk ?_; (repeat' (first | exact trivial | with_reducible refine And.intro ?_ ?_)); all_goals (repeat (first | (with_reducible refine ImpB.mk fun hb => ?_) | (with_reducible refine ImpK.mk fun hK => ?_) | (with_reducible refine ImpF.mk fun hF => ?_) | (with_reducible refine ImpQ.mk fun hp => ?_) | (with_reducible refine AllE.mk fun p => ?_) | (with_reducible refine AllR.mk fun rest => ?_) | (with_reducible refine AllK.mk fun K => ?_))))); repeat' (with_reducible refine And.intro ?_ ?_))
  refine Wp.ghost (gh_adopt (s := 7) .itm trivial) ?_
  simp only [go_sem, decide_true, decide_false, Int.reduceToNat, Nat.min_eq_left, Nat.min_eq_right, Int.reducePow, Nat.reducePow, Int.reduceLE, Int.reduceLT, Int.reduceMul, Int.reduceAdd, Int.reduceSub, Int.reduceNeg, Bool.not_true, Bool.not_false, Bool.not_not, ↓reduceIte, Nat.reduceAdd, Nat.reduceSub, Nat.reduceMul, Nat.reduceEqDiff, reduceCtorEq, Nat.reduceLT, Nat.reduceLeDiff, Nat.reduceGT]
  any_goals ((try (refine w_seq fun K hK => ?_)); (try (refine w_block ?_)); refine w_loopG (A := Nat) (fun i => i ≤ ps.length) (fun i => ps.length - i) (fun i => [(7, .sl h.length .itm 0 (betI ps f t i).length), (20, .int .i64 i)]) (fun i => h ++ [.rows .itm (betI ps f t i)]) (0) (ws := ?ws1) (tk := ?tk1) ?hw1 ?ht1 ?hi ?h0 ?LH1; (case hw1 => simp only [go_sem, decide_true, decide_false, Int.reduceToNat, Nat.min_eq_left, Nat.min_eq_right, Int.reducePow, Nat.reducePow, Int.reduceLE, Int.reduceLT, Int.reduceMul, Int.reduceAdd, Int.reduceSub, Int.reduceNeg, Bool.not_true, Bool.not_false, Bool.not_not, ↓reduceIte, Nat.reduceAdd, Nat.reduceSub, Nat.reduceMul, Nat.reduceEqDiff, reduceCtorEq, Nat.reduceLT, Nat.reduceLeDiff, Nat.reduceGT]; exact rfl); (case ht1 => simp only [go_sem, decide_true, decide_false, Int.reduceToNat, Nat.min_eq_left, Nat.min_eq_right, Int.reducePow, Nat.reducePow, Int.reduceLE, Int.reduceLT, Int.reduceMul, Int.reduceAdd, Int.reduceSub, Int.reduceNeg, Bool.not_true, Bool.not_false, Bool.not_not, ↓reduceIte, Nat.reduceAdd, Nat.reduceSub, Nat.reduceMul, Nat.reduceEqDiff, reduceCtorEq, Nat.reduceLT, Nat.reduceLeDiff, Nat.reduceGT]; exact rfl); (case' LH1 => rintro i E t hx hE ht; simp only [go_sem] at ht; subst ht; simp only [go_sem]; try dsimp only at hx))
  case hi => exact Nat.zero_le _
  case h0 =>
    refine at_drop1 (j := 0) (show 1 ≤ h.length by omega) S rfl ?_
    simp only [go_sem]
    (repeat' (first | (refine And.intro ?_ ?_) | (with_reducible rfl) | exact rng_at2 (by omega) | exact rng_at0 | exact trivial))
    all_goals rfl
  case LH1 =>
    have hi0 : i ≤ ps.length := hx
    have hbl := betI_len (f := f) (t := t) hl i hi0
    by_cases hi : i < ps.length
    · have hid : decide ((i : Int) < (ps.length : Int)) = true := decide_eq_true (by omega)
      have hiw : IntKind.i64.wrap ((i : Int) + 1) = ((i + 1 : Nat) : Int) := by rw [wrap_i64 _ (by omega) (by omega)]; omega
      have n3 := flatP_two A.len hi
      obtain ⟨T, hT⟩ : ∃ T, ts.getD i 0 = T := ⟨_, rfl⟩
      have hrow := A.rows i hi
      rw [hT] at n3 hrow
      have hTl : T < h.length := hth_lt (by rw [hrow]; simp)
      have hn := betI_next (f := f) (t := t) hi
      have hln2 := hl i hi
      have hd2 := hd i
      obtain ⟨xs, hxs⟩ : ∃ xs, (pAt ps i).list = xs := ⟨_, rfl⟩
      rw [hxs] at n3 hrow hn hln2 hd2
      obtain ⟨out, hout⟩ : ∃ out, betI ps f t i = out := ⟨_, rfl⟩
      rw [hout] at hn hbl ⊢
      have t1 : ∀ l, hth (h ++ l) T = .rows .ent xs := fun l => by rw [hth_app hTl, hrow]
      have hout0 : betK out xs f t 0 = out := by unfold betK; simp
      (have zx1 := @hid; have zx2 := @o; have zx3 := @t1; have zx4 := @t2; have zx5 := @n3; have zx6 := @hfl; all_goals (try ((first | (with_reducible refine wp_id ?_) | (with_reducible refine does_id ?_) | (with_reducible refine ops_id ?_)); refine walk ?_; (repeat' (first | exact trivial | with_reducible refine And.intro ?_ ?_)); all_goals (repeat (first | (with_reducible refine ImpB.mk fun hb => ?_) | (with_reducible refine ImpK.mk fun hK => ?_) | (with_reducible refine ImpF.mk fun hF => ?_) | (with_reducible refine ImpQ.mk fun hp => ?_) | (with_reducible refine AllE.mk fun p => ?_) | (with_reducible refine AllR.mk fun rest => ?_) | (with_reducible refine AllK.mk fun K => ?_))))); repeat' (with_reducible refine And.intro ?_ ?_))
      any_goals first | exact Int.natCast_nonneg _ | (show (i : Int) < (ps.length : Int); omega) | (show i * 2 + 1 < ps.length * 2; omega)
      any_goals ((try (refine w_seq fun K hK => ?_)); (try (refine w_block ?_)); refine w_loopG (A := Nat) (fun k => k ≤ xs.length) (fun k => xs.length - k) (fun k => [(7, .sl h.length .itm 0 (betK out xs f t k).length), (27, .int .i64 k), (9, .any), (24, .any)]) (fun k => h ++ [.rows .itm (betK out xs f t k)]) (0) (ws := ?ws2) (tk := ?tk2) ?hw2 ?ht2 ?hi ?h0 ?LH2; (case hw2 => simp only [go_sem, decide_true, decide_false, Int.reduceToNat, Nat.min_eq_left, Nat.min_eq_right, Int.reducePow, Nat.reducePow, Int.reduceLE, Int.reduceLT, Int.reduceMul, Int.reduceAdd, Int.reduceSub, Int.reduceNeg, Bool.not_true, Bool.not_false, Bool.not_not, ↓reduceIte, Nat.reduceAdd, Nat.reduceSub, Nat.reduceMul, Nat.reduceEqDiff, reduceCtorEq, Nat.reduceLT, Nat.reduceLeDiff, Nat.reduceGT]; exact rfl); (case ht2 => simp only [go_sem, decide_true, decide_false, Int.reduceToNat, Nat.min_eq_left, Nat.min_eq_right, Int.reducePow, Nat.reducePow, Int.reduceLE, Int.reduceLT, Int.reduceMul, Int.reduceAdd, Int.reduceSub, Int.reduceNeg, Bool.not_true, Bool.not_false, Bool.not_not, ↓reduceIte, Nat.reduceAdd, Nat.reduceSub, Nat.reduceMul, Nat.reduceEqDiff, reduceCtorEq, Nat.reduceLT, Nat.reduceLeDiff, Nat.reduceGT]; exact rfl); (case' LH2 => rintro k E t hx hE ht; simp only [go_sem] at ht; subst ht; simp only [go_sem]; try dsimp only at hx))
      case hi => exact Nat.zero_le _
      case h0 =>
        refine at_drop1 (j := 0) (e := .itm) (xs := betK out xs f t 0) (show 1 ≤ h.length by omega) S (by rw [hout0]; rfl) ?_
        simp only [go_sem]
        (repeat' (first | (refine And.intro ?_ ?_) | (with_reducible rfl) | exact rng_at2 (by omega) | exact rng_at0 | exact trivial))
        all_goals (try rw [hout0])
        all_goals (try rfl)
      case LH2 =>
        have hk0 : k ≤ xs.length := hx
        have hkl := betK_len out xs f t k
        by_cases hk : k < xs.length
        · have hkd : decide ((k : Int) < (xs.length : Int)) = true := decide_eq_true (by omega)
          have hkw : IntKind.i64.wrap ((k : Int) + 1) = ((k + 1 : Nat) : Int) := by rw [wrap_i64 _ (by omega) (by omega)]; omega
          have q2 := hd2 k
          have hkn := betK_next (out := out) (f := f) (t := t) hk
          obtain ⟨y, hy⟩ : ∃ y, xs.getD k Ent.zero = y := ⟨_, rfl⟩
          rw [hy] at q2 hkn
          obtain ⟨B, hB⟩ : ∃ B, betK out xs f t k = B := ⟨_, rfl⟩
          rw [hB] at hkn hkl ⊢
          have t3 : ¬ h.length = h.length + 2 := by omega
          by_cases c1 : f ≤ y.time
          · have d1 : decide (f ≤ y.time) = true := decide_eq_true c1
            by_cases c2 : y.time < t
            · have d2 : decide (y.time < t) = true := decide_eq_true c2
              have hkn2 : betK out xs f t (k + 1) = B ++ [⟨y.apid, y.cnt, y.time, y.data⟩] := by rw [hkn, if_pos (by unfold inE; rw [d1, d2]; rfl)]; rfl
              (have zx1 := @hkd; have zx2 := @hkw; have zx3 := @hy; have zx4 := @t1; have zx5 := @t2; have zx6 := @t3; have zx7 := @d1; have zx8 := @d2; all_goals (try ((first | (with_reducible refine wp_id ?_) | (with_reducible refine does_id ?_) | (with_reducible refine ops_id ?_)); refine walk ?_; (repeat' (first | exact trivial | with_reducible refine And.intro ?_ ?_)); all_goals (repeat (first | (with_reducible refine ImpB.mk fun hb => ?_) | (with_reducible refine ImpK.mk fun hK => ?_) | (with_reducible refine ImpF.mk fun hF => ?_) | (with_reducible refine ImpQ.mk fun hp => ?_) | (with_reducible refine AllE.mk fun p => ?_) | (with_reducible refine AllR.mk fun rest => ?_) | (with_reducible refine AllK.mk fun K => ?_))))); repeat' (with_reducible refine And.intro ?_ ?_))
              any_goals first | exact Int.natCast_nonneg _ | (show (k : Int) < (xs.length : Int); omega) | (show k < xs.length; omega) | (show (B.length + 1) * 48 ≤ 140737488355328; omega) | (show B.length ≤ (_ : Nat); omega)
              refine ⟨k + 1, ⟨(by omega : k + 1 ≤ xs.length), (by first | omega | (dsimp only; omega))⟩, ?_⟩
              dsimp only
              rw [hkn2]
              refine at_drop1 (j := 3) (show 1 ≤ h.length by omega) S rfl ?_
              simp only [go_sem]
              (repeat' (first | (refine And.intro ?_ ?_) | (with_reducible rfl) | exact rng_at2 (by omega) | exact rng_at0 | exact trivial))
              all_goals (try rw [List.length_append])
              all_goals (try rfl)
            · have d2 : decide (y.time < t) = false := decide_eq_false c2
              have hkn2 : betK out xs f t (k + 1) = B := by rw [hkn, if_neg (by unfold inE; rw [d1, d2]; decide), List.append_nil]
              (have zx1 := @hkd; have zx2 := @hkw; have zx3 := @hy; have zx4 := @t1; have zx5 := @t2; have zx6 := @t3; have zx7 := @d1; have zx8 := @d2; all_goals (try ((first | (with_reducible refine wp_id ?_) | (with_reducible refine does_id ?_) | (with_reducible refine ops_id ?_)); refine walk ?_; (repeat' (first | exact trivial | with_reducible refine And.intro ?_ ?_)); all_goals (repeat (first | (with_reducible refine ImpB.mk fun hb => ?_) | (with_reducible refine ImpK.mk fun hK => ?_) | (with_reducible refine ImpF.mk fun hF => ?_) | (with_reducible refine ImpQ.mk fun hp => ?_) | (with_reducible refine AllE.mk fun p => ?_) | (with_reducible refine AllR.mk fun rest => ?_) | (with_reducible refine AllK.mk fun K => ?_))))); repeat' (with_reducible refine And.intro ?_ ?_))
              any_goals first | exact Int.natCast_nonneg _ | (show (k : Int) < (xs.length : Int); omega) | (show k < xs.length; omega)
              refine ⟨k + 1, ⟨(by omega : k + 1 ≤ xs.length), (by first | omega | (dsimp only; omega))⟩, ?_⟩
              dsimp only
              rw [hkn2]
              refine at_drop1 (j := 0) (show 1 ≤ h.length by omega) S rfl ?_
              simp only [go_sem]
              (repeat' (first | (refine And.intro ?_ ?_) | (with_reducible rfl) | exact rng_at2 (by omega) | exact rng_at0 | exact trivial))
              all_goals (try rfl)
          · have d1 : decide (f ≤ y.time) = false := decide_eq_false c1
            have hkn2 : betK out xs f t (k + 1) = B := by rw [hkn, if_neg (by unfold inE; rw [d1]; exact Bool.false_ne_true), List.append_nil]
            (have zx1 := @hkd; have zx2 := @hkw; have zx3 := @hy; have zx4 := @t1; have zx5 := @t2; have zx6 := @t3; have zx7 := @d1; all_goals (try ((first | (with_reducible refine wp_id ?_) | (with_reducible refine does_id ?_) | (with_reducible refine ops_id ?_)); refine walk ?_; (repeat' (first | exact trivial | with_reducible refine And.intro ?_ ?_)); all_goals (repeat (first | (with_reducible refine ImpB.mk fun hb => ?_) | (with_reducible refine ImpK.mk fun hK => ?_) | (with_reducible refine ImpF.mk fun hF => ?_) | (with_reducible refine ImpQ.mk fun hp => ?_) | (with_reducible refine AllE.mk fun p => ?_) | (with_reducible refine AllR.mk fun rest => ?_) | (with_reducible refine AllK.mk fun K => ?_))))); repeat' (with_reducible refine And.intro ?_ ?_))
            any_goals first | exact Int.natCast_nonneg _ | (show (k : Int) < (xs.length : Int); omega) | (show k < xs.length; omega)
            refine ⟨k + 1, ⟨(by omega : k + 1 ≤ xs.length), (by first | omega | (dsimp only; omega))⟩, ?_⟩
            dsimp only
            rw [hkn2]
            refine at_drop1 (j := 0) (show 1 ≤ h.length by omega) S rfl ?_
            simp only [go_sem]
            (repeat' (first | (refine And.intro ?_ ?_) | (with_reducible rfl) | exact rng_at2 (by omega) | exact rng_at0 | exact trivial))
            all_goals (try rfl)
        · have hkd : decide ((k : Int) < (xs.length : Int)) = false := decide_eq_false (by omega)
          have hke : k = xs.length := by omega
          subst hke
          rw [← hn]
          (have zx1 := @hkd; have zx2 := @hiw; all_goals (try ((first | (with_reducible refine wp_id ?_) | (with_reducible refine does_id ?_) | (with_reducible refine ops_id ?_)); refine walk ?_; (repeat' (first | exact trivial | with_reducible refine And.intro ?_ ?_)); all_goals (repeat (first | (with_reducible refine ImpB.mk fun hb => ?_) | (with_reducible refine ImpK.mk fun hK => ?_) | (with_reducible refine ImpF.mk fun hF => ?_) | (with_reducible refine ImpQ.mk fun hp => ?_) | (with_reducible refine AllE.mk fun p => ?_) | (with_reducible refine AllR.mk fun rest => ?_) | (with_reducible refine AllK.mk fun K => ?_))))); repeat' (with_reducible refine And.intro ?_ ?_))
          refine ⟨i + 1, ⟨(by omega : i + 1 ≤ ps.length), (by first | omega | (dsimp only; omega))⟩, ?_⟩
          refine at_drop1 (j := 0) (show 1 ≤ h.length by omega) S rfl ?_
          simp only [go_sem]
          (repeat' (first | (refine And.intro ?_ ?_) | (with_reducible rfl) | exact rng_at2 (by omega) | exact rng_at0 | exact trivial))
          all_goals (try rfl)
    · have hid : decide ((i : Int) < (ps.length : Int)) = false := decide_eq_false (by omega)
      have hie : betI ps f t i = betL ps f t := by unfold betI; rw [List.take_of_length_le (by omega)]
      rw [hie] at hbl ⊢
      have hll : (betL ps f t).length ≤ 1099511627776 := by omega
      (have zx1 := @hid; have zx2 := @t2; all_goals (try ((first | (with_reducible refine wp_id ?_) | (with_reducible refine does_id ?_) | (with_reducible refine ops_id ?_)); refine walk ?_; (repeat' (first | exact trivial | with_reducible refine And.intro ?_ ?_)); all_goals (repeat (first | (with_reducible refine ImpB.mk fun hb => ?_) | (with_reducible refine ImpK.mk fun hK => ?_) | (with_reducible refine ImpF.mk fun hF => ?_) | (with_reducible refine ImpQ.mk fun hp => ?_) | (with_reducible refine AllE.mk fun p => ?_) | (with_reducible refine AllR.mk fun rest => ?_) | (with_reducible refine AllK.mk fun K => ?_))))); repeat' (with_reducible refine And.intro ?_ ?_))
      exact end_arcRo A srt_len.symm FR
theorem b_betZ (f t : Int) : DoesK Try.prog 1 25 [.ptr 0 0, .int .i64 f, .int .i64 t] [.pack AE] (EndF 1 (.ro .itm []) ([.pack AE] ++ [])) := by
  refine DoesK.close ?_
  have hs0 : ∀ x ∈ ([] : List Itm), okT x := fun x hx => by cases hx
  have hsr : srt tmI [] = [] := rfl
  refine w_body (rs := [.tmp 6]) (tm := [.ptr 0 0, .int .i64 f, .int .i64 t, .any, .any, .any, .any, .any, .any, .any, .any, .any, .any, .any, .any, .any, .any, .any, .any, .any, .any, .any, .any, .any, .any, .any, .any, .any, .any, .any, .any, .any, .any, .any, .any, .any, .any, .any, .any, .any, .any, .any, .any, .any, .any, .any, .any, .any, .any, .any, .any, .any, .any, .any]) fn_25 rfl rfl rfl rfl fun R hR => ?_
  unfold AE
  refine w_open 0 rfl rfl ?_
  simp only [go_sem, decide_true, decide_false, Int.reduceToNat, Nat.min_eq_left, Nat.min_eq_right, Int.reducePow, Nat.reducePow, Int.reduceLE, Int.reduceLT, Int.reduceMul, Int.reduceAdd, Int.reduceSub, Int.reduceNeg, Bool.not_true, Bool.not_false, Bool.not_not, ↓reduceIte, Nat.reduceAdd, Nat.reduceSub, Nat.reduceMul, Nat.reduceEqDiff, reduceCtorEq, Nat.reduceLT, Nat.reduceLeDiff, Nat.reduceGT]
  (all_goals (try ((first | (with_reducible refine wp_id ?_) | (with_reducible refine does_id ?_) | (with_reducible refine ops_id ?_)); refine walk ?_; (repeat' (first | exact trivial | with_reducible refine And.intro ?_ ?_)); all_goals (repeat (first | (with_reducible refine ImpB.mk fun hb => ?_) | (with_reducible refine ImpK.mk fun hK => ?_) | (with_reducible refine ImpF.mk fun hF => ?_) | (with_reducible refine ImpQ.mk fun hp => ?_) | (with_reducible refine AllE.mk fun p => ?_) | (with_reducible refine AllR.mk fun rest => ?_) | (with_reducible refine AllK.mk fun K => ?_))))); repeat' (with_reducible refine And.intro ?_ ?_))
  refine Wp.ghost (gh_adopt (s := 7) .itm trivial) ?_
  simp only [go_sem, decide_true, decide_false, Int.reduceToNat, Nat.min_eq_left, Nat.min_eq_right, Int.reducePow, Nat.reducePow, Int.reduceLE, Int.reduceLT, Int.reduceMul, Int.reduceAdd, Int.reduceSub, Int.reduceNeg, Bool.not_true, Bool.not_false, Bool.not_not, ↓reduceIte, Nat.reduceAdd, Nat.reduceSub, Nat.reduceMul, Nat.reduceEqDiff, reduceCtorEq, Nat.reduceLT, Nat.reduceLeDiff, Nat.reduceGT]
  any_goals ((try (refine w_seq fun K hK => ?_)); (try (refine w_block ?_)); refine w_loop (A := Nat) (fun k => k = 0) (fun k => 0) (fun k => [(7, .sl 1 .itm 0 0), (20, .int .i64 k)]) (fun k => []) (0) (ws := ?ws3) (tk := ?tk3) ?hw3 ?ht3 ?hi ?h0 ?LH3; (case hw3 => simp only [go_sem, decide_true, decide_false, Int.reduceToNat, Nat.min_eq_left, Nat.min_eq_right, Int.reducePow, Nat.reducePow, Int.reduceLE, Int.reduceLT, Int.reduceMul, Int.reduceAdd, Int.reduceSub, Int.reduceNeg, Bool.not_true, Bool.not_false, Bool.not_not, ↓reduceIte, Nat.reduceAdd, Nat.reduceSub, Nat.reduceMul, Nat.reduceEqDiff, reduceCtorEq, Nat.reduceLT, Nat.reduceLeDiff, Nat.reduceGT]; exact rfl); (case ht3 => simp only [go_sem, decide_true, decide_false, Int.reduceToNat, Nat.min_eq_left, Nat.min_eq_right, Int.reducePow, Nat.reducePow, Int.reduceLE, Int.reduceLT, Int.reduceMul, Int.reduceAdd, Int.reduceSub, Int.reduceNeg, Bool.not_true, Bool.not_false, Bool.not_not, ↓reduceIte, Nat.reduceAdd, Nat.reduceSub, Nat.reduceMul, Nat.reduceEqDiff, reduceCtorEq, Nat.reduceLT, Nat.reduceLeDiff, Nat.reduceGT]; exact rfl); (case' LH3 => rintro k E t hx hE ht; simp only [go_sem] at ht; subst ht; simp only [go_sem]; try dsimp only at hx))
  case hi => exact rfl
  case h0 =>
    (focus (refine ⟨_, _, Gh.refl, [0, 1], rfl, ?_⟩; (refine fitq ?_ ?_ ?_ <;> try exact trivial); (try any_goals (refine ⟨?_, ?_⟩)); (try any_goals (with_reducible rfl))))
    all_goals (repeat' (first | (refine And.intro ?_ ?_) | rfl))
  case LH3 =>
    obtain rfl : k = 0 := hx
    have hkd : decide (((0 : Nat) : Int) < 0) = false := decide_eq_false (by decide)
    (have zx1 := @hkd; have zx2 := @hsr; all_goals (try ((first | (with_reducible refine wp_id ?_) | (with_reducible refine does_id ?_) | (with_reducible refine ops_id ?_)); refine walk ?_; (repeat' (first | exact trivial | with_reducible refine And.intro ?_ ?_)); all_goals (repeat (first | (with_reducible refine ImpB.mk fun hb => ?_) | (with_reducible refine ImpK.mk fun hK => ?_) | (with_reducible refine ImpF.mk fun hF => ?_) | (with_reducible refine ImpQ.mk fun hp => ?_) | (with_reducible refine AllE.mk fun p => ?_) | (with_reducible refine AllR.mk fun rest => ?_) | (with_reducible refine AllK.mk fun K => ?_))))); repeat' (with_reducible refine And.intro ?_ ?_))
    have G2 : Gh [.sl 1 .itm 0 0] [.cells [.bool true, .lit (.slice none 0 0)], .rows .itm []] [.ro .itm []] [.cells [.bool true, .lit (.slice none 0 0)], .gone] :=
      gh_frz (tm := [.sl 1 .itm 0 0]) (h := [.cells [.bool true, .lit (.slice none 0 0)], .rows .itm []]) (t := 1) (e := .itm) (xs := []) rfl ⟨fun _ => ⟨rfl, Nat.le_refl _⟩, trivial⟩ ⟨⟨trivial, trivial, trivial⟩, trivial, trivial⟩
    (focus (refine ⟨_, _, Gh.trans G2 (gh_close (t := 0) (ts := []) (l := AE) ⟨⟨_, _, rfl⟩, ?_, by simp⟩), [0], rfl, ?_⟩; all_goals (refine fitq ?_ ?_ ?_ <;> try exact trivial)))
    all_goals (repeat' (first | (refine And.intro ?_ ?_) | rfl))
structure okTm (ps : List Prc) : Prop where
  tm : ∀ f t, ∀ x ∈ betL ps f t, okT x
theorem c_betM {h : List Ch} {K : KT} {u : Nat} {f t : Int} {ps : List Prc} (H : K (.ro .itm (srt tmI (betL ps f t))) h) (o : hth h u = .pack (AM ps)) (e1 : okCl ps) (e2 : okTm ps) : Does Try.prog 25 [.ptr u 0, .int .i64 f, .int .i64 t] h K := by
  by_cases hn : ps.length = 0
  · obtain rfl := List.eq_nil_of_length_eq_zero hn
    exact frame_obj0 (b_betZ f t) o (by simp) (fitC_pack _) (br_cons (br_ptr rfl) (br_cons br_int (br_cons br_int br_nil))) (.inl rfl) (fun _ => rfl) rfl (by rw [show AE = AM [] from rfl, set_hth o (by simp)]; exact H)
  · exact frame_obj0 (b_betM ps f t (by omega) e1.max e1.lst e1.dat (e2.tm f t)) o (by simp) (fitC_pack _) (br_cons (br_ptr rfl) (br_cons br_int (br_cons br_int br_nil))) (.inl rfl) (fun _ => rfl) rfl (by rw [set_hth o (by simp)]; exact H)
abbrev i_betM := Ctr.mk (i := 0) (g := 25) @c_betM
attribute [instance] i_betM
end Go.V

set_option maxRecDepth 100000
set_option maxHeartbeats 8000000
namespace Go.V
open Go.Proofs
attribute [-go_sem] AE AO
theorem rK_time (l : List Itm) : ∀ k, ∀ r ∈ rK l k, 0 ≤ r.time ∧ r.time ≤ 1099511627776
  | 0, r, h => by cases h
  | k + 1, r, h => by
    have ih := rK_time l k
    obtain ⟨x, hx⟩ : ∃ x, l.getD k Itm.zero = x := ⟨_, rfl⟩
    have h : r ∈ (addR (rK l k) (l.getD k Itm.zero)).1 := h
    rw [hx] at h
    unfold addR at h
    cases hr : rightB x with
    | false => rw [if_pos hr] at h; exact ih r h
    | true =>
      rw [if_neg (by rw [hr]; decide)] at h
      split at h
      · exact ih r h
      · rcases List.mem_append.1 h with q | q
        · exact ih r q
        · have R := rightB_of hr
          rw [List.mem_singleton.1 q]
          show 0 ≤ x.time ∧ x.time ≤ 1099511627776
          omega
theorem aK_tm (l : List Itm) (k : Nat) : okTm (aK l k) := ⟨fun f t x hx => by
  obtain ⟨y, hy, rfl⟩ := List.mem_map.1 hx
  have hy := (List.mem_filter.1 hy).1
  have hm : enR y ∈ rK l k := ((ag_K l k).flat (aK_ok l k)).mem_iff.2 (List.mem_map.2 ⟨y, hy, rfl⟩)
  exact rK_time l k _ hm⟩
theorem b_sel (l : List Itm) (f t : Int) (hln : l.length ≤ 9223372036854775807) :
    DoesK Try.prog 0 6 [.ro .itm l, .int .i64 f, .int .i64 t] [] (EndF 0 (.bool true) []) := by
  refine DoesK.close ?_
  have hro : RoLit := .mk
  refine w_body (rs := [.tmp 6]) (tm := [.ro .itm l, .int .i64 f, .int .i64 t, .any, .any, .any, .any, .any, .any, .any, .any, .any, .any, .any, .any, .any, .any, .any, .any, .any, .any, .any, .any, .any, .any, .any, .any, .any, .any, .any, .any, .any, .any, .any, .any, .any, .any, .any, .any, .any, .any, .any, .any, .any, .any, .any, .any, .any]) fn_6 rfl rfl rfl rfl fun R hR => ?_
  cases hf : fewB l with
  | false =>
    (have zx1 := @hf; all_goals (try ((first | (with_reducible refine wp_id ?_) | (with_reducible refine does_id ?_) | (with_reducible refine ops_id ?_)); refine walk ?_; (repeat' (first | exact trivial | with_reducible refine And.intro ?_ ?_)); all_goals (repeat (first | (with_reducible refine ImpB.mk fun hb => ?_) | (with_reducible refine ImpK.mk fun hK => ?_) | (with_reducible refine ImpF.mk fun hF => ?_) | (with_reducible refine ImpQ.mk fun hp => ?_) | (with_reducible refine AllE.mk fun p => ?_) | (with_reducible refine AllR.mk fun rest => ?_) | (with_reducible refine AllK.mk fun K => ?_))))); repeat' (with_reducible refine And.intro ?_ ?_))
    (focus (refine ⟨_, _, Gh.refl, [], rfl, ?_⟩; (refine fitq ?_ ?_ ?_ <;> try exact trivial); (try any_goals (refine ⟨?_, ?_⟩)); (try any_goals (with_reducible rfl))))
    all_goals (repeat' (first | (refine And.intro ?_ ?_) | rfl))
  | true =>
    obtain ⟨hl80, -⟩ := few_of hf
    (have zx1 := @hf; all_goals (try ((first | (with_reducible refine wp_id ?_) | (with_reducible refine does_id ?_) | (with_reducible refine ops_id ?_)); refine walk ?_; (repeat' (first | exact trivial | with_reducible refine And.intro ?_ ?_)); all_goals (repeat (first | (with_reducible refine ImpB.mk fun hb => ?_) | (with_reducible refine ImpK.mk fun hK => ?_) | (with_reducible refine ImpF.mk fun hF => ?_) | (with_reducible refine ImpQ.mk fun hp => ?_) | (with_reducible refine AllE.mk fun p => ?_) | (with_reducible refine AllR.mk fun rest => ?_) | (with_reducible refine AllK.mk fun K => ?_))))); repeat' (with_reducible refine And.intro ?_ ?_))
    any_goals ((try (refine w_seq fun K hK => ?_)); (try (refine w_block ?_)); refine w_loop (A := Nat) (fun k => k ≤ l.length) (fun k => l.length - k) (fun k => [(8, .ro .ren (rK l k)), (9, .int .i64 k)]) (fun k => [(0, .pack (AM (aK l k)))]) (0) (ws := ?ws1) (tk := ?tk1) ?hw1 ?ht1 ?hi ?h0 ?LH1; (case hw1 => simp only [go_sem, decide_true, decide_false, Int.reduceToNat, Nat.min_eq_left, Nat.min_eq_right, Int.reducePow, Nat.reducePow, Int.reduceLE, Int.reduceLT, Int.reduceMul, Int.reduceAdd, Int.reduceSub, Int.reduceNeg, Bool.not_true, Bool.not_false, Bool.not_not, ↓reduceIte, Nat.reduceAdd, Nat.reduceSub, Nat.reduceMul, Nat.reduceEqDiff, reduceCtorEq, Nat.reduceLT, Nat.reduceLeDiff, Nat.reduceGT]; exact rfl); (case ht1 => simp only [go_sem, decide_true, decide_false, Int.reduceToNat, Nat.min_eq_left, Nat.min_eq_right, Int.reducePow, Nat.reducePow, Int.reduceLE, Int.reduceLT, Int.reduceMul, Int.reduceAdd, Int.reduceSub, Int.reduceNeg, Bool.not_true, Bool.not_false, Bool.not_not, ↓reduceIte, Nat.reduceAdd, Nat.reduceSub, Nat.reduceMul, Nat.reduceEqDiff, reduceCtorEq, Nat.reduceLT, Nat.reduceLeDiff, Nat.reduceGT]; exact rfl); (case' LH1 => rintro k E t hx hE ht; simp only [go_sem] at ht; subst ht; simp only [go_sem]; try dsimp only at hx))
    case hi => exact Nat.zero_le _
    case h0 =>
      (focus (refine ⟨_, _, Gh.refl, [0], rfl, ?_⟩; (refine fitq ?_ ?_ ?_ <;> try exact trivial); (try any_goals (refine ⟨?_, ?_⟩)); (try any_goals (with_reducible rfl))))
      all_goals (repeat' (first | (refine And.intro ?_ ?_) | rfl))
    case LH1 =>
      have hk0 : k ≤ l.length := hx
      have oA := (aK_ok l k).add (by omega)
      have oR := rK_ok l (k := k) (by omega)
      by_cases hk : k < l.length
      · have hkd : decide ((k : Int) < (l.length : Int)) = true := decide_eq_true (by omega)
        have hw : IntKind.i64.wrap ((k : Int) + 1) = ((k + 1 : Nat) : Int) := by rw [wrap_i64 _ (by omega) (by omega)]; omega
        obtain ⟨x, hxx⟩ : ∃ x, l.getD k Itm.zero = x := ⟨_, rfl⟩
        have hsame := ((ag_K l k).add (aK_ok l k) x).1
        have hA1 : aK l (k + 1) = (addM x (aK l k)).1 := by rw [← hxx]; rfl
        have hB1 : rK l (k + 1) = (addR (rK l k) x).1 := by rw [← hxx]; rfl
        obtain ⟨r, hr⟩ : ∃ r, (addM x (aK l k)).2 = r := ⟨_, rfl⟩
        have e3 : addM ⟨x.apid, x.count, x.time, x.data⟩ (aK l k) = (aK l (k + 1), r) := by rw [hA1, ← hr]
        have e4 : addR (rK l k) ⟨x.apid, x.count, x.time, x.data⟩ = (rK l (k + 1), r) := by rw [hB1, ← hr, ← hsame]
        (have zx1 := @hkd; have zx2 := @hw; have zx3 := @hxx; all_goals (try ((first | (with_reducible refine wp_id ?_) | (with_reducible refine does_id ?_) | (with_reducible refine ops_id ?_)); refine walk ?_; (repeat' (first | exact trivial | with_reducible refine And.intro ?_ ?_)); all_goals (repeat (first | (with_reducible refine ImpB.mk fun hb => ?_) | (with_reducible refine ImpK.mk fun hK => ?_) | (with_reducible refine ImpF.mk fun hF => ?_) | (with_reducible refine ImpQ.mk fun hp => ?_) | (with_reducible refine AllE.mk fun p => ?_) | (with_reducible refine AllR.mk fun rest => ?_) | (with_reducible refine AllK.mk fun K => ?_))))); repeat' (with_reducible refine And.intro ?_ ?_))
        any_goals first | exact Int.natCast_nonneg _ | (show (k : Int) < (l.length : Int); omega) | (show k < l.length; omega)
        (all_goals first | exact Int.natCast_nonneg _ | exact Int.ofNat_lt.2 (by assumption) | assumption | omega | exact Nat.le_refl _ | (exfalso; simp at hb; done) | (simp only [go_sem, decide_true, decide_false, Int.reduceToNat, Nat.min_eq_left, Nat.min_eq_right, Int.reducePow, Nat.reducePow, Int.reduceLE, Int.reduceLT, Int.reduceMul, Int.reduceAdd, Int.reduceSub, Int.reduceNeg, Bool.not_true, Bool.not_false, Bool.not_not, ↓reduceIte, Nat.reduceAdd, Nat.reduceSub, Nat.reduceMul, Nat.reduceEqDiff, reduceCtorEq, Nat.reduceLT, Nat.reduceLeDiff, Nat.reduceGT]; done) | (unfold capM; omega) | (simp only [List.length_drop, List.length_take, List.length_append, List.length_cons, List.length_nil]; omega) | skip)
        refine ⟨k + 1, ⟨(by omega : k + 1 ≤ l.length), (by first | omega | (dsimp only; omega))⟩, ?_⟩
        (focus (refine ⟨_, _, Gh.refl, [0], rfl, ?_⟩; (refine fitq ?_ ?_ ?_ <;> try exact trivial); (try any_goals (refine ⟨?_, ?_⟩)); (try any_goals (with_reducible rfl))))
        all_goals (repeat' (first | (refine And.intro ?_ ?_) | rfl))
      · have hkd : decide ((k : Int) < (l.length : Int)) = false := decide_eq_false (by omega)
        have oC := (aK_ok l k).okCl (by omega)
        have oT := aK_tm l k
        have hE := (ag_K l k).between (aK_ok l k) f t
        have hrl := rK_len l k
        generalize aK l k = psA at *
        generalize rK l k = rsA at *
        obtain ⟨X, hX⟩ : ∃ X, (sortR ltB (rsA.filter (inT f t))).map itR = X := ⟨_, rfl⟩
        have hE2 : srt tmI (betL psA f t) = X := hE.trans hX
        have hXl : X.length ≤ 1099511627776 := by
          rw [← hX, List.length_map, (sortR_perm ltB _).length_eq]
          exact Nat.le_trans (List.length_filter_le _ _) (by omega)
        have hrs : rsA.length ≤ 100000 := by omega
        have hd2 : decide (X = X) = true := decide_eq_true rfl
        (have zx1 := @hkd; have zx2 := @hE2; have zx3 := @hX; have zx4 := @hd2; all_goals (try ((first | (with_reducible refine wp_id ?_) | (with_reducible refine does_id ?_) | (with_reducible refine ops_id ?_)); refine walk ?_; (repeat' (first | exact trivial | with_reducible refine And.intro ?_ ?_)); all_goals (repeat (first | (with_reducible refine ImpB.mk fun hb => ?_) | (with_reducible refine ImpK.mk fun hK => ?_) | (with_reducible refine ImpF.mk fun hF => ?_) | (with_reducible refine ImpQ.mk fun hp => ?_) | (with_reducible refine AllE.mk fun p => ?_) | (with_reducible refine AllR.mk fun rest => ?_) | (with_reducible refine AllK.mk fun K => ?_))))); repeat' (with_reducible refine And.intro ?_ ?_))
        (all_goals first | exact Int.natCast_nonneg _ | exact Int.ofNat_lt.2 (by assumption) | assumption | omega | exact Nat.le_refl _ | (exfalso; simp at hb; done) | (simp only [go_sem, decide_true, decide_false, Int.reduceToNat, Nat.min_eq_left, Nat.min_eq_right, Int.reducePow, Nat.reducePow, Int.reduceLE, Int.reduceLT, Int.reduceMul, Int.reduceAdd, Int.reduceSub, Int.reduceNeg, Bool.not_true, Bool.not_false, Bool.not_not, ↓reduceIte, Nat.reduceAdd, Nat.reduceSub, Nat.reduceMul, Nat.reduceEqDiff, reduceCtorEq, Nat.reduceLT, Nat.reduceLeDiff, Nat.reduceGT]; done) | (unfold capM; omega) | (simp only [List.length_drop, List.length_take, List.length_append, List.length_cons, List.length_nil]; omega) | skip)
        (focus (refine ⟨_, _, Gh.refl, [], rfl, ?_⟩; (refine fitq ?_ ?_ ?_ <;> try exact trivial); (try any_goals (refine ⟨?_, ?_⟩)); (try any_goals (with_reducible rfl))))
        all_goals (repeat' (first | (refine And.intro ?_ ?_) | rfl))
end Go.V
