/-
  Jobs: the stable sort.
  Assignments: the search in a sorted list.
  Assignments: assign.
-/
import Derived.Test.YtalpgifnkajkbaaPart17
set_option linter.unusedVariables false
set_option linter.unusedSimpArgs false
set_option maxRecDepth 100000
set_option maxHeartbeats 8000000
namespace Go.V
open Go.Proofs
theorem srtR_out {f : Int → Int} {a b i : Nat} {xs : List Int} (hab : a ≤ b) (hb : b ≤ xs.length) (h : i < a ∨ b ≤ i) : (srtR f a b xs).getD i 0 = xs.getD i 0 := by
  have hl : (srt f ((xs.take b).drop a)).length = b - a := by rw [srt_lenK, List.length_drop, List.length_take]; omega
  have ht : (xs.take a).length = a := by rw [List.length_take]; omega
  unfold srtR
  rw [List.getD_eq_getElem?_getD, List.getD_eq_getElem?_getD]
  rcases h with h | h
  · rw [List.append_assoc, List.getElem?_append_left (by omega), List.getElem?_take_of_lt h]
  · rw [List.getElem?_append_right (by rw [List.length_append]; omega), List.length_append, hl, ht, List.getElem?_drop]
    congr 2; omega
theorem srtR_in {f : Int → Int} {a b u v : Nat} {xs : List Int} (hb : b ≤ xs.length) (h1 : a ≤ u) (h2 : u < v) (h3 : v < b) : f ((srtR f a b xs).getD u 0) ≤ f ((srtR f a b xs).getD v 0) := by
  have hab : a ≤ b := by omega
  have ht : (xs.take a).length = a := by rw [List.length_take]; omega
  have hl : ((xs.take b).drop a).length = b - a := by rw [List.length_drop, List.length_take]; omega
  refine Srt_ix (a := a) (b := b) ?_ (by rw [srtR_len hab]; exact hb) h1 h2 h3
  unfold srtR
  rw [part_app ht.symm (by rw [srt_lenK]; omega)]
  exact srt_Srt
theorem ix_Srt {f : Int → Int} {a b : Nat} {zs : List Int} (hb : b ≤ zs.length) (hs : ∀ p q, a ≤ p → p < q → q < b → f (zs.getD p 0) ≤ f (zs.getD q 0)) : Srt f ((zs.take b).drop a) := by
  refine List.pairwise_iff_getElem.2 fun i j hi hj hij => ?_
  rw [List.length_drop, List.length_take] at hj
  have := hs (a + i) (a + j) (by omega) (by omega) (by omega)
  rw [List.getElem_drop, List.getElem_take, List.getElem_drop, List.getElem_take]
  rw [List.getD_eq_getElem?_getD, List.getD_eq_getElem?_getD, List.getElem?_eq_getElem (by omega), List.getElem?_eq_getElem (by omega)] at this
  exact this
/-- the blocks of B that begin behind lo are sorted, up to hi -/
def SB (f : Int → Int) (B lo hi : Nat) (zs : List Int) : Prop := ∀ k u v, lo ≤ k * B → k * B ≤ u → u < v → v < k * B + B → v < hi → f (zs.getD u 0) ≤ f (zs.getD v 0)
theorem SB.step20 {f : Int → Int} {k : Nat} {zs : List Int} (h : SB f 20 0 (20 * k) zs) {b : Nat} (h1 : 20 * k ≤ b) (h2 : b ≤ 20 * k + 20) (hb : b ≤ zs.length) : SB f 20 0 b (srtR f (20 * k) b zs) := fun j u v _ g1 g2 g3 g4 => by
  by_cases c : j < k
  · rw [srtR_out h1 hb (.inl (by omega)), srtR_out h1 hb (.inl (by omega))]
    exact h j u v (Nat.zero_le _) g1 g2 g3 (by omega)
  · exact srtR_in hb (by omega) g2 g4
theorem SB.left {f : Int → Int} {a B n k : Nat} {zs : List Int} (h : SB f B a n zs) (hk : a = k * (2 * B)) (hb : a + B ≤ n) (hn : n ≤ zs.length) : Srt f ((zs.take (a + B)).drop a) := by
  have e : 2 * k * B = a := by rw [hk, Nat.mul_comm 2 k, Nat.mul_assoc]
  exact ix_Srt (by omega) fun p q h1 h2 h3 => h (2 * k) p q (by omega) (by omega) h2 (by omega) (by omega)
theorem SB.right {f : Int → Int} {a B n k m : Nat} {zs : List Int} (h : SB f B a n zs) (hk : a = k * (2 * B)) (hm : m ≤ a + 2 * B) (hb : m ≤ n) (hn : n ≤ zs.length) : Srt f ((zs.take m).drop (a + B)) := by
  have e : 2 * k * B = a := by rw [hk, Nat.mul_comm 2 k, Nat.mul_assoc]
  have e2 : (2 * k + 1) * B = a + B := by rw [Nat.succ_mul, e]
  exact ix_Srt (by omega) fun p q h1 h2 h3 => h (2 * k + 1) p q (by omega) (by omega) h2 (by omega) (by omega)
theorem SB.step {f : Int → Int} {a B k b : Nat} {zs : List Int} (h : SB f (2 * B) 0 a zs) (hk : a = k * (2 * B)) (h1 : a ≤ b) (h2 : b ≤ a + 2 * B) (hb : b ≤ zs.length) : SB f (2 * B) 0 b (srtR f a b zs) := fun j u v _ g1 g2 g3 g4 => by
  by_cases c : j < k
  · have q : (j + 1) * (2 * B) ≤ k * (2 * B) := Nat.mul_le_mul_right _ c
    rw [Nat.succ_mul, ← hk] at q
    rw [srtR_out h1 hb (.inl (by omega)), srtR_out h1 hb (.inl (by omega))]
    exact h j u v (Nat.zero_le _) g1 g2 g3 (by omega)
  · have q : k * (2 * B) ≤ j * (2 * B) := Nat.mul_le_mul_right _ (by omega)
    exact srtR_in hb (by omega) g2 g4
theorem SB.keep {f : Int → Int} {a B b n : Nat} {zs : List Int} (h : SB f B a n zs) (h1 : a ≤ b) (hb : b ≤ zs.length) : SB f B b n (srtR f a b zs) := fun j u v g0 g1 g2 g3 g4 => by
  rw [srtR_out h1 hb (.inr (by omega)), srtR_out h1 hb (.inr (by omega))]
  exact h j u v (by omega) g1 g2 g3 g4
theorem SB.last {f : Int → Int} {a B k n : Nat} {zs : List Int} (h : SB f (2 * B) 0 a zs) (h' : SB f B a n zs) (hk : a = k * (2 * B)) (h2 : n ≤ a + B) : SB f (2 * B) 0 n zs := fun j u v _ g1 g2 g3 g4 => by
  by_cases c : j < k
  · have q : (j + 1) * (2 * B) ≤ k * (2 * B) := Nat.mul_le_mul_right _ c
    rw [Nat.succ_mul, ← hk] at q
    exact h j u v (Nat.zero_le _) g1 g2 g3 (by omega)
  · have q : k * (2 * B) ≤ j * (2 * B) := Nat.mul_le_mul_right _ (by omega)
    have e : 2 * k * B = a := by rw [hk, Nat.mul_comm 2 k, Nat.mul_assoc]
    exact h' (2 * k) u v (by omega) (by omega) g2 (by omega) g4
theorem SB.done {f : Int → Int} {B : Nat} {xs zs : List Int} (h : SB f B 0 xs.length zs) (hB : xs.length ≤ B) (hl : zs.length = xs.length) (hk : KE f xs zs) : zs = srt f xs := by
  have := srtR_uniq (f := f) (a := 0) (b := xs.length) (xs := xs) (zs := zs) (Nat.zero_le _) hl hk (by simp) (by rw [List.drop_eq_nil_of_le (by omega), List.drop_eq_nil_of_le (Nat.le_refl _)]) fun p q h1 h2 h3 h4 => h 0 p q (by omega) (by omega) h2 (by omega) h3
  rw [this, srtR_all]
theorem b_stabG (l : List Job) (xs : List Int) (n : Nat) (hn : xs.length = n) (hi : ∀ x ∈ xs, inJ l x) (hl : n ≤ 1099511627776) : DoesK Try.prog 2 38 [.sl 0 .int 0 n, .int .i64 n, .fn 19 [.ptr 1 0]] [.rows .int xs, bxJ l]
    (EndF 2 (.tup []) ([.rows .int (srt (keyJ l) xs), bxJ l] ++ [])) := by
  refine DoesK.close ?_
  refine w_body (rs := []) (tm := [.sl 0 .int 0 n, .int .i64 n, .fn 19 [.ptr 1 0], .any, .any, .any, .any, .any, .any, .any, .any, .any, .any, .any, .any, .any, .any, .any, .any, .any, .any, .any, .any, .any, .any, .any, .any, .any, .any, .any, .any, .any, .any, .any, .any, .any, .any, .any, .any, .any, .any, .any, .any, .any, .any, .any, .any, .any, .any, .any, .any, .any, .any, .any, .any, .any, .any, .any, .any, .any, .any, .any, .any]) fn_38 rfl rfl rfl rfl fun R hR => ?_
  (all_goals (try ((first | (with_reducible refine wp_id ?_) | (with_reducible refine does_id ?_) | (with_reducible refine ops_id ?_)); refine walk ?_; (repeat' (first | exact trivial | with_reducible refine And.intro ?_ ?_)); all_goals (repeat (first | (with_reducible refine ImpB.mk fun hb => ?_) | (with_reducible refine ImpK.mk fun hK => ?_) | (with_reducible refine ImpF.mk fun hF => ?_) | (with_reducible refine ImpQ.mk fun hp => ?_) | (with_reducible refine AllE.mk fun p => ?_) | (with_reducible refine AllR.mk fun rest => ?_) | (with_reducible refine AllK.mk fun K => ?_))))); repeat' (with_reducible refine And.intro ?_ ?_))
  any_goals ((try (refine w_seq fun K hK => ?_)); (try (refine w_block ?_)); refine w_loop (A := Nat × List Int) (fun p => 20 * p.1 ≤ n ∧ p.2.length = n ∧ KE (keyJ l) xs p.2 ∧ SB (keyJ l) 20 0 (20 * p.1) p.2) (fun p => n - 20 * p.1) (fun p => [(6, .int .i64 20), (7, .int .i64 (20 * p.1 : Nat)), (8, .int .i64 (20 * p.1 + 20 : Nat))]) (fun p => [(0, .rows .int p.2), (1, bxJ l)]) ((0, xs)) (ws := ?ws1) (tk := ?tk1) ?hw1 ?ht1 ?hi ?h0 ?LH1; (case hw1 => simp only [go_sem, decide_true, decide_false, Int.reduceToNat, Nat.min_eq_left, Nat.min_eq_right, Int.reducePow, Nat.reducePow, Int.reduceLE, Int.reduceLT, Int.reduceMul, Int.reduceAdd, Int.reduceSub, Int.reduceNeg, Bool.not_true, Bool.not_false, Bool.not_not, ↓reduceIte, Nat.reduceAdd, Nat.reduceSub, Nat.reduceMul, Nat.reduceEqDiff, reduceCtorEq, Nat.reduceLT, Nat.reduceLeDiff, Nat.reduceGT]; exact rfl); (case ht1 => simp only [go_sem, decide_true, decide_false, Int.reduceToNat, Nat.min_eq_left, Nat.min_eq_right, Int.reducePow, Nat.reducePow, Int.reduceLE, Int.reduceLT, Int.reduceMul, Int.reduceAdd, Int.reduceSub, Int.reduceNeg, Bool.not_true, Bool.not_false, Bool.not_not, ↓reduceIte, Nat.reduceAdd, Nat.reduceSub, Nat.reduceMul, Nat.reduceEqDiff, reduceCtorEq, Nat.reduceLT, Nat.reduceLeDiff, Nat.reduceGT]; exact rfl); (case' LH1 => rintro ⟨k, zs⟩ E t hx hE ht; simp only [go_sem] at ht; subst ht; simp only [go_sem]; try dsimp only at hx))
  case hi => exact ⟨by dsimp only; omega, hn, KE.refl, fun k u v h0 h1 h2 h3 h4 => absurd h4 (by dsimp only; omega)⟩
  case h0 => (focus (refine ⟨_, _, Gh.refl, [0, 1], rfl, ?_⟩; (refine ⟨?_, ?_, ?_⟩ <;> simp only [go_sem, List.range, List.range.loop, List.nodup_cons, List.nodup_nil, List.mem_cons, List.not_mem_nil, or_false, or_self, decide_true, decide_false, Int.reduceToNat, Nat.min_eq_left, Nat.min_eq_right, Int.reducePow, Nat.reducePow, Int.reduceLE, Int.reduceLT, Int.reduceMul, Int.reduceAdd, Int.reduceSub, Int.reduceNeg, Bool.not_true, Bool.not_false, Bool.not_not, ↓reduceIte, Nat.reduceAdd, Nat.reduceSub, Nat.reduceMul, Nat.reduceEqDiff, reduceCtorEq, Nat.reduceLT, Nat.reduceLeDiff, Nat.reduceGT]); (try any_goals (refine ⟨?_, ?_⟩)); (try any_goals (with_reducible rfl)))); (all_goals first | exact rfl | omega)
  case LH1 =>
    obtain ⟨h1, h2, h3, h4⟩ := hx
    (try dsimp only at h1 h2 h3 h4)
    have iz := KE.all h3 hi
    by_cases h20 : 20 * k + 20 ≤ n
    · have d1 : decide (((20 * k + 20 : Nat) : Int) ≤ (n : Int)) = true := decide_eq_true (by omega)
      have w1 : IntKind.i64.wrap (((20 * k + 20 : Nat) : Int) + 20) = ((20 * (k + 1) + 20 : Nat) : Int) := by rw [wrap_i64 _ (by omega) (by omega)]; omega
      obtain ⟨ys, hys⟩ : ∃ ys, srtR (keyJ l) (20 * k) (20 * k + 20) zs = ys := ⟨_, rfl⟩
      have s0 := SB.step20 h4 (b := 20 * k + 20) (by omega) (by omega) (by omega)
      have s1 := h3.trans (srtR_KE (f := keyJ l) (a := 20 * k) (b := 20 * k + 20) (xs := zs) (by omega))
      have s2 := srtR_len (f := keyJ l) (a := 20 * k) (b := 20 * k + 20) (xs := zs) (by omega)
      rw [hys] at s0 s1 s2
      (have zx1 := @d1; have zx2 := @w1; have zx3 := @hys; all_goals (try ((first | (with_reducible refine wp_id ?_) | (with_reducible refine does_id ?_) | (with_reducible refine ops_id ?_)); refine walk ?_; (repeat' (first | exact trivial | with_reducible refine And.intro ?_ ?_)); all_goals (repeat (first | (with_reducible refine ImpB.mk fun hb => ?_) | (with_reducible refine ImpK.mk fun hK => ?_) | (with_reducible refine ImpF.mk fun hF => ?_) | (with_reducible refine ImpQ.mk fun hp => ?_) | (with_reducible refine AllE.mk fun p => ?_) | (with_reducible refine AllR.mk fun rest => ?_) | (with_reducible refine AllK.mk fun K => ?_))))); repeat' (with_reducible refine And.intro ?_ ?_))
      all_goals first | exact iz | omega | skip
      refine ⟨(k + 1, ys), ⟨⟨by dsimp only; omega, by dsimp only; omega, s1, by dsimp only; exact s0⟩, by dsimp only; omega⟩, ?_⟩
      (focus (refine ⟨_, _, Gh.refl, [0, 1], rfl, ?_⟩; (refine ⟨?_, ?_, ?_⟩ <;> simp only [go_sem, List.range, List.range.loop, List.nodup_cons, List.nodup_nil, List.mem_cons, List.not_mem_nil, or_false, or_self, decide_true, decide_false, Int.reduceToNat, Nat.min_eq_left, Nat.min_eq_right, Int.reducePow, Nat.reducePow, Int.reduceLE, Int.reduceLT, Int.reduceMul, Int.reduceAdd, Int.reduceSub, Int.reduceNeg, Bool.not_true, Bool.not_false, Bool.not_not, ↓reduceIte, Nat.reduceAdd, Nat.reduceSub, Nat.reduceMul, Nat.reduceEqDiff, reduceCtorEq, Nat.reduceLT, Nat.reduceLeDiff, Nat.reduceGT]); (try any_goals (refine ⟨?_, ?_⟩)); (try any_goals (with_reducible rfl))))
      all_goals first | exact rfl | exact hys.symm | omega
    · have d1 : decide (((20 * k + 20 : Nat) : Int) ≤ (n : Int)) = false := decide_eq_false (by omega)
      obtain ⟨ys, hys⟩ : ∃ ys, srtR (keyJ l) (20 * k) n zs = ys := ⟨_, rfl⟩
      have s0 := SB.step20 h4 (b := n) (by omega) (by omega) (by omega)
      have s1 := h3.trans (srtR_KE (f := keyJ l) (a := 20 * k) (b := n) (xs := zs) (by omega))
      have s2 := srtR_len (f := keyJ l) (a := 20 * k) (b := n) (xs := zs) (by omega)
      rw [hys] at s0 s1 s2
      (have zx1 := @d1; have zx2 := @hys; all_goals (try ((first | (with_reducible refine wp_id ?_) | (with_reducible refine does_id ?_) | (with_reducible refine ops_id ?_)); refine walk ?_; (repeat' (first | exact trivial | with_reducible refine And.intro ?_ ?_)); all_goals (repeat (first | (with_reducible refine ImpB.mk fun hb => ?_) | (with_reducible refine ImpK.mk fun hK => ?_) | (with_reducible refine ImpF.mk fun hF => ?_) | (with_reducible refine ImpQ.mk fun hp => ?_) | (with_reducible refine AllE.mk fun p => ?_) | (with_reducible refine AllR.mk fun rest => ?_) | (with_reducible refine AllK.mk fun K => ?_))))); repeat' (with_reducible refine And.intro ?_ ?_))
      all_goals first | exact iz | omega | skip
      any_goals ((try (refine w_seq fun K hK => ?_)); (try (refine w_block ?_)); refine w_loop (A := Nat × List Int) (fun p => 20 ≤ p.1 ∧ p.1 ≤ 2 * n + 20 ∧ p.2.length = n ∧ KE (keyJ l) xs p.2 ∧ SB (keyJ l) p.1 0 n p.2) (fun p => n - p.1) (fun p => [(6, .int .i64 p.1)]) (fun p => [(0, .rows .int p.2), (1, bxJ l)]) ((20, ys)) (ws := ?ws2) (tk := ?tk2) ?hw2 ?ht2 ?hi_1 ?h0_1 ?LH2; (case hw2 => simp only [go_sem, decide_true, decide_false, Int.reduceToNat, Nat.min_eq_left, Nat.min_eq_right, Int.reducePow, Nat.reducePow, Int.reduceLE, Int.reduceLT, Int.reduceMul, Int.reduceAdd, Int.reduceSub, Int.reduceNeg, Bool.not_true, Bool.not_false, Bool.not_not, ↓reduceIte, Nat.reduceAdd, Nat.reduceSub, Nat.reduceMul, Nat.reduceEqDiff, reduceCtorEq, Nat.reduceLT, Nat.reduceLeDiff, Nat.reduceGT]; exact rfl); (case ht2 => simp only [go_sem, decide_true, decide_false, Int.reduceToNat, Nat.min_eq_left, Nat.min_eq_right, Int.reducePow, Nat.reducePow, Int.reduceLE, Int.reduceLT, Int.reduceMul, Int.reduceAdd, Int.reduceSub, Int.reduceNeg, Bool.not_true, Bool.not_false, Bool.not_not, ↓reduceIte, Nat.reduceAdd, Nat.reduceSub, Nat.reduceMul, Nat.reduceEqDiff, reduceCtorEq, Nat.reduceLT, Nat.reduceLeDiff, Nat.reduceGT]; exact rfl); (case' LH2 => rintro ⟨B, vs⟩ E t hx hE ht; simp only [go_sem] at ht; subst ht; simp only [go_sem]; try dsimp only at hx))
      case hi_1 => exact ⟨Nat.le_refl _, by dsimp only; omega, by dsimp only; omega, s1, s0⟩
      case h0_1 => (focus (refine ⟨_, _, Gh.refl, [0, 1], rfl, ?_⟩; (refine ⟨?_, ?_, ?_⟩ <;> simp only [go_sem, List.range, List.range.loop, List.nodup_cons, List.nodup_nil, List.mem_cons, List.not_mem_nil, or_false, or_self, decide_true, decide_false, Int.reduceToNat, Nat.min_eq_left, Nat.min_eq_right, Int.reducePow, Nat.reducePow, Int.reduceLE, Int.reduceLT, Int.reduceMul, Int.reduceAdd, Int.reduceSub, Int.reduceNeg, Bool.not_true, Bool.not_false, Bool.not_not, ↓reduceIte, Nat.reduceAdd, Nat.reduceSub, Nat.reduceMul, Nat.reduceEqDiff, reduceCtorEq, Nat.reduceLT, Nat.reduceLeDiff, Nat.reduceGT]); (try any_goals (refine ⟨?_, ?_⟩)); (try any_goals (with_reducible rfl)))); (all_goals first | exact rfl | exact hys.symm)
      case LH2 =>
        obtain ⟨g1, g2, g3, g4, g5⟩ := hx
        (try dsimp only at g1 g2 g3 g4 g5)
        by_cases hB : B < n
        · have d2 : decide ((B : Int) < (n : Int)) = true := decide_eq_true (by omega)
          have w2 : IntKind.i64.wrap (2 * (B : Int)) = ((2 * B : Nat) : Int) := by rw [wrap_i64 _ (by omega) (by omega)]; omega
          (have zx1 := @d2; have zx2 := @w2; all_goals (try ((first | (with_reducible refine wp_id ?_) | (with_reducible refine does_id ?_) | (with_reducible refine ops_id ?_)); refine walk ?_; (repeat' (first | exact trivial | with_reducible refine And.intro ?_ ?_)); all_goals (repeat (first | (with_reducible refine ImpB.mk fun hb => ?_) | (with_reducible refine ImpK.mk fun hK => ?_) | (with_reducible refine ImpF.mk fun hF => ?_) | (with_reducible refine ImpQ.mk fun hp => ?_) | (with_reducible refine AllE.mk fun p => ?_) | (with_reducible refine AllR.mk fun rest => ?_) | (with_reducible refine AllK.mk fun K => ?_))))); repeat' (with_reducible refine And.intro ?_ ?_))
          any_goals ((try (refine w_seq fun K hK => ?_)); (try (refine w_block ?_)); refine w_loop (A := Nat × List Int) (fun p => (∃ k, p.1 = k * (2 * B)) ∧ p.1 ≤ n ∧ p.2.length = n ∧ KE (keyJ l) xs p.2 ∧ SB (keyJ l) (2 * B) 0 p.1 p.2 ∧ SB (keyJ l) B p.1 n p.2) (fun p => n - p.1) (fun p => [(6, .int .i64 B), (7, .int .i64 p.1), (8, .int .i64 (p.1 + 2 * B : Nat))]) (fun p => [(0, .rows .int p.2), (1, bxJ l)]) ((0, vs)) (ws := ?ws3) (tk := ?tk3) ?hw3 ?ht3 ?hi_2 ?h0_2 ?LH3; (case hw3 => simp only [go_sem, decide_true, decide_false, Int.reduceToNat, Nat.min_eq_left, Nat.min_eq_right, Int.reducePow, Nat.reducePow, Int.reduceLE, Int.reduceLT, Int.reduceMul, Int.reduceAdd, Int.reduceSub, Int.reduceNeg, Bool.not_true, Bool.not_false, Bool.not_not, ↓reduceIte, Nat.reduceAdd, Nat.reduceSub, Nat.reduceMul, Nat.reduceEqDiff, reduceCtorEq, Nat.reduceLT, Nat.reduceLeDiff, Nat.reduceGT]; exact rfl); (case ht3 => simp only [go_sem, decide_true, decide_false, Int.reduceToNat, Nat.min_eq_left, Nat.min_eq_right, Int.reducePow, Nat.reducePow, Int.reduceLE, Int.reduceLT, Int.reduceMul, Int.reduceAdd, Int.reduceSub, Int.reduceNeg, Bool.not_true, Bool.not_false, Bool.not_not, ↓reduceIte, Nat.reduceAdd, Nat.reduceSub, Nat.reduceMul, Nat.reduceEqDiff, reduceCtorEq, Nat.reduceLT, Nat.reduceLeDiff, Nat.reduceGT]; exact rfl); (case' LH3 => rintro ⟨a, us⟩ E t hx hE ht; simp only [go_sem] at ht; subst ht; simp only [go_sem]; try dsimp only at hx))
          case hi_2 => exact ⟨⟨0, by simp⟩, Nat.zero_le _, g3, g4, fun k u v h0 h1 h2 h3 h4 => absurd h4 (Nat.not_lt_zero _), g5⟩
          case h0_2 => (focus (refine ⟨_, _, Gh.refl, [0, 1], rfl, ?_⟩; (refine ⟨?_, ?_, ?_⟩ <;> simp only [go_sem, List.range, List.range.loop, List.nodup_cons, List.nodup_nil, List.mem_cons, List.not_mem_nil, or_false, or_self, decide_true, decide_false, Int.reduceToNat, Nat.min_eq_left, Nat.min_eq_right, Int.reducePow, Nat.reducePow, Int.reduceLE, Int.reduceLT, Int.reduceMul, Int.reduceAdd, Int.reduceSub, Int.reduceNeg, Bool.not_true, Bool.not_false, Bool.not_not, ↓reduceIte, Nat.reduceAdd, Nat.reduceSub, Nat.reduceMul, Nat.reduceEqDiff, reduceCtorEq, Nat.reduceLT, Nat.reduceLeDiff, Nat.reduceGT]); (try any_goals (refine ⟨?_, ?_⟩)); (try any_goals (with_reducible rfl)))); (all_goals first | exact rfl | omega)
          case LH3 =>
            obtain ⟨⟨k', f1⟩, f2, f3, f4, f5, f6⟩ := hx
            (try dsimp only at f1 f2 f3 f4 f5 f6)
            have iu := KE.all f4 hi
            have w3 : IntKind.i64.wrap ((a : Int) + (B : Int)) = ((a + B : Nat) : Int) := by rw [wrap_i64 _ (by omega) (by omega)]; omega
            by_cases c : a + 2 * B ≤ n
            · have d3 : decide (((a + 2 * B : Nat) : Int) ≤ (n : Int)) = true := decide_eq_true (by omega)
              have w4 : IntKind.i64.wrap (((a + 2 * B : Nat) : Int) + ((2 * B : Nat) : Int)) = ((a + 2 * B + 2 * B : Nat) : Int) := by rw [wrap_i64 _ (by omega) (by omega)]; omega
              obtain ⟨ts, hts⟩ : ∃ ys, srtR (keyJ l) a (a + 2 * B) us = ys := ⟨_, rfl⟩
              have t0 := SB.step f5 f1 (b := a + 2 * B) (by omega) (by omega) (by omega)
              have t1 := f4.trans (srtR_KE (f := keyJ l) (a := a) (b := a + 2 * B) (xs := us) (by omega))
              have t2 := srtR_len (f := keyJ l) (a := a) (b := a + 2 * B) (xs := us) (by omega)
              have t3 := SB.keep f6 (b := a + 2 * B) (by omega) (by omega)
              have t4 := SB.left f6 f1 (by omega) (by omega)
              have t5 := SB.right f6 f1 (m := a + 2 * B) (by omega) c (by omega)
              rw [hts] at t0 t1 t2 t3
              (have zx1 := @d3; have zx2 := @w2; have zx3 := @w3; have zx4 := @w4; have zx5 := @hts; all_goals (try ((first | (with_reducible refine wp_id ?_) | (with_reducible refine does_id ?_) | (with_reducible refine ops_id ?_)); refine walk ?_; (repeat' (first | exact trivial | with_reducible refine And.intro ?_ ?_)); all_goals (repeat (first | (with_reducible refine ImpB.mk fun hb => ?_) | (with_reducible refine ImpK.mk fun hK => ?_) | (with_reducible refine ImpF.mk fun hF => ?_) | (with_reducible refine ImpQ.mk fun hp => ?_) | (with_reducible refine AllE.mk fun p => ?_) | (with_reducible refine AllR.mk fun rest => ?_) | (with_reducible refine AllK.mk fun K => ?_))))); repeat' (with_reducible refine And.intro ?_ ?_))
              all_goals first | exact iu | exact t4 | exact t5 | omega | skip
              refine ⟨(a + 2 * B, ts), ⟨⟨⟨k' + 1, by dsimp only; have := Nat.add_mul k' 1 (2 * B); omega⟩, by dsimp only; omega, by dsimp only; omega, t1, t0, t3⟩, by dsimp only; omega⟩, ?_⟩
              (focus (refine ⟨_, _, Gh.refl, [0, 1], rfl, ?_⟩; (refine ⟨?_, ?_, ?_⟩ <;> simp only [go_sem, List.range, List.range.loop, List.nodup_cons, List.nodup_nil, List.mem_cons, List.not_mem_nil, or_false, or_self, decide_true, decide_false, Int.reduceToNat, Nat.min_eq_left, Nat.min_eq_right, Int.reducePow, Nat.reducePow, Int.reduceLE, Int.reduceLT, Int.reduceMul, Int.reduceAdd, Int.reduceSub, Int.reduceNeg, Bool.not_true, Bool.not_false, Bool.not_not, ↓reduceIte, Nat.reduceAdd, Nat.reduceSub, Nat.reduceMul, Nat.reduceEqDiff, reduceCtorEq, Nat.reduceLT, Nat.reduceLeDiff, Nat.reduceGT]); (try any_goals (refine ⟨?_, ?_⟩)); (try any_goals (with_reducible rfl))))
              all_goals first | exact rfl | exact hts.symm | omega
            · have d3 : decide (((a + 2 * B : Nat) : Int) ≤ (n : Int)) = false := decide_eq_false (by omega)
              have w5 : IntKind.i64.wrap ((B : Int) * 2) = ((2 * B : Nat) : Int) := by rw [wrap_i64 _ (by omega) (by omega)]; omega
              by_cases c2 : a + B < n
              · have d4 : decide (((a + B : Nat) : Int) < (n : Int)) = true := decide_eq_true (by omega)
                obtain ⟨ts, hts⟩ : ∃ ys, srtR (keyJ l) a n us = ys := ⟨_, rfl⟩
                have t0 := SB.step f5 f1 (b := n) (by omega) (by omega) (by omega)
                have t1 := f4.trans (srtR_KE (f := keyJ l) (a := a) (b := n) (xs := us) (by omega))
                have t2 := srtR_len (f := keyJ l) (a := a) (b := n) (xs := us) (by omega)
                have t4 := SB.left f6 f1 (by omega) (by omega)
                have t5 := SB.right f6 f1 (m := n) (by omega) (Nat.le_refl _) (by omega)
                rw [hts] at t0 t1 t2
                (have zx1 := @d3; have zx2 := @w3; have zx3 := @w5; have zx4 := @d4; have zx5 := @hts; all_goals (try ((first | (with_reducible refine wp_id ?_) | (with_reducible refine does_id ?_) | (with_reducible refine ops_id ?_)); refine walk ?_; (repeat' (first | exact trivial | with_reducible refine And.intro ?_ ?_)); all_goals (repeat (first | (with_reducible refine ImpB.mk fun hb => ?_) | (with_reducible refine ImpK.mk fun hK => ?_) | (with_reducible refine ImpF.mk fun hF => ?_) | (with_reducible refine ImpQ.mk fun hp => ?_) | (with_reducible refine AllE.mk fun p => ?_) | (with_reducible refine AllR.mk fun rest => ?_) | (with_reducible refine AllK.mk fun K => ?_))))); repeat' (with_reducible refine And.intro ?_ ?_))
                all_goals first | exact iu | exact t4 | exact t5 | omega | skip
                refine ⟨(2 * B, ts), ⟨⟨by dsimp only; omega, by dsimp only; omega, by dsimp only; omega, t1, t0⟩, by dsimp only; omega⟩, ?_⟩
                (focus (refine ⟨_, _, Gh.refl, [0, 1], rfl, ?_⟩; (refine ⟨?_, ?_, ?_⟩ <;> simp only [go_sem, List.range, List.range.loop, List.nodup_cons, List.nodup_nil, List.mem_cons, List.not_mem_nil, or_false, or_self, decide_true, decide_false, Int.reduceToNat, Nat.min_eq_left, Nat.min_eq_right, Int.reducePow, Nat.reducePow, Int.reduceLE, Int.reduceLT, Int.reduceMul, Int.reduceAdd, Int.reduceSub, Int.reduceNeg, Bool.not_true, Bool.not_false, Bool.not_not, ↓reduceIte, Nat.reduceAdd, Nat.reduceSub, Nat.reduceMul, Nat.reduceEqDiff, reduceCtorEq, Nat.reduceLT, Nat.reduceLeDiff, Nat.reduceGT]); (try any_goals (refine ⟨?_, ?_⟩)); (try any_goals (with_reducible rfl))))
                all_goals first | exact rfl | exact hts.symm | omega
              · have d4 : decide (((a + B : Nat) : Int) < (n : Int)) = false := decide_eq_false (by omega)
                have t0 := SB.last f5 f6 f1 (by omega)
                (have zx1 := @d3; have zx2 := @w3; have zx3 := @w5; have zx4 := @d4; all_goals (try ((first | (with_reducible refine wp_id ?_) | (with_reducible refine does_id ?_) | (with_reducible refine ops_id ?_)); refine walk ?_; (repeat' (first | exact trivial | with_reducible refine And.intro ?_ ?_)); all_goals (repeat (first | (with_reducible refine ImpB.mk fun hb => ?_) | (with_reducible refine ImpK.mk fun hK => ?_) | (with_reducible refine ImpF.mk fun hF => ?_) | (with_reducible refine ImpQ.mk fun hp => ?_) | (with_reducible refine AllE.mk fun p => ?_) | (with_reducible refine AllR.mk fun rest => ?_) | (with_reducible refine AllK.mk fun K => ?_))))); repeat' (with_reducible refine And.intro ?_ ?_))
                all_goals first | omega | skip
                refine ⟨(2 * B, us), ⟨⟨by dsimp only; omega, by dsimp only; omega, f3, f4, t0⟩, by dsimp only; omega⟩, ?_⟩
                (focus (refine ⟨_, _, Gh.refl, [0, 1], rfl, ?_⟩; (refine ⟨?_, ?_, ?_⟩ <;> simp only [go_sem, List.range, List.range.loop, List.nodup_cons, List.nodup_nil, List.mem_cons, List.not_mem_nil, or_false, or_self, decide_true, decide_false, Int.reduceToNat, Nat.min_eq_left, Nat.min_eq_right, Int.reducePow, Nat.reducePow, Int.reduceLE, Int.reduceLT, Int.reduceMul, Int.reduceAdd, Int.reduceSub, Int.reduceNeg, Bool.not_true, Bool.not_false, Bool.not_not, ↓reduceIte, Nat.reduceAdd, Nat.reduceSub, Nat.reduceMul, Nat.reduceEqDiff, reduceCtorEq, Nat.reduceLT, Nat.reduceLeDiff, Nat.reduceGT]); (try any_goals (refine ⟨?_, ?_⟩)); (try any_goals (with_reducible rfl))))
                all_goals first | exact rfl | omega
        · have d2 : decide ((B : Int) < (n : Int)) = false := decide_eq_false (by omega)
          rw [← hn] at g3 g5
          obtain rfl := SB.done g5 (by omega) g3 g4
          (have zx1 := @d2; all_goals (try ((first | (with_reducible refine wp_id ?_) | (with_reducible refine does_id ?_) | (with_reducible refine ops_id ?_)); refine walk ?_; (repeat' (first | exact trivial | with_reducible refine And.intro ?_ ?_)); all_goals (repeat (first | (with_reducible refine ImpB.mk fun hb => ?_) | (with_reducible refine ImpK.mk fun hK => ?_) | (with_reducible refine ImpF.mk fun hF => ?_) | (with_reducible refine ImpQ.mk fun hp => ?_) | (with_reducible refine AllE.mk fun p => ?_) | (with_reducible refine AllR.mk fun rest => ?_) | (with_reducible refine AllK.mk fun K => ?_))))); repeat' (with_reducible refine And.intro ?_ ?_))
          (focus (refine ⟨_, _, Gh.refl, [0, 1], rfl, ?_⟩; (refine ⟨?_, ?_, ?_⟩ <;> simp only [go_sem, List.range, List.range.loop, List.nodup_cons, List.nodup_nil, List.mem_cons, List.not_mem_nil, or_false, or_self, decide_true, decide_false, Int.reduceToNat, Nat.min_eq_left, Nat.min_eq_right, Int.reducePow, Nat.reducePow, Int.reduceLE, Int.reduceLT, Int.reduceMul, Int.reduceAdd, Int.reduceSub, Int.reduceNeg, Bool.not_true, Bool.not_false, Bool.not_not, ↓reduceIte, Nat.reduceAdd, Nat.reduceSub, Nat.reduceMul, Nat.reduceEqDiff, reduceCtorEq, Nat.reduceLT, Nat.reduceLeDiff, Nat.reduceGT]); (try any_goals (refine ⟨?_, ?_⟩)); (try any_goals (with_reducible rfl))))
theorem c_stab {h : List Ch} {K : KT} {l : List Job} {xs : List Int} {x : Int} {n t u : Nat} (H : K (.tup []) (h.set t (.rows .int (srt (keyJ l) xs)))) (o : hth h t = .rows .int xs) (o1 : hth h u = bxJ l) (s1 : ∀ x ∈ xs, inJ l x) (s2 : x = n) (s3 : n = xs.length) (s4 : xs.length ≤ 1099511627776) : Does Try.prog 38 [.sl t .int 0 n, .int .i64 x, .fn 19 [.ptr u 0]] h K := by
  have hne : t ≠ u := fun e => by rw [e, o1] at o; cases o
  have hb := b_stabG l xs n s3.symm s1 (by omega)
  rw [s2]
  refine frame_two0 (ret' := .tup []) hb o o1 hne (by simp) (by simp) (fitC_rows _ _) (fun σ => ?_) (br_cons (br_own rfl) (br_cons br_int (br_cons (br_clo rfl) br_nil))) rfl (fun _ => rfl) (fun _ => rfl) rfl ?_
  · simp only [fitC, fitL, fitA, asE_self, and_self]
  · rw [set_hth (by rw [hth_set_ne hne]; exact o1) (by simp)]
    exact H
abbrev i_stab := Ctr.mk (i := 0) (g := 38) @c_stab
attribute [instance] i_stab
theorem b_sts (l : List Job) (xs : List Int) (hi : ∀ x ∈ xs, inJ l x) (hl : xs.length ≤ 1099511627776) : DoesK Try.prog 2 18 [.sl 0 .int 0 xs.length, .fn 19 [.ptr 1 0]] [.rows .int xs, bxJ l]
    (EndF 2 (.tup []) ([.rows .int (srt (keyJ l) xs), bxJ l] ++ [])) := by
  refine DoesK.close ?_
  refine w_body (rs := []) (tm := [.sl 0 .int 0 xs.length, .fn 19 [.ptr 1 0], .any, .any, .any, .any, .any, .any, .any]) fn_18 rfl rfl rfl rfl fun R hR => ?_
  (all_goals (try ((first | (with_reducible refine wp_id ?_) | (with_reducible refine does_id ?_) | (with_reducible refine ops_id ?_)); refine walk ?_; (repeat' (first | exact trivial | with_reducible refine And.intro ?_ ?_)); all_goals (repeat (first | (with_reducible refine ImpB.mk fun hb => ?_) | (with_reducible refine ImpK.mk fun hK => ?_) | (with_reducible refine ImpF.mk fun hF => ?_) | (with_reducible refine ImpQ.mk fun hp => ?_) | (with_reducible refine AllE.mk fun p => ?_) | (with_reducible refine AllR.mk fun rest => ?_) | (with_reducible refine AllK.mk fun K => ?_))))); repeat' (with_reducible refine And.intro ?_ ?_))
  all_goals first | exact hi | omega | skip
  (focus (refine ⟨_, _, Gh.refl, [0, 1], rfl, ?_⟩; (refine ⟨?_, ?_, ?_⟩ <;> simp only [go_sem, List.range, List.range.loop, List.nodup_cons, List.nodup_nil, List.mem_cons, List.not_mem_nil, or_false, or_self, decide_true, decide_false, Int.reduceToNat, Nat.min_eq_left, Nat.min_eq_right, Int.reducePow, Nat.reducePow, Int.reduceLE, Int.reduceLT, Int.reduceMul, Int.reduceAdd, Int.reduceSub, Int.reduceNeg, Bool.not_true, Bool.not_false, Bool.not_not, ↓reduceIte, Nat.reduceAdd, Nat.reduceSub, Nat.reduceMul, Nat.reduceEqDiff, reduceCtorEq, Nat.reduceLT, Nat.reduceLeDiff, Nat.reduceGT]); (try any_goals (refine ⟨?_, ?_⟩)); (try any_goals (with_reducible rfl))))
theorem c_sts {h : List Ch} {K : KT} {l : List Job} {xs : List Int} {n t u : Nat} (H : K (.tup []) (h.set t (.rows .int (srt (keyJ l) xs)))) (o : hth h t = .rows .int xs) (o1 : hth h u = bxJ l) (s1 : ∀ x ∈ xs, inJ l x) (s3 : n = xs.length) (s4 : xs.length ≤ 1099511627776) : Does Try.prog 18 [.sl t .int 0 n, .fn 19 [.ptr u 0]] h K := by
  have hne : t ≠ u := fun e => by rw [e, o1] at o; cases o
  have hb := b_sts l xs s1 s4
  rw [s3]
  refine frame_two0 (ret' := .tup []) hb o o1 hne (by simp) (by simp) (fitC_rows _ _) (fun σ => ?_) (br_cons (br_own rfl) (br_cons (br_clo rfl) br_nil)) rfl (fun _ => rfl) (fun _ => rfl) rfl ?_
  · simp only [fitC, fitL, fitA, asE_self, and_self]
  · rw [set_hth (by rw [hth_set_ne hne]; exact o1) (by simp)]
    exact H
abbrev i_sts := Ctr.mk (i := 0) (g := 18) @c_sts
attribute [instance] i_sts
end Go.V

set_option maxRecDepth 100000
set_option maxHeartbeats 8000000
namespace Go.V
open Go.Proofs
abbrev sAt (l : List Slo) (k : Nat) : Slo := l.getD k Slo.zero
theorem sAt_eq {l : List Slo} {k : Nat} (h : k < l.length) : sAt l k = l[k] := by rw [sAt, List.getD_eq_getElem?_getD, List.getElem?_eq_getElem h]; rfl
def srtS (l : List Slo) : Prop := l.Pairwise fun a b => a.st ≤ b.st
theorem b_cmpSt (x : Slo) (t : Int) : DoesK Try.prog 0 24 [.agg [.int .i64 x.job, .int .i64 x.win, .int .i64 x.st, .int .i64 x.en], .int .i64 t] [] (EndF 0 (.int .i64 (cmpI x.st t)) []) := by
  refine DoesK.close ?_
  refine w_body (rs := [.tmp 4]) (tm := [.agg [.int .i64 x.job, .int .i64 x.win, .int .i64 x.st, .int .i64 x.en], .int .i64 t, .any, .any, .any, .any, .any, .any, .any]) fn_24 rfl rfl rfl rfl fun R hR => ?_
  (all_goals (try ((first | (with_reducible refine wp_id ?_) | (with_reducible refine does_id ?_) | (with_reducible refine ops_id ?_)); refine walk ?_; (repeat' (first | exact trivial | with_reducible refine And.intro ?_ ?_)); all_goals (repeat (first | (with_reducible refine ImpB.mk fun hb => ?_) | (with_reducible refine ImpK.mk fun hK => ?_) | (with_reducible refine ImpF.mk fun hF => ?_) | (with_reducible refine ImpQ.mk fun hp => ?_) | (with_reducible refine AllE.mk fun p => ?_) | (with_reducible refine AllR.mk fun rest => ?_) | (with_reducible refine AllK.mk fun K => ?_))))); repeat' (with_reducible refine And.intro ?_ ?_))
  (focus (refine ⟨_, _, Gh.refl, [], rfl, ?_⟩; (refine ⟨?_, ?_, ?_⟩ <;> simp only [go_sem, List.range, List.range.loop, List.nodup_cons, List.nodup_nil, List.mem_cons, List.not_mem_nil, or_false, or_self, decide_true, decide_false, Int.reduceToNat, Nat.min_eq_left, Nat.min_eq_right, Int.reducePow, Nat.reducePow, Int.reduceLE, Int.reduceLT, Int.reduceMul, Int.reduceAdd, Int.reduceSub, Int.reduceNeg, Bool.not_true, Bool.not_false, Bool.not_not, ↓reduceIte, Nat.reduceAdd, Nat.reduceSub, Nat.reduceMul, Nat.reduceEqDiff, reduceCtorEq, Nat.reduceLT, Nat.reduceLeDiff, Nat.reduceGT]); (try any_goals (refine ⟨?_, ?_⟩)); (try any_goals (with_reducible rfl))))
theorem c_cmpSt {h : List Ch} {K : KT} {x : Slo} {t : Int} (H : K (.int .i64 (cmpI x.st t)) h) : Does Try.prog 24 [.agg [.int .i64 x.job, .int .i64 x.win, .int .i64 x.st, .int .i64 x.en], .int .i64 t] h K :=
  frame_pure (b_cmpSt x t) (br_cons (br_agg (br_cons br_int (br_cons br_int (br_cons br_int (br_cons br_int br_nil))))) (br_cons br_int br_nil)) (.inl rfl) (fun _ => rfl) H
abbrev i_cmpSt := Ctr.mk (i := 0) (g := 24) @c_cmpSt
attribute [instance] i_cmpSt
/-- how many end ahead of t -/
def bsS (xs : List Slo) (t : Int) : Nat := (xs.takeWhile fun x => decide (x.st < t)).length
def bsBS (xs : List Slo) (t : Int) : Bool := decide (bsS xs t < xs.length) && decide ((sAt xs (bsS xs t)).st = t)
theorem tw_at {p : Slo → Bool} : ∀ {l : List Slo} {i : Nat}, i ≤ l.length → (∀ k, k < i → p (sAt l k) = true) → (i < l.length → p (sAt l i) = false) → (l.takeWhile p).length = i
  | [], i, h, _, _ => by simp at h; subst h; rfl
  | x :: l, 0, _, _, h => by
    have : p x = false := h (by simp)
    rw [List.takeWhile_cons, this]; rfl
  | x :: l, i + 1, h, h1, h2 => by
    have : p x = true := h1 0 (by omega)
    rw [List.takeWhile_cons, this]
    show (_ :: _).length = _
    rw [List.length_cons, tw_at (i := i) (by simpa using h) (fun k hk => h1 (k + 1) (by omega)) (fun hi => h2 (by simpa using hi))]
theorem srtS_at {l : List Slo} (h : srtS l) {i j : Nat} (hij : i ≤ j) (hj : j < l.length) : (sAt l i).st ≤ (sAt l j).st := by
  rcases Nat.lt_or_eq_of_le hij with q | rfl
  · have := List.pairwise_iff_getElem.1 h i j (by omega) hj q
    rw [sAt_eq hj, sAt_eq (by omega)]
    exact this
  · exact Int.le_refl _
theorem bsS_at {xs : List Slo} {t : Int} {i : Nat} (hi : i ≤ xs.length) (h1 : ∀ k, k < i → (sAt xs k).st < t) (h2 : ∀ k, i ≤ k → k < xs.length → t ≤ (sAt xs k).st) : bsS xs t = i :=
  tw_at hi (fun k hk => decide_eq_true (h1 k hk)) (fun h => decide_eq_false (by have := h2 i (Nat.le_refl _) h; omega))
theorem bsS_le (xs : List Slo) (t : Int) : bsS xs t ≤ xs.length := (List.takeWhile_sublist _).length_le
theorem b_bsearch (xs : List Slo) (t : Int) (hl : xs.length ≤ 1099511627776) (hs : srtS xs) : DoesK Try.prog 0 23 [.ro .slo xs, .int .i64 t, .fn 24 []] [] (EndF 0 (.tup [.int .i64 (bsS xs t), .bool (bsBS xs t)]) []) := by
  refine DoesK.close ?_
  refine w_body (rs := [.tmp 6, .tmp 7]) (tm := [.ro .slo xs, .int .i64 t, .fn 24 [], .any, .any, .any, .any, .any, .any, .any, .any, .any, .any, .any, .any, .any, .any, .any, .any, .any, .any, .any, .any, .any, .any, .any, .any, .any, .any, .any, .any, .any, .any, .any, .any, .any, .any, .any, .any, .any, .any, .any, .any, .any, .any, .any, .any, .any, .any]) fn_23 rfl rfl rfl rfl fun R hR => ?_
  (all_goals (try ((first | (with_reducible refine wp_id ?_) | (with_reducible refine does_id ?_) | (with_reducible refine ops_id ?_)); refine walk ?_; (repeat' (first | exact trivial | with_reducible refine And.intro ?_ ?_)); all_goals (repeat (first | (with_reducible refine ImpB.mk fun hb => ?_) | (with_reducible refine ImpK.mk fun hK => ?_) | (with_reducible refine ImpF.mk fun hF => ?_) | (with_reducible refine ImpQ.mk fun hp => ?_) | (with_reducible refine AllE.mk fun p => ?_) | (with_reducible refine AllR.mk fun rest => ?_) | (with_reducible refine AllK.mk fun K => ?_))))); repeat' (with_reducible refine And.intro ?_ ?_))
  any_goals ((try (refine w_seq fun K hK => ?_)); (try (refine w_block ?_)); refine w_loop (A := Nat × Nat) (fun p => p.1 ≤ p.2 ∧ p.2 ≤ xs.length ∧ (∀ k, k < p.1 → (sAt xs k).st < t) ∧ ∀ k, p.2 ≤ k → k < xs.length → t ≤ (sAt xs k).st) (fun p => p.2 - p.1) (fun p => [(9, .int .i64 p.1), (10, .int .i64 p.2)]) (fun p => []) ((0, xs.length)) (ws := ?ws1) (tk := ?tk1) ?hw1 ?ht1 ?hi ?h0 ?LH1; (case hw1 => simp only [go_sem, decide_true, decide_false, Int.reduceToNat, Nat.min_eq_left, Nat.min_eq_right, Int.reducePow, Nat.reducePow, Int.reduceLE, Int.reduceLT, Int.reduceMul, Int.reduceAdd, Int.reduceSub, Int.reduceNeg, Bool.not_true, Bool.not_false, Bool.not_not, ↓reduceIte, Nat.reduceAdd, Nat.reduceSub, Nat.reduceMul, Nat.reduceEqDiff, reduceCtorEq, Nat.reduceLT, Nat.reduceLeDiff, Nat.reduceGT]; exact rfl); (case ht1 => simp only [go_sem, decide_true, decide_false, Int.reduceToNat, Nat.min_eq_left, Nat.min_eq_right, Int.reducePow, Nat.reducePow, Int.reduceLE, Int.reduceLT, Int.reduceMul, Int.reduceAdd, Int.reduceSub, Int.reduceNeg, Bool.not_true, Bool.not_false, Bool.not_not, ↓reduceIte, Nat.reduceAdd, Nat.reduceSub, Nat.reduceMul, Nat.reduceEqDiff, reduceCtorEq, Nat.reduceLT, Nat.reduceLeDiff, Nat.reduceGT]; exact rfl); (case' LH1 => rintro ⟨i, j⟩ E t hx hE ht; simp only [go_sem] at ht; subst ht; simp only [go_sem]; try dsimp only at hx))
  case hi => exact ⟨Nat.zero_le _, Nat.le_refl _, fun k hk => absurd hk (Nat.not_lt_zero k), fun k h1 h2 => by dsimp only at h1; omega⟩
  case h0 =>
    (focus (refine ⟨_, _, Gh.refl, [], rfl, ?_⟩; (refine ⟨?_, ?_, ?_⟩ <;> simp only [go_sem, List.range, List.range.loop, List.nodup_cons, List.nodup_nil, List.mem_cons, List.not_mem_nil, or_false, or_self, decide_true, decide_false, Int.reduceToNat, Nat.min_eq_left, Nat.min_eq_right, Int.reducePow, Nat.reducePow, Int.reduceLE, Int.reduceLT, Int.reduceMul, Int.reduceAdd, Int.reduceSub, Int.reduceNeg, Bool.not_true, Bool.not_false, Bool.not_not, ↓reduceIte, Nat.reduceAdd, Nat.reduceSub, Nat.reduceMul, Nat.reduceEqDiff, reduceCtorEq, Nat.reduceLT, Nat.reduceLeDiff, Nat.reduceGT]); (try any_goals (refine ⟨?_, ?_⟩)); (try any_goals (with_reducible rfl))))
    all_goals rfl
  case LH1 =>
    obtain ⟨h1, h2, h3, h4⟩ := hx
    have h1' : i ≤ j := h1
    have h2' : j ≤ xs.length := h2
    by_cases hij : i < j
    · have d1 : decide ((i : Int) < (j : Int)) = true := decide_eq_true (by omega)
      obtain ⟨m, hm⟩ : ∃ m : Nat, (i + j) / 2 = m := ⟨_, rfl⟩
      have w1 : IntKind.i64.wrap ((i : Int) + (j : Int)) = ((i + j : Nat) : Int) := by rw [wrap_i64 _ (by omega) (by omega)]; omega
      have w2 : IntKind.u64.wrap ((i + j : Nat) : Int) = ((i + j : Nat) : Int) := by rw [wrap_u64]; omega
      have w3 : Int.fdiv ((i + j : Nat) : Int) 2 = (m : Int) := by rw [Int.fdiv_eq_ediv_of_nonneg _ (by omega)]; omega
      have w4 : IntKind.i64.wrap (m : Int) = (m : Int) := wrap_i64 _ (by omega) (by omega)
      have w5 : IntKind.i64.wrap ((m : Int) + 1) = ((m + 1 : Nat) : Int) := by rw [wrap_i64 _ (by omega) (by omega)]; omega
      by_cases c2 : (sAt xs m).st < t
      · have d2 : decide (cmpI (sAt xs m).st t < 0) = true := by rw [cmpI_lt]; exact decide_eq_true c2
        (have zx1 := @d1; have zx2 := @w1; have zx3 := @w2; have zx4 := @w3; have zx5 := @w4; have zx6 := @w5; have zx7 := @d2; all_goals (try ((first | (with_reducible refine wp_id ?_) | (with_reducible refine does_id ?_) | (with_reducible refine ops_id ?_)); refine walk ?_; (repeat' (first | exact trivial | with_reducible refine And.intro ?_ ?_)); all_goals (repeat (first | (with_reducible refine ImpB.mk fun hb => ?_) | (with_reducible refine ImpK.mk fun hK => ?_) | (with_reducible refine ImpF.mk fun hF => ?_) | (with_reducible refine ImpQ.mk fun hp => ?_) | (with_reducible refine AllE.mk fun p => ?_) | (with_reducible refine AllR.mk fun rest => ?_) | (with_reducible refine AllK.mk fun K => ?_))))); repeat' (with_reducible refine And.intro ?_ ?_))
        (all_goals first | exact Int.natCast_nonneg _ | exact Int.ofNat_lt.2 (by assumption) | assumption | omega | exact Nat.le_refl _ | (exfalso; simp at hb; done) | (simp only [go_sem, decide_true, decide_false, Int.reduceToNat, Nat.min_eq_left, Nat.min_eq_right, Int.reducePow, Nat.reducePow, Int.reduceLE, Int.reduceLT, Int.reduceMul, Int.reduceAdd, Int.reduceSub, Int.reduceNeg, Bool.not_true, Bool.not_false, Bool.not_not, ↓reduceIte, Nat.reduceAdd, Nat.reduceSub, Nat.reduceMul, Nat.reduceEqDiff, reduceCtorEq, Nat.reduceLT, Nat.reduceLeDiff, Nat.reduceGT]; done) | (unfold capM; omega) | (simp only [List.length_drop, List.length_take, List.length_append, List.length_cons, List.length_nil]; omega) | skip)
        refine ⟨(m + 1, j), ⟨⟨by dsimp only; omega, h2', fun k hk => ?_, h4⟩, by dsimp only; omega⟩, ?_⟩
        · have hk' : k < m + 1 := hk
          have := srtS_at hs (i := k) (j := m) (by omega) (by omega)
          omega
        · (focus (refine ⟨_, _, Gh.refl, [], rfl, ?_⟩; (refine ⟨?_, ?_, ?_⟩ <;> simp only [go_sem, List.range, List.range.loop, List.nodup_cons, List.nodup_nil, List.mem_cons, List.not_mem_nil, or_false, or_self, decide_true, decide_false, Int.reduceToNat, Nat.min_eq_left, Nat.min_eq_right, Int.reducePow, Nat.reducePow, Int.reduceLE, Int.reduceLT, Int.reduceMul, Int.reduceAdd, Int.reduceSub, Int.reduceNeg, Bool.not_true, Bool.not_false, Bool.not_not, ↓reduceIte, Nat.reduceAdd, Nat.reduceSub, Nat.reduceMul, Nat.reduceEqDiff, reduceCtorEq, Nat.reduceLT, Nat.reduceLeDiff, Nat.reduceGT]); (try any_goals (refine ⟨?_, ?_⟩)); (try any_goals (with_reducible rfl))))
      · have d2 : decide (cmpI (sAt xs m).st t < 0) = false := by rw [cmpI_lt]; exact decide_eq_false c2
        (have zx1 := @d1; have zx2 := @w1; have zx3 := @w2; have zx4 := @w3; have zx5 := @w4; have zx6 := @w5; have zx7 := @d2; all_goals (try ((first | (with_reducible refine wp_id ?_) | (with_reducible refine does_id ?_) | (with_reducible refine ops_id ?_)); refine walk ?_; (repeat' (first | exact trivial | with_reducible refine And.intro ?_ ?_)); all_goals (repeat (first | (with_reducible refine ImpB.mk fun hb => ?_) | (with_reducible refine ImpK.mk fun hK => ?_) | (with_reducible refine ImpF.mk fun hF => ?_) | (with_reducible refine ImpQ.mk fun hp => ?_) | (with_reducible refine AllE.mk fun p => ?_) | (with_reducible refine AllR.mk fun rest => ?_) | (with_reducible refine AllK.mk fun K => ?_))))); repeat' (with_reducible refine And.intro ?_ ?_))
        (all_goals first | exact Int.natCast_nonneg _ | exact Int.ofNat_lt.2 (by assumption) | assumption | omega | exact Nat.le_refl _ | (exfalso; simp at hb; done) | (simp only [go_sem, decide_true, decide_false, Int.reduceToNat, Nat.min_eq_left, Nat.min_eq_right, Int.reducePow, Nat.reducePow, Int.reduceLE, Int.reduceLT, Int.reduceMul, Int.reduceAdd, Int.reduceSub, Int.reduceNeg, Bool.not_true, Bool.not_false, Bool.not_not, ↓reduceIte, Nat.reduceAdd, Nat.reduceSub, Nat.reduceMul, Nat.reduceEqDiff, reduceCtorEq, Nat.reduceLT, Nat.reduceLeDiff, Nat.reduceGT]; done) | (unfold capM; omega) | (simp only [List.length_drop, List.length_take, List.length_append, List.length_cons, List.length_nil]; omega) | skip)
        refine ⟨(i, m), ⟨⟨by dsimp only; omega, by dsimp only; omega, h3, fun k hk1 hk2 => ?_⟩, by dsimp only; omega⟩, ?_⟩
        · have hk' : m ≤ k := hk1
          have := srtS_at hs (i := m) (j := k) hk' hk2
          omega
        · (focus (refine ⟨_, _, Gh.refl, [], rfl, ?_⟩; (refine ⟨?_, ?_, ?_⟩ <;> simp only [go_sem, List.range, List.range.loop, List.nodup_cons, List.nodup_nil, List.mem_cons, List.not_mem_nil, or_false, or_self, decide_true, decide_false, Int.reduceToNat, Nat.min_eq_left, Nat.min_eq_right, Int.reducePow, Nat.reducePow, Int.reduceLE, Int.reduceLT, Int.reduceMul, Int.reduceAdd, Int.reduceSub, Int.reduceNeg, Bool.not_true, Bool.not_false, Bool.not_not, ↓reduceIte, Nat.reduceAdd, Nat.reduceSub, Nat.reduceMul, Nat.reduceEqDiff, reduceCtorEq, Nat.reduceLT, Nat.reduceLeDiff, Nat.reduceGT]); (try any_goals (refine ⟨?_, ?_⟩)); (try any_goals (with_reducible rfl))))
    · have d1 : decide ((i : Int) < (j : Int)) = false := decide_eq_false (by omega)
      obtain rfl : i = j := by omega
      have hb1 := bsS_at h2' h3 h4
      by_cases c3 : i < xs.length
      · have d3 : decide ((i : Int) < (xs.length : Int)) = true := decide_eq_true (by omega)
        have hb2 : bsBS xs t = decide (cmpI (sAt xs i).st t = 0) := by unfold bsBS; rw [hb1, decide_eq_true c3, cmpI_eq]; rfl
        (have zx1 := @d1; have zx2 := @d3; all_goals (try ((first | (with_reducible refine wp_id ?_) | (with_reducible refine does_id ?_) | (with_reducible refine ops_id ?_)); refine walk ?_; (repeat' (first | exact trivial | with_reducible refine And.intro ?_ ?_)); all_goals (repeat (first | (with_reducible refine ImpB.mk fun hb => ?_) | (with_reducible refine ImpK.mk fun hK => ?_) | (with_reducible refine ImpF.mk fun hF => ?_) | (with_reducible refine ImpQ.mk fun hp => ?_) | (with_reducible refine AllE.mk fun p => ?_) | (with_reducible refine AllR.mk fun rest => ?_) | (with_reducible refine AllK.mk fun K => ?_))))); repeat' (with_reducible refine And.intro ?_ ?_))
        (all_goals first | exact Int.natCast_nonneg _ | exact Int.ofNat_lt.2 (by assumption) | assumption | omega | exact Nat.le_refl _ | (exfalso; simp at hb; done) | (simp only [go_sem, decide_true, decide_false, Int.reduceToNat, Nat.min_eq_left, Nat.min_eq_right, Int.reducePow, Nat.reducePow, Int.reduceLE, Int.reduceLT, Int.reduceMul, Int.reduceAdd, Int.reduceSub, Int.reduceNeg, Bool.not_true, Bool.not_false, Bool.not_not, ↓reduceIte, Nat.reduceAdd, Nat.reduceSub, Nat.reduceMul, Nat.reduceEqDiff, reduceCtorEq, Nat.reduceLT, Nat.reduceLeDiff, Nat.reduceGT]; done) | (unfold capM; omega) | (simp only [List.length_drop, List.length_take, List.length_append, List.length_cons, List.length_nil]; omega) | skip)
        (focus (refine ⟨_, _, Gh.refl, [], rfl, ?_⟩; (refine ⟨?_, ?_, ?_⟩ <;> simp only [go_sem, List.range, List.range.loop, List.nodup_cons, List.nodup_nil, List.mem_cons, List.not_mem_nil, or_false, or_self, decide_true, decide_false, Int.reduceToNat, Nat.min_eq_left, Nat.min_eq_right, Int.reducePow, Nat.reducePow, Int.reduceLE, Int.reduceLT, Int.reduceMul, Int.reduceAdd, Int.reduceSub, Int.reduceNeg, Bool.not_true, Bool.not_false, Bool.not_not, ↓reduceIte, Nat.reduceAdd, Nat.reduceSub, Nat.reduceMul, Nat.reduceEqDiff, reduceCtorEq, Nat.reduceLT, Nat.reduceLeDiff, Nat.reduceGT]); (try any_goals (refine ⟨?_, ?_⟩)); (try any_goals (with_reducible rfl))))
        all_goals first | exact hb2 | (rw [hb1]; done) | (rw [hb1]; rfl) | trace_state
      · have d3 : decide ((i : Int) < (xs.length : Int)) = false := decide_eq_false (by omega)
        have hb2 : bsBS xs t = false := by unfold bsBS; rw [hb1, decide_eq_false c3]; rfl
        (have zx1 := @d1; have zx2 := @d3; all_goals (try ((first | (with_reducible refine wp_id ?_) | (with_reducible refine does_id ?_) | (with_reducible refine ops_id ?_)); refine walk ?_; (repeat' (first | exact trivial | with_reducible refine And.intro ?_ ?_)); all_goals (repeat (first | (with_reducible refine ImpB.mk fun hb => ?_) | (with_reducible refine ImpK.mk fun hK => ?_) | (with_reducible refine ImpF.mk fun hF => ?_) | (with_reducible refine ImpQ.mk fun hp => ?_) | (with_reducible refine AllE.mk fun p => ?_) | (with_reducible refine AllR.mk fun rest => ?_) | (with_reducible refine AllK.mk fun K => ?_))))); repeat' (with_reducible refine And.intro ?_ ?_))
        (all_goals first | exact Int.natCast_nonneg _ | exact Int.ofNat_lt.2 (by assumption) | assumption | omega | exact Nat.le_refl _ | (exfalso; simp at hb; done) | (simp only [go_sem, decide_true, decide_false, Int.reduceToNat, Nat.min_eq_left, Nat.min_eq_right, Int.reducePow, Nat.reducePow, Int.reduceLE, Int.reduceLT, Int.reduceMul, Int.reduceAdd, Int.reduceSub, Int.reduceNeg, Bool.not_true, Bool.not_false, Bool.not_not, ↓reduceIte, Nat.reduceAdd, Nat.reduceSub, Nat.reduceMul, Nat.reduceEqDiff, reduceCtorEq, Nat.reduceLT, Nat.reduceLeDiff, Nat.reduceGT]; done) | (unfold capM; omega) | (simp only [List.length_drop, List.length_take, List.length_append, List.length_cons, List.length_nil]; omega) | skip)
        (focus (refine ⟨_, _, Gh.refl, [], rfl, ?_⟩; (refine ⟨?_, ?_, ?_⟩ <;> simp only [go_sem, List.range, List.range.loop, List.nodup_cons, List.nodup_nil, List.mem_cons, List.not_mem_nil, or_false, or_self, decide_true, decide_false, Int.reduceToNat, Nat.min_eq_left, Nat.min_eq_right, Int.reducePow, Nat.reducePow, Int.reduceLE, Int.reduceLT, Int.reduceMul, Int.reduceAdd, Int.reduceSub, Int.reduceNeg, Bool.not_true, Bool.not_false, Bool.not_not, ↓reduceIte, Nat.reduceAdd, Nat.reduceSub, Nat.reduceMul, Nat.reduceEqDiff, reduceCtorEq, Nat.reduceLT, Nat.reduceLeDiff, Nat.reduceGT]); (try any_goals (refine ⟨?_, ?_⟩)); (try any_goals (with_reducible rfl))))
        all_goals first | exact hb2 | (rw [hb1]; done) | (rw [hb1]; rfl) | trace_state
theorem c_bsearch {h : List Ch} {K : KT} {xs : List Slo} {t : Int} {a : AV} (H : K (.tup [.int .i64 (bsS xs t), .bool (bsBS xs t)]) h) (b1 : brA [] h (.ro .slo xs) a) (s1 : xs.length ≤ 1099511627776) (s2 : srtS xs) : Does Try.prog 23 [a, .int .i64 t, .fn 24 []] h K := -- nocall
  frame_pure (b_bsearch xs t s1 s2) (br_cons b1 (br_cons br_int (br_cons br_fn br_nil))) (.inr rfl) (fun _ => rfl) H
theorem c_bsearch_s {h : List Ch} {K : KT} {d : List Slo} {t : Int} {u n : Nat} (H : K (.tup [.int .i64 (bsS (d.take n) t), .bool (bsBS (d.take n) t)]) h) (o : hth h u = .rows .slo d) (s1 : n ≤ d.length) (s2 : d.length ≤ 1099511627776) (s3 : srtS d) : Does Try.prog 23 [.sl u .slo 0 n, .int .i64 t, .fn 24 []] h K := by
  have hb := br_sl (σ := []) (h := h) (e := .slo) (ys := d) (t := u) (s := 0) (n := n) o (by omega) (by simp)
  rw [List.drop_zero] at hb
  exact c_bsearch H hb (by rw [List.length_take]; omega) (s3.sublist (List.take_sublist _ _))
abbrev i_bsearch_s := Ctr.mk (i := 0) (g := 23) @c_bsearch_s
attribute [instance] i_bsearch_s
end Go.V

set_option maxRecDepth 100000
set_option maxHeartbeats 8000000
namespace Go.V
open Go.Proofs
/-- the first contact with a place -/
def fsI (w : List Win) (j : Job) (d : Int) (m : List Slo) : Nat := w.findIdx fun c => plB c j d m
def asB (w : List Win) (j : Job) (d : Int) (m : List Slo) : Bool := decide (fsI w j d m < w.length)
def asS (w : List Win) (j : Job) (d : Int) (m : List Slo) : Slo := if asB w j d m then ⟨0, fsI w j d m, plI (w.getD (fsI w j d m) Win.zero) j d m, plI (w.getD (fsI w j d m) Win.zero) j d m + d⟩ else Slo.zero
theorem getEq {α : Type} {l : List α} {k : Nat} {z : α} (h : k < l.length) : l.getD k z = l[k] := by rw [List.getD_eq_getElem?_getD, List.getElem?_eq_getElem h]; rfl
theorem fs_at {w : List Win} {j : Job} {d : Int} {m : List Slo} {k : Nat} (hk : k < w.length) (h : ∀ i, i < k → plB (w.getD i Win.zero) j d m = false) (h1 : plB (w.getD k Win.zero) j d m = true) : fsI w j d m = k := by
  unfold fsI
  rw [List.findIdx_eq hk]
  refine ⟨by rw [← getEq hk]; exact h1, fun i hi => ?_⟩
  rw [← getEq (z := Win.zero)]; exact h i hi
theorem fs_no {w : List Win} {j : Job} {d : Int} {m : List Slo} (h : ∀ i, i < w.length → plB (w.getD i Win.zero) j d m = false) : asB w j d m = false := by
  refine decide_eq_false fun q => ?_
  have t : plB w[fsI w j d m] j d m = true := List.findIdx_getElem (w := q)
  rw [← getEq (z := Win.zero) q, h _ q] at t
  cases t
def goodW (w : List Win) : Prop := ∀ c ∈ w, vldW c = true
theorem b_assign1 (w : List Win) (j : Job) (d : Int) (m : List Slo) (hw : goodW w) (hj : vldJ j = true) (hm : bdS m) (hd : 1 ≤ d ∧ d ≤ 2147483648) (hl : m.length ≤ 1099511627776) (hwl : w.length ≤ 1099511627776) : DoesK Try.prog 0 21 [.ro .win w, .agg (JobL j), .int .i64 d, .ro .slo m] [] (EndF 0 (.tup [.agg (SloL (asS w j d m)), .bool (asB w j d m)]) []) := by
  refine DoesK.close ?_
  refine w_body (rs := [.cell 8 37, .tmp 9]) (tm := [.ro .win w, .agg (JobL j), .int .i64 d, .ro .slo m, .any, .any, .any, .any, .any, .any, .any, .any, .any, .any, .any, .any, .any, .any, .any, .any, .any, .any, .any, .any, .any, .any, .any, .any, .any, .any, .any, .any, .any, .any, .any, .any, .any, .any]) fn_21 rfl rfl rfl rfl fun R hR => ?_
  (all_goals (try ((first | (with_reducible refine wp_id ?_) | (with_reducible refine does_id ?_) | (with_reducible refine ops_id ?_)); refine walk ?_; (repeat' (first | exact trivial | with_reducible refine And.intro ?_ ?_)); all_goals (repeat (first | (with_reducible refine ImpB.mk fun hb => ?_) | (with_reducible refine ImpK.mk fun hK => ?_) | (with_reducible refine ImpF.mk fun hF => ?_) | (with_reducible refine ImpQ.mk fun hp => ?_) | (with_reducible refine AllE.mk fun p => ?_) | (with_reducible refine AllR.mk fun rest => ?_) | (with_reducible refine AllK.mk fun K => ?_))))); repeat' (with_reducible refine And.intro ?_ ?_))
  any_goals ((try (refine w_seq fun K hK => ?_)); (try (refine w_block ?_)); refine w_loop (A := Nat) (fun k => k ≤ w.length ∧ ∀ i, i < k → plB (w.getD i Win.zero) j d m = false) (fun k => w.length - k) (fun k => [(16, .int .i64 k)]) (fun _ => []) (0) (ws := ?ws1) (tk := ?tk1) ?hw1 ?ht1 ?hi ?h0 ?LH1; (case hw1 => simp only [go_sem, decide_true, decide_false, Int.reduceToNat, Nat.min_eq_left, Nat.min_eq_right, Int.reducePow, Nat.reducePow, Int.reduceLE, Int.reduceLT, Int.reduceMul, Int.reduceAdd, Int.reduceSub, Int.reduceNeg, Bool.not_true, Bool.not_false, Bool.not_not, ↓reduceIte, Nat.reduceAdd, Nat.reduceSub, Nat.reduceMul, Nat.reduceEqDiff, reduceCtorEq, Nat.reduceLT, Nat.reduceLeDiff, Nat.reduceGT]; exact rfl); (case ht1 => simp only [go_sem, decide_true, decide_false, Int.reduceToNat, Nat.min_eq_left, Nat.min_eq_right, Int.reducePow, Nat.reducePow, Int.reduceLE, Int.reduceLT, Int.reduceMul, Int.reduceAdd, Int.reduceSub, Int.reduceNeg, Bool.not_true, Bool.not_false, Bool.not_not, ↓reduceIte, Nat.reduceAdd, Nat.reduceSub, Nat.reduceMul, Nat.reduceEqDiff, reduceCtorEq, Nat.reduceLT, Nat.reduceLeDiff, Nat.reduceGT]; exact rfl); (case' LH1 => rintro k E t hx hE ht; simp only [go_sem] at ht; subst ht; simp only [go_sem]; try dsimp only at hx))
  case hi => exact ⟨Nat.zero_le _, fun i hi => absurd hi (by omega)⟩
  case h0 => (focus (refine ⟨_, _, Gh.refl, [0, 1], rfl, ?_⟩; (refine ⟨?_, ?_, ?_⟩ <;> simp only [go_sem, List.range, List.range.loop, List.nodup_cons, List.nodup_nil, List.mem_cons, List.not_mem_nil, or_false, or_self, decide_true, decide_false, Int.reduceToNat, Nat.min_eq_left, Nat.min_eq_right, Int.reducePow, Nat.reducePow, Int.reduceLE, Int.reduceLT, Int.reduceMul, Int.reduceAdd, Int.reduceSub, Int.reduceNeg, Bool.not_true, Bool.not_false, Bool.not_not, ↓reduceIte, Nat.reduceAdd, Nat.reduceSub, Nat.reduceMul, Nat.reduceEqDiff, reduceCtorEq, Nat.reduceLT, Nat.reduceLeDiff, Nat.reduceGT]); (try any_goals (refine ⟨?_, ?_⟩)); (try any_goals (with_reducible rfl))))
  case LH1 =>
    obtain ⟨hk0, hc⟩ := hx
    have hw1 : IntKind.i64.wrap ((k : Int) + 1) = ((k + 1 : Nat) : Int) := by rw [wrap_i64 _ (by omega) (by omega)]; omega
    by_cases hk : k < w.length
    · have hkd : decide ((k : Int) < (w.length : Int)) = true := decide_eq_true (by omega)
      obtain ⟨c, hce⟩ : ∃ c, w.getD k Win.zero = c := ⟨_, rfl⟩
      have hcv : vldW c = true := by rw [← hce]; exact hw _ (getM hk)
      have hp := pl_bd (d := d) hcv hj hm
      have hw2 : IntKind.i64.wrap (plI c j d m + d) = plI c j d m + d := wrap_i64 _ (by omega) (by omega)
      cases hb1 : plB c j d m
      · (have zx1 := @hkd; have zx2 := @hw1; have zx3 := @hce; have zx4 := @hb1; all_goals (try ((first | (with_reducible refine wp_id ?_) | (with_reducible refine does_id ?_) | (with_reducible refine ops_id ?_)); refine walk ?_; (repeat' (first | exact trivial | with_reducible refine And.intro ?_ ?_)); all_goals (repeat (first | (with_reducible refine ImpB.mk fun hb => ?_) | (with_reducible refine ImpK.mk fun hK => ?_) | (with_reducible refine ImpF.mk fun hF => ?_) | (with_reducible refine ImpQ.mk fun hp => ?_) | (with_reducible refine AllE.mk fun p => ?_) | (with_reducible refine AllR.mk fun rest => ?_) | (with_reducible refine AllK.mk fun K => ?_))))); repeat' (with_reducible refine And.intro ?_ ?_))
        all_goals first | assumption | omega | skip
        refine ⟨k + 1, ⟨⟨by first | omega | (dsimp only; omega), fun i hi => ?_⟩, by first | omega | (dsimp only; omega)⟩, ?_⟩
        · by_cases e : i = k
          · rw [e, hce]; exact hb1
          · exact hc i (by omega)
        (focus (refine ⟨_, _, Gh.refl, [0, 1], rfl, ?_⟩; (refine ⟨?_, ?_, ?_⟩ <;> simp only [go_sem, List.range, List.range.loop, List.nodup_cons, List.nodup_nil, List.mem_cons, List.not_mem_nil, or_false, or_self, decide_true, decide_false, Int.reduceToNat, Nat.min_eq_left, Nat.min_eq_right, Int.reducePow, Nat.reducePow, Int.reduceLE, Int.reduceLT, Int.reduceMul, Int.reduceAdd, Int.reduceSub, Int.reduceNeg, Bool.not_true, Bool.not_false, Bool.not_not, ↓reduceIte, Nat.reduceAdd, Nat.reduceSub, Nat.reduceMul, Nat.reduceEqDiff, reduceCtorEq, Nat.reduceLT, Nat.reduceLeDiff, Nat.reduceGT]); (try any_goals (refine ⟨?_, ?_⟩)); (try any_goals (with_reducible rfl))))
      · (have zx1 := @hkd; have zx2 := @hw1; have zx3 := @hce; have zx4 := @hb1; have zx5 := @hw2; all_goals (try ((first | (with_reducible refine wp_id ?_) | (with_reducible refine does_id ?_) | (with_reducible refine ops_id ?_)); refine walk ?_; (repeat' (first | exact trivial | with_reducible refine And.intro ?_ ?_)); all_goals (repeat (first | (with_reducible refine ImpB.mk fun hb => ?_) | (with_reducible refine ImpK.mk fun hK => ?_) | (with_reducible refine ImpF.mk fun hF => ?_) | (with_reducible refine ImpQ.mk fun hp => ?_) | (with_reducible refine AllE.mk fun p => ?_) | (with_reducible refine AllR.mk fun rest => ?_) | (with_reducible refine AllK.mk fun K => ?_))))); repeat' (with_reducible refine And.intro ?_ ?_))
        all_goals first | assumption | omega | skip
        have hf := fs_at hk hc (by rw [hce]; exact hb1)
        have hB : asB w j d m = true := decide_eq_true (by rw [hf]; exact hk)
        have hS : asS w j d m = ⟨0, k, plI c j d m, plI c j d m + d⟩ := by unfold asS; rw [if_pos hB, hf, hce]
        rw [hB, hS]
        (focus (refine ⟨_, _, Gh.refl, [], rfl, ?_⟩; (refine ⟨?_, ?_, ?_⟩ <;> simp only [go_sem, List.range, List.range.loop, List.nodup_cons, List.nodup_nil, List.mem_cons, List.not_mem_nil, or_false, or_self, decide_true, decide_false, Int.reduceToNat, Nat.min_eq_left, Nat.min_eq_right, Int.reducePow, Nat.reducePow, Int.reduceLE, Int.reduceLT, Int.reduceMul, Int.reduceAdd, Int.reduceSub, Int.reduceNeg, Bool.not_true, Bool.not_false, Bool.not_not, ↓reduceIte, Nat.reduceAdd, Nat.reduceSub, Nat.reduceMul, Nat.reduceEqDiff, reduceCtorEq, Nat.reduceLT, Nat.reduceLeDiff, Nat.reduceGT]); (try any_goals (refine ⟨?_, ?_⟩)); (try any_goals (with_reducible rfl))))
    · have hkd : decide ((k : Int) < (w.length : Int)) = false := decide_eq_false (by omega)
      have hn := fs_no fun i hi => hc i (by omega)
      (have zx1 := @hkd; all_goals (try ((first | (with_reducible refine wp_id ?_) | (with_reducible refine does_id ?_) | (with_reducible refine ops_id ?_)); refine walk ?_; (repeat' (first | exact trivial | with_reducible refine And.intro ?_ ?_)); all_goals (repeat (first | (with_reducible refine ImpB.mk fun hb => ?_) | (with_reducible refine ImpK.mk fun hK => ?_) | (with_reducible refine ImpF.mk fun hF => ?_) | (with_reducible refine ImpQ.mk fun hp => ?_) | (with_reducible refine AllE.mk fun p => ?_) | (with_reducible refine AllR.mk fun rest => ?_) | (with_reducible refine AllK.mk fun K => ?_))))); repeat' (with_reducible refine And.intro ?_ ?_))
      have ha : asS w j d m = Slo.zero := by unfold asS; rw [hn]; rfl
      rw [ha, hn]
      (focus (refine ⟨_, _, Gh.refl, [], rfl, ?_⟩; (refine ⟨?_, ?_, ?_⟩ <;> simp only [go_sem, List.range, List.range.loop, List.nodup_cons, List.nodup_nil, List.mem_cons, List.not_mem_nil, or_false, or_self, decide_true, decide_false, Int.reduceToNat, Nat.min_eq_left, Nat.min_eq_right, Int.reducePow, Nat.reducePow, Int.reduceLE, Int.reduceLT, Int.reduceMul, Int.reduceAdd, Int.reduceSub, Int.reduceNeg, Bool.not_true, Bool.not_false, Bool.not_not, ↓reduceIte, Nat.reduceAdd, Nat.reduceSub, Nat.reduceMul, Nat.reduceEqDiff, reduceCtorEq, Nat.reduceLT, Nat.reduceLeDiff, Nat.reduceGT]); (try any_goals (refine ⟨?_, ?_⟩)); (try any_goals (with_reducible rfl))))
      all_goals (repeat' (first | rfl | (refine And.intro ?_ ?_)))
theorem c_assign1 {h : List Ch} {K : KT} {w : List Win} {j : Job} {d : Int} {m : List Slo} {x : AV} (H : K (.tup [.agg (SloL (asS w j d m)), .bool (asB w j d m)]) h) (b1 : brA [] h (.ro .slo m) x) (s1 : goodW w) (s2 : vldJ j = true) (s3 : bdS m) (s4 : 1 ≤ d ∧ d ≤ 2147483648) (s5 : m.length ≤ 1099511627776) (s6 : w.length ≤ 1099511627776) : Does Try.prog 21 [.ro .win w, .agg [.int .i64 j.id, .int .i64 j.size, .int .i64 j.ear, .int .i64 j.dl, .int .i64 j.pri], .int .i64 d, x] h K :=
  frame_pure (b_assign1 w j d m s1 s2 s3 s4 s5 s6) (br_cons br_ro (br_cons (br_Job j) (br_cons br_int (br_cons b1 br_nil)))) (.inr rfl) (fun _ => rfl) H
abbrev i_assign1 := Ctr.mk (i := 0) (g := 21) @c_assign1
attribute [instance] i_assign1
end Go.V
