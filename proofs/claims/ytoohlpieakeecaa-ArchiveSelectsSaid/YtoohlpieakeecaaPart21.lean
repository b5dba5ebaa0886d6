/-
  Jobs: the merge of two sorted parts.
-/
import Derived.Test.YtoohlpieakeecaaPart20
set_option linter.unusedVariables false
set_option linter.unusedSimpArgs false
set_option maxRecDepth 100000
set_option maxHeartbeats 8000000
namespace Go.V
open Go.Proofs
theorem b_symL (xs : List Itm) (a m b : Nat) (hi : ∀ x ∈ xs, okT x) (ham : a + 1 = m) (hmb : m < b) (hb : b ≤ xs.length) (hl : xs.length ≤ 1099511627776) (hs : ∀ u v, m ≤ u → u < v → v < b → tmI (xs.getD u Itm.zero) ≤ tmI (xs.getD v Itm.zero)) : DoesK Try.prog 1 68 [.sl 0 .itm 0 xs.length, .int .i64 a, .int .i64 m, .int .i64 (b), .fn 47 []] [.rows .itm xs]
    (EndF 1 (.tup []) ([.rows .itm (srtR tmI a b xs)] ++ [])) := by
  refine DoesK.close ?_
  have x1 : IntKind.i64.wrap ((m : Int) - (a : Int)) = 1 := by rw [wrap_i64 _ (by omega) (by omega)]; omega
  refine w_body (rs := []) (tm := [.sl 0 .itm 0 xs.length, .int .i64 a, .int .i64 m, .int .i64 (b), .fn 47 [], .any, .any, .any, .any, .any, .any, .any, .any, .any, .any, .any, .any, .any, .any, .any, .any, .any, .any, .any, .any, .any, .any, .any, .any, .any, .any, .any, .any, .any, .any, .any, .any, .any, .any, .any, .any, .any, .any, .any, .any, .any, .any, .any, .any, .any, .any, .any, .any, .any, .any, .any, .any, .any, .any, .any, .any, .any, .any, .any, .any, .any, .any, .any, .any, .any, .any, .any, .any, .any, .any, .any, .any, .any, .any, .any, .any, .any, .any, .any, .any, .any, .any, .any, .any, .any, .any, .any, .any, .any, .any, .any, .any, .any, .any, .any, .any, .any, .any, .any, .any, .any, .any, .any, .any, .any, .any, .any, .any, .any, .any, .any, .any, .any, .any, .any, .any, .any, .any, .any, .any, .any, .any, .any, .any, .any, .any, .any, .any, .any, .any, .any, .any, .any, .any, .any, .any, .any, .any, .any, .any, .any, .any, .any, .any, .any, .any, .any, .any, .any, .any, .any, .any, .any, .any, .any, .any, .any, .any, .any, .any, .any, .any, .any, .any, .any, .any, .any, .any, .any, .any, .any, .any, .any, .any, .any, .any, .any, .any, .any, .any, .any, .any, .any, .any, .any, .any, .any, .any, .any, .any, .any, .any, .any, .any, .any, .any, .any, .any, .any, .any, .any, .any, .any, .any, .any, .any, .any, .any, .any, .any, .any, .any, .any, .any, .any]) fn_68 rfl rfl rfl rfl fun R hR => ?_
  (have zx1 := @x1; all_goals (try ((first | (with_reducible refine wp_id ?_) | (with_reducible refine does_id ?_) | (with_reducible refine ops_id ?_)); refine walk ?_; (repeat' (first | exact trivial | with_reducible refine And.intro ?_ ?_)); all_goals (repeat (first | (with_reducible refine ImpB.mk fun hb => ?_) | (with_reducible refine ImpK.mk fun hK => ?_) | (with_reducible refine ImpF.mk fun hF => ?_) | (with_reducible refine ImpQ.mk fun hp => ?_) | (with_reducible refine AllE.mk fun p => ?_) | (with_reducible refine AllR.mk fun rest => ?_) | (with_reducible refine AllK.mk fun K => ?_))))); repeat' (with_reducible refine And.intro ?_ ?_))
  any_goals ((try (refine w_seq fun K hK => ?_)); (try (refine w_block ?_)); refine w_loop (A := Nat × Nat) (fun p => m ≤ p.1 ∧ p.1 ≤ p.2 ∧ p.2 ≤ b ∧ (∀ u, m ≤ u → u < p.1 → tmI (xs.getD u Itm.zero) < tmI (xs.getD a Itm.zero)) ∧ (∀ u, p.2 ≤ u → u < b → tmI (xs.getD a Itm.zero) ≤ tmI (xs.getD u Itm.zero))) (fun p => p.2 - p.1) (fun p => [(10, .int .i64 p.1), (11, .int .i64 p.2)]) (fun _ => []) ((m, b)) (ws := ?ws1) (tk := ?tk1) ?hw1 ?ht1 ?hi ?h0 ?LH1; (case hw1 => simp only [go_sem, decide_true, decide_false, Int.reduceToNat, Nat.min_eq_left, Nat.min_eq_right, Int.reducePow, Nat.reducePow, Int.reduceLE, Int.reduceLT, Int.reduceMul, Int.reduceAdd, Int.reduceSub, Int.reduceNeg, Bool.not_true, Bool.not_false, Bool.not_not, ↓reduceIte, Nat.reduceAdd, Nat.reduceSub, Nat.reduceMul, Nat.reduceEqDiff, reduceCtorEq, Nat.reduceLT, Nat.reduceLeDiff, Nat.reduceGT]; exact rfl); (case ht1 => simp only [go_sem, decide_true, decide_false, Int.reduceToNat, Nat.min_eq_left, Nat.min_eq_right, Int.reducePow, Nat.reducePow, Int.reduceLE, Int.reduceLT, Int.reduceMul, Int.reduceAdd, Int.reduceSub, Int.reduceNeg, Bool.not_true, Bool.not_false, Bool.not_not, ↓reduceIte, Nat.reduceAdd, Nat.reduceSub, Nat.reduceMul, Nat.reduceEqDiff, reduceCtorEq, Nat.reduceLT, Nat.reduceLeDiff, Nat.reduceGT]; exact rfl); (case' LH1 => rintro ⟨i, j⟩ E t hx hE ht; simp only [go_sem] at ht; subst ht; simp only [go_sem]; try dsimp only at hx))
  case hi => exact ⟨Nat.le_refl _, by omega, Nat.le_refl _, fun u h1 h2 => by dsimp only at h2; omega, fun u h1 h2 => by dsimp only at h1; omega⟩
  case h0 => (focus (refine ⟨_, _, Gh.refl, [0], rfl, ?_⟩; (refine fitq ?_ ?_ ?_ <;> try exact trivial); (try any_goals (refine ⟨?_, ?_⟩)); (try any_goals (with_reducible rfl))))
  case LH1 =>
    obtain ⟨h1, h2, h3, h4, h5⟩ := hx
    (try dsimp only at h1 h2 h3 h4 h5)
    by_cases hij : i < j
    · have d1 : decide ((i : Int) < (j : Int)) = true := decide_eq_true (by omega)
      obtain ⟨h, hc⟩ : ∃ h : Nat, (i + j) / 2 = h := ⟨_, rfl⟩
      have w1 : IntKind.i64.wrap ((i : Int) + (j : Int)) = ((i + j : Nat) : Int) := by rw [wrap_i64 _ (by omega) (by omega)]; omega
      have w2 : IntKind.u64.wrap ((i + j : Nat) : Int) = ((i + j : Nat) : Int) := by rw [wrap_u64]; omega
      have w3 : Int.fdiv ((i + j : Nat) : Int) 2 = (h : Int) := by rw [Int.fdiv_eq_ediv_of_nonneg _ (by omega)]; omega
      have w4 : IntKind.i64.wrap (h : Int) = (h : Int) := wrap_i64 _ (by omega) (by omega)
      have w5 : IntKind.i64.wrap ((h : Int) + 1) = ((h + 1 : Nat) : Int) := by rw [wrap_i64 _ (by omega) (by omega)]; omega
      have i1 := hi _ (getMI (zs := xs) (k := a) (by omega))
      have i2 := hi _ (getMI (zs := xs) (k := h) (by omega))
      by_cases q : tmI (xs.getD h Itm.zero) < tmI (xs.getD a Itm.zero)
      · have d2 : decide (((xs.getD h Itm.zero).time - (xs.getD a Itm.zero).time) < 0) = true := by rw [tm_lt]; exact decide_eq_true q
        (have zx1 := @d1; have zx2 := @w1; have zx3 := @w2; have zx4 := @w3; have zx5 := @w4; have zx6 := @w5; have zx7 := @d2; all_goals (try ((first | (with_reducible refine wp_id ?_) | (with_reducible refine does_id ?_) | (with_reducible refine ops_id ?_)); refine walk ?_; (repeat' (first | exact trivial | with_reducible refine And.intro ?_ ?_)); all_goals (repeat (first | (with_reducible refine ImpB.mk fun hb => ?_) | (with_reducible refine ImpK.mk fun hK => ?_) | (with_reducible refine ImpF.mk fun hF => ?_) | (with_reducible refine ImpQ.mk fun hp => ?_) | (with_reducible refine AllE.mk fun p => ?_) | (with_reducible refine AllR.mk fun rest => ?_) | (with_reducible refine AllK.mk fun K => ?_))))); repeat' (with_reducible refine And.intro ?_ ?_))
        all_goals first | exact i1 | exact i2 | exact Int.natCast_nonneg _ | omega | skip
        refine ⟨(h + 1, j), ⟨⟨by dsimp only; omega, by dsimp only; omega, h3, fun u e1 e2 => ?_, h5⟩, by dsimp only; omega⟩, ?_⟩
        · dsimp only at e2
          by_cases e : u = h
          · rw [e]; exact q
          · have := hs u h (by omega) (by omega) (by omega); omega
        (focus (refine ⟨_, _, Gh.refl, [0], rfl, ?_⟩; (refine fitq ?_ ?_ ?_ <;> try exact trivial); (try any_goals (refine ⟨?_, ?_⟩)); (try any_goals (with_reducible rfl))))
      · have d2 : decide (((xs.getD h Itm.zero).time - (xs.getD a Itm.zero).time) < 0) = false := by rw [tm_lt]; exact decide_eq_false q
        (have zx1 := @d1; have zx2 := @w1; have zx3 := @w2; have zx4 := @w3; have zx5 := @w4; have zx6 := @w5; have zx7 := @d2; all_goals (try ((first | (with_reducible refine wp_id ?_) | (with_reducible refine does_id ?_) | (with_reducible refine ops_id ?_)); refine walk ?_; (repeat' (first | exact trivial | with_reducible refine And.intro ?_ ?_)); all_goals (repeat (first | (with_reducible refine ImpB.mk fun hb => ?_) | (with_reducible refine ImpK.mk fun hK => ?_) | (with_reducible refine ImpF.mk fun hF => ?_) | (with_reducible refine ImpQ.mk fun hp => ?_) | (with_reducible refine AllE.mk fun p => ?_) | (with_reducible refine AllR.mk fun rest => ?_) | (with_reducible refine AllK.mk fun K => ?_))))); repeat' (with_reducible refine And.intro ?_ ?_))
        all_goals first | exact i1 | exact i2 | exact Int.natCast_nonneg _ | omega | skip
        refine ⟨(i, h), ⟨⟨h1, by dsimp only; omega, by dsimp only; omega, h4, fun u e1 e2 => ?_⟩, by dsimp only; omega⟩, ?_⟩
        · dsimp only at e1
          by_cases e : u = h
          · rw [e]; omega
          · have := hs h u (by omega) (by omega) (by omega); omega
        (focus (refine ⟨_, _, Gh.refl, [0], rfl, ?_⟩; (refine fitq ?_ ?_ ?_ <;> try exact trivial); (try any_goals (refine ⟨?_, ?_⟩)); (try any_goals (with_reducible rfl))))
    · have d1 : decide ((i : Int) < (j : Int)) = false := decide_eq_false (by omega)
      obtain rfl : i = j := by omega
      (have zx1 := @d1; all_goals (try ((first | (with_reducible refine wp_id ?_) | (with_reducible refine does_id ?_) | (with_reducible refine ops_id ?_)); refine walk ?_; (repeat' (first | exact trivial | with_reducible refine And.intro ?_ ?_)); all_goals (repeat (first | (with_reducible refine ImpB.mk fun hb => ?_) | (with_reducible refine ImpK.mk fun hK => ?_) | (with_reducible refine ImpF.mk fun hF => ?_) | (with_reducible refine ImpQ.mk fun hp => ?_) | (with_reducible refine AllE.mk fun p => ?_) | (with_reducible refine AllR.mk fun rest => ?_) | (with_reducible refine AllK.mk fun K => ?_))))); repeat' (with_reducible refine And.intro ?_ ?_))
      any_goals ((try (refine w_seq fun K hK => ?_)); (try (refine w_block ?_)); refine w_loop (A := Nat × List Itm) (fun p => a ≤ p.1 ∧ p.1 + 1 ≤ i ∧ mid tmI xs a b p.2 ∧ p.2.getD p.1 Itm.zero = xs.getD a Itm.zero ∧ (∀ u, p.1 < u → p.2.getD u Itm.zero = xs.getD u Itm.zero) ∧ (∀ u v, a ≤ u → u < v → v < b → u ≠ p.1 → tmI (p.2.getD u Itm.zero) ≤ tmI (p.2.getD v Itm.zero))) (fun p => i - p.1) (fun p => [(10, .int .i64 i), (13, .int .i64 p.1)]) (fun p => [(0, .rows .itm p.2)]) ((a, xs)) (ws := ?ws2) (tk := ?tk2) ?hw2 ?ht2 ?hi_1 ?h0_1 ?LH2; (case hw2 => simp only [go_sem, decide_true, decide_false, Int.reduceToNat, Nat.min_eq_left, Nat.min_eq_right, Int.reducePow, Nat.reducePow, Int.reduceLE, Int.reduceLT, Int.reduceMul, Int.reduceAdd, Int.reduceSub, Int.reduceNeg, Bool.not_true, Bool.not_false, Bool.not_not, ↓reduceIte, Nat.reduceAdd, Nat.reduceSub, Nat.reduceMul, Nat.reduceEqDiff, reduceCtorEq, Nat.reduceLT, Nat.reduceLeDiff, Nat.reduceGT]; exact rfl); (case ht2 => simp only [go_sem, decide_true, decide_false, Int.reduceToNat, Nat.min_eq_left, Nat.min_eq_right, Int.reducePow, Nat.reducePow, Int.reduceLE, Int.reduceLT, Int.reduceMul, Int.reduceAdd, Int.reduceSub, Int.reduceNeg, Bool.not_true, Bool.not_false, Bool.not_not, ↓reduceIte, Nat.reduceAdd, Nat.reduceSub, Nat.reduceMul, Nat.reduceEqDiff, reduceCtorEq, Nat.reduceLT, Nat.reduceLeDiff, Nat.reduceGT]; exact rfl); (case' LH2 => rintro ⟨k, zs⟩ E t hx hE ht; simp only [go_sem] at ht; subst ht; simp only [go_sem]; try dsimp only at hx))
      case hi_1 => exact ⟨Nat.le_refl _, by dsimp only; omega, ⟨rfl, KE.refl, rfl, rfl⟩, rfl, fun u _ => rfl, fun u v e1 e2 e3 e4 => hs u v (by dsimp only at e4; omega) e2 e3⟩
      case h0_1 => (focus (refine ⟨_, _, Gh.refl, [0], rfl, ?_⟩; (refine fitq ?_ ?_ ?_ <;> try exact trivial); (try any_goals (refine ⟨?_, ?_⟩)); (try any_goals (with_reducible rfl))))
      case LH2 =>
        obtain ⟨g1, g2, g3, g4, g5, g6⟩ := hx
        have g3' := g3
        obtain ⟨p1, p2, p3, p4⟩ := g3'
        (try dsimp only at g1 g2 p1 p2 p3 p4 g4 g5 g6)
        have w6 : IntKind.i64.wrap ((i : Int) - 1) = ((i - 1 : Nat) : Int) := by rw [wrap_i64 _ (by omega) (by omega)]; omega
        have w7 : IntKind.i64.wrap ((k : Int) + 1) = ((k + 1 : Nat) : Int) := by rw [wrap_i64 _ (by omega) (by omega)]; omega
        by_cases hk : k + 1 < i
        · have d2 : decide ((k : Int) < ((i - 1 : Nat) : Int)) = true := decide_eq_true (by omega)
          have hkl : k + 1 < zs.length := by omega
          have c : tmI (zs.getD (k + 1) Itm.zero) < tmI (zs.getD k Itm.zero) := by
            rw [g4, g5 (k + 1) (by omega)]
            exact h4 (k + 1) (by omega) (by omega)
          (have zx1 := @d2; have zx2 := @w6; have zx3 := @w7; have zx4 := @p1; all_goals (try ((first | (with_reducible refine wp_id ?_) | (with_reducible refine does_id ?_) | (with_reducible refine ops_id ?_)); refine walk ?_; (repeat' (first | exact trivial | with_reducible refine And.intro ?_ ?_)); all_goals (repeat (first | (with_reducible refine ImpB.mk fun hb => ?_) | (with_reducible refine ImpK.mk fun hK => ?_) | (with_reducible refine ImpF.mk fun hF => ?_) | (with_reducible refine ImpQ.mk fun hp => ?_) | (with_reducible refine AllE.mk fun p => ?_) | (with_reducible refine AllR.mk fun rest => ?_) | (with_reducible refine AllK.mk fun K => ?_))))); repeat' (with_reducible refine And.intro ?_ ?_))
          all_goals first | exact Int.natCast_nonneg _ | omega | skip
          refine ⟨(k + 1, swA k zs), ⟨⟨by (try dsimp only); omega, by (try dsimp only); omega, g3.sw (by omega) (by omega) (by omega) c, ?_, fun u hu => ?_, fun u v e1 e2 e3 e4 => ?_⟩, by (try dsimp only); omega⟩, ?_⟩
          · dsimp only
            rw [swA_get hkl, if_neg (by omega), if_pos rfl]; exact g4
          · dsimp only at hu ⊢
            rw [swA_get hkl, if_neg (by omega), if_neg (by omega)]
            exact g5 u (by omega)
          · dsimp only at e4 ⊢
            rw [swA_get hkl, swA_get hkl]
            have s2 := g6 u v e1 e2 e3
            by_cases u1 : u = k
            · subst u1
              rw [if_pos rfl, if_neg (by omega)]
              by_cases v1 : v = u + 1
              · rw [if_pos v1]; omega
              · rw [if_neg v1]; have := g6 (u + 1) v (by omega) (by omega) e3 (by omega); omega
            · rw [if_neg u1, if_neg e4]
              by_cases v0 : v = k
              · rw [if_pos v0]; exact g6 u (k + 1) e1 (by omega) (by omega) u1
              · rw [if_neg v0]
                by_cases v1 : v = k + 1
                · rw [if_pos v1]; exact g6 u k e1 (by omega) (by omega) u1
                · rw [if_neg v1]; exact s2 u1
          (focus (refine ⟨_, _, Gh.refl, [0], rfl, ?_⟩; (refine fitq ?_ ?_ ?_ <;> try exact trivial); (try any_goals (refine ⟨?_, ?_⟩)); (try any_goals (with_reducible rfl))))
          all_goals exact (List.set_comm _ _ (by omega))
        · have d2 : decide ((k : Int) < ((i - 1 : Nat) : Int)) = false := decide_eq_false (by omega)
          obtain rfl : i = k + 1 := by omega
          (have zx1 := @d2; have zx2 := @w6; all_goals (try ((first | (with_reducible refine wp_id ?_) | (with_reducible refine does_id ?_) | (with_reducible refine ops_id ?_)); refine walk ?_; (repeat' (first | exact trivial | with_reducible refine And.intro ?_ ?_)); all_goals (repeat (first | (with_reducible refine ImpB.mk fun hb => ?_) | (with_reducible refine ImpK.mk fun hK => ?_) | (with_reducible refine ImpF.mk fun hF => ?_) | (with_reducible refine ImpQ.mk fun hp => ?_) | (with_reducible refine AllE.mk fun p => ?_) | (with_reducible refine AllR.mk fun rest => ?_) | (with_reducible refine AllK.mk fun K => ?_))))); repeat' (with_reducible refine And.intro ?_ ?_))
          rw [← srtR_uniq (by omega) p1 p2 p3 p4 fun u v e1 e2 e3 e4 => ?_]
          · (focus (refine ⟨_, _, Gh.refl, [0], rfl, ?_⟩; (refine fitq ?_ ?_ ?_ <;> try exact trivial); (try any_goals (refine ⟨?_, ?_⟩)); (try any_goals (with_reducible rfl))))
          · by_cases v1 : u = k
            · subst v1
              rw [g4, g5 v e2]
              exact h5 v (by omega) e3
            · exact g6 u v e1 e2 e3 v1
theorem symC (D : Nat) (hB : ∀ xs a m b, b - a < D → (∀ x ∈ xs, okT x) → a < m → m < b → b ≤ xs.length → xs.length ≤ 1099511627776 → Srt tmI ((xs.take m).drop a) → Srt tmI ((xs.take b).drop m) → DoesK Try.prog 1 68 [.sl 0 .itm 0 xs.length, .int .i64 a, .int .i64 m, .int .i64 (b), .fn 47 []] [.rows .itm xs] (EndF 1 (.tup []) ([.rows .itm (srtR tmI a b xs)] ++ []))) : ∀ {h : List Ch} {K : KT} {xs : List Itm} {x y z : Int} {n t : Nat} (_ : K (.tup []) (h.set t (.rows .itm (srtR tmI x.toNat z.toNat xs)))) (_ : hth h t = .rows .itm xs) (_ : ∀ x ∈ xs, okT x) (_ : 0 ≤ x ∧ x < y ∧ y < z ∧ z ≤ n ∧ z - x < D) (_ : n = xs.length) (_ : xs.length ≤ 1099511627776) (_ : Srt tmI ((xs.take y.toNat).drop x.toNat)) (_ : Srt tmI ((xs.take z.toNat).drop y.toNat)), Does Try.prog 68 [.sl t .itm 0 n, .int .i64 x, .int .i64 y, .int .i64 z, .fn 47 []] h K := by
  intro h K xs x y z n t H o s1 s2 s3 s4 s5 s6
  have hx : x = (x.toNat : Int) := by omega
  have hy : y = (y.toNat : Int) := by omega
  have hz : z = (z.toNat : Int) := by omega
  have hb := hB xs x.toNat y.toNat z.toNat (by omega) s1 (by omega) (by omega) (by omega) s4 s5 s6
  rw [hx, hy, hz, s3]
  exact frame_obj0 (ret' := .tup []) hb o (by simp) (fitC_rows _ _) (br_cons (br_own rfl) (br_cons br_int (br_cons br_int (br_cons br_int (br_cons (br_fn) br_nil))))) (.inl rfl) (fun _ => rfl) rfl H
theorem b_symA (xs : List Itm) (a m b c n s0 P D : Nat) (hi : ∀ x ∈ xs, okT x) (ham : a + 1 < m) (hmb : m + 1 < b) (hb : b ≤ xs.length) (hl : xs.length ≤ 1099511627776) (hs1 : Srt tmI ((xs.take m).drop a)) (hs2 : Srt tmI ((xs.take b).drop m)) (hc : (a + b) / 2 = c) (hn : c + m = n) (hP : P + 1 = n) (hcm : c < m) (hs0 : s0 + b = n) (hD : b - a ≤ D)
    (C : ∀ {h : List Ch} {K : KT} {xs : List Itm} {x y z : Int} {n t : Nat} (_ : K (.tup []) (h.set t (.rows .itm (srtR tmI x.toNat z.toNat xs)))) (_ : hth h t = .rows .itm xs) (_ : ∀ x ∈ xs, okT x) (_ : 0 ≤ x ∧ x < y ∧ y < z ∧ z ≤ n ∧ z - x < D) (_ : n = xs.length) (_ : xs.length ≤ 1099511627776) (_ : Srt tmI ((xs.take y.toNat).drop x.toNat)) (_ : Srt tmI ((xs.take z.toNat).drop y.toNat)), Does Try.prog 68 [.sl t .itm 0 n, .int .i64 x, .int .i64 y, .int .i64 z, .fn 47 []] h K) : DoesK Try.prog 1 68 [.sl 0 .itm 0 xs.length, .int .i64 a, .int .i64 m, .int .i64 (b), .fn 47 []] [.rows .itm xs] (EndF 1 (.tup []) ([.rows .itm (srtR tmI a b xs)] ++ [])) := by
  refine DoesK.close ?_
  have inst := Ctr.mk (i := 0) (g := 68) @C
  obtain ⟨Z, hZ⟩ : ∃ Z, srtR tmI a b xs = Z := ⟨_, rfl⟩
  rw [hZ]
  have hc2 : 2 * c ≤ a + b ∧ a + b ≤ 2 * c + 1 := by omega
  have x1 : IntKind.i64.wrap ((m : Int) - (a : Int)) = ((m - a : Nat) : Int) := by rw [wrap_i64 _ (by omega) (by omega)]; omega
  have x2 : decide (((m - a : Nat) : Int) = 1) = false := decide_eq_false (by omega)
  have x3 : IntKind.i64.wrap ((b : Int) - (m : Int)) = ((b - m : Nat) : Int) := by rw [wrap_i64 _ (by omega) (by omega)]; omega
  have x4 : decide (((b - m : Nat) : Int) = 1) = false := decide_eq_false (by omega)
  have y1 : IntKind.i64.wrap ((a : Int) + (b : Int)) = ((a + b : Nat) : Int) := by rw [wrap_i64 _ (by omega) (by omega)]; omega
  have y2 : IntKind.u64.wrap ((a + b : Nat) : Int) = ((a + b : Nat) : Int) := by rw [wrap_u64]; omega
  have y3 : Int.fdiv ((a + b : Nat) : Int) 2 = (c : Int) := by rw [Int.fdiv_eq_ediv_of_nonneg _ (by omega)]; omega
  have y4 : IntKind.i64.wrap (c : Int) = (c : Int) := wrap_i64 _ (by omega) (by omega)
  have y5 : IntKind.i64.wrap ((c : Int) + (m : Int)) = (n : Int) := by rw [wrap_i64 _ (by omega) (by omega)]; omega
  have y6 : IntKind.i64.wrap ((n : Int) - 1) = (P : Int) := by rw [wrap_i64 _ (by omega) (by omega)]; omega
  have y7 : decide ((c : Int) < (m : Int)) = true := decide_eq_true (by omega)
  have y8 : IntKind.i64.wrap ((n : Int) - (b : Int)) = (s0 : Int) := by rw [wrap_i64 _ (by omega) (by omega)]; omega
  refine w_body (rs := []) (tm := [.sl 0 .itm 0 xs.length, .int .i64 a, .int .i64 m, .int .i64 (b), .fn 47 [], .any, .any, .any, .any, .any, .any, .any, .any, .any, .any, .any, .any, .any, .any, .any, .any, .any, .any, .any, .any, .any, .any, .any, .any, .any, .any, .any, .any, .any, .any, .any, .any, .any, .any, .any, .any, .any, .any, .any, .any, .any, .any, .any, .any, .any, .any, .any, .any, .any, .any, .any, .any, .any, .any, .any, .any, .any, .any, .any, .any, .any, .any, .any, .any, .any, .any, .any, .any, .any, .any, .any, .any, .any, .any, .any, .any, .any, .any, .any, .any, .any, .any, .any, .any, .any, .any, .any, .any, .any, .any, .any, .any, .any, .any, .any, .any, .any, .any, .any, .any, .any, .any, .any, .any, .any, .any, .any, .any, .any, .any, .any, .any, .any, .any, .any, .any, .any, .any, .any, .any, .any, .any, .any, .any, .any, .any, .any, .any, .any, .any, .any, .any, .any, .any, .any, .any, .any, .any, .any, .any, .any, .any, .any, .any, .any, .any, .any, .any, .any, .any, .any, .any, .any, .any, .any, .any, .any, .any, .any, .any, .any, .any, .any, .any, .any, .any, .any, .any, .any, .any, .any, .any, .any, .any, .any, .any, .any, .any, .any, .any, .any, .any, .any, .any, .any, .any, .any, .any, .any, .any, .any, .any, .any, .any, .any, .any, .any, .any, .any, .any, .any, .any, .any, .any, .any, .any, .any, .any, .any, .any, .any, .any, .any, .any, .any]) fn_68 rfl rfl rfl rfl fun R hR => ?_
  (have zx1 := @x1; have zx2 := @x2; have zx3 := @x3; have zx4 := @x4; have zx5 := @y1; have zx6 := @y2; have zx7 := @y3; have zx8 := @y4; have zx9 := @y5; have zx10 := @y6; have zx11 := @y7; have zx12 := @y8; all_goals (try ((first | (with_reducible refine wp_id ?_) | (with_reducible refine does_id ?_) | (with_reducible refine ops_id ?_)); refine walk ?_; (repeat' (first | exact trivial | with_reducible refine And.intro ?_ ?_)); all_goals (repeat (first | (with_reducible refine ImpB.mk fun hb => ?_) | (with_reducible refine ImpK.mk fun hK => ?_) | (with_reducible refine ImpF.mk fun hF => ?_) | (with_reducible refine ImpQ.mk fun hp => ?_) | (with_reducible refine AllE.mk fun p => ?_) | (with_reducible refine AllR.mk fun rest => ?_) | (with_reducible refine AllK.mk fun K => ?_))))); repeat' (with_reducible refine And.intro ?_ ?_))
  any_goals ((try (refine w_seq fun K hK => ?_)); (try (refine w_block ?_)); refine w_loop (A := Nat × Nat) (fun p => s0 ≤ p.1 ∧ p.1 ≤ p.2 ∧ p.2 ≤ c ∧ (∀ u, s0 ≤ u → u < p.1 → tmI (xs.getD u Itm.zero) ≤ tmI (xs.getD (P - u) Itm.zero)) ∧ (∀ u, p.2 ≤ u → u < c → tmI (xs.getD (P - u) Itm.zero) < tmI (xs.getD u Itm.zero))) (fun p => p.2 - p.1) (fun p => [(18, .int .i64 c), (19, .int .i64 n), (20, .int .i64 p.1), (21, .int .i64 p.2), (22, .int .i64 P)]) (fun _ => []) ((s0, c)) (ws := ?ws3) (tk := ?tk3) ?hw3 ?ht3 ?hi ?h0 ?LH3; (case hw3 => simp only [go_sem, decide_true, decide_false, Int.reduceToNat, Nat.min_eq_left, Nat.min_eq_right, Int.reducePow, Nat.reducePow, Int.reduceLE, Int.reduceLT, Int.reduceMul, Int.reduceAdd, Int.reduceSub, Int.reduceNeg, Bool.not_true, Bool.not_false, Bool.not_not, ↓reduceIte, Nat.reduceAdd, Nat.reduceSub, Nat.reduceMul, Nat.reduceEqDiff, reduceCtorEq, Nat.reduceLT, Nat.reduceLeDiff, Nat.reduceGT]; exact rfl); (case ht3 => simp only [go_sem, decide_true, decide_false, Int.reduceToNat, Nat.min_eq_left, Nat.min_eq_right, Int.reducePow, Nat.reducePow, Int.reduceLE, Int.reduceLT, Int.reduceMul, Int.reduceAdd, Int.reduceSub, Int.reduceNeg, Bool.not_true, Bool.not_false, Bool.not_not, ↓reduceIte, Nat.reduceAdd, Nat.reduceSub, Nat.reduceMul, Nat.reduceEqDiff, reduceCtorEq, Nat.reduceLT, Nat.reduceLeDiff, Nat.reduceGT]; exact rfl); (case' LH3 => rintro ⟨i, j⟩ E t hx hE ht; simp only [go_sem] at ht; subst ht; simp only [go_sem]; try dsimp only at hx))
  case hi => exact ⟨Nat.le_refl _, by dsimp only; omega, Nat.le_refl _, fun u h1 h2 => by dsimp only at h2; omega, fun u h1 h2 => by dsimp only at h1; omega⟩
  case h0 => (focus (refine ⟨_, _, Gh.refl, [0], rfl, ?_⟩; (refine fitq ?_ ?_ ?_ <;> try exact trivial); (try any_goals (refine ⟨?_, ?_⟩)); (try any_goals (with_reducible rfl)))); (all_goals first | exact rfl | exact y8 | omega | skip)
  case LH3 =>
    obtain ⟨h1, h2, h3, h4, h5⟩ := hx
    (try dsimp only at h1 h2 h3 h4 h5)
    by_cases hij : i < j
    · have d1 : decide ((i : Int) < (j : Int)) = true := decide_eq_true (by omega)
      obtain ⟨h, hc⟩ : ∃ h : Nat, (i + j) / 2 = h := ⟨_, rfl⟩
      have w1 : IntKind.i64.wrap ((i : Int) + (j : Int)) = ((i + j : Nat) : Int) := by rw [wrap_i64 _ (by omega) (by omega)]; omega
      have w2 : IntKind.u64.wrap ((i + j : Nat) : Int) = ((i + j : Nat) : Int) := by rw [wrap_u64]; omega
      have w3 : Int.fdiv ((i + j : Nat) : Int) 2 = (h : Int) := by rw [Int.fdiv_eq_ediv_of_nonneg _ (by omega)]; omega
      have w4 : IntKind.i64.wrap (h : Int) = (h : Int) := wrap_i64 _ (by omega) (by omega)
      have w5 : IntKind.i64.wrap ((h : Int) + 1) = ((h + 1 : Nat) : Int) := by rw [wrap_i64 _ (by omega) (by omega)]; omega
      have w6 : IntKind.i64.wrap ((P : Int) - (h : Int)) = ((P - h : Nat) : Int) := by rw [wrap_i64 _ (by omega) (by omega)]; omega
      have i1 := hi _ (getMI (zs := xs) (k := P - h) (by omega))
      have i2 := hi _ (getMI (zs := xs) (k := h) (by omega))
      by_cases q : tmI (xs.getD (P - h) Itm.zero) < tmI (xs.getD h Itm.zero)
      · have d2 : decide (((xs.getD (P - h) Itm.zero).time - (xs.getD h Itm.zero).time) < 0) = true := by rw [tm_lt]; exact decide_eq_true q
        (have zx1 := @d1; have zx2 := @w1; have zx3 := @w2; have zx4 := @w3; have zx5 := @w4; have zx6 := @w5; have zx7 := @w6; have zx8 := @d2; all_goals (try ((first | (with_reducible refine wp_id ?_) | (with_reducible refine does_id ?_) | (with_reducible refine ops_id ?_)); refine walk ?_; (repeat' (first | exact trivial | with_reducible refine And.intro ?_ ?_)); all_goals (repeat (first | (with_reducible refine ImpB.mk fun hb => ?_) | (with_reducible refine ImpK.mk fun hK => ?_) | (with_reducible refine ImpF.mk fun hF => ?_) | (with_reducible refine ImpQ.mk fun hp => ?_) | (with_reducible refine AllE.mk fun p => ?_) | (with_reducible refine AllR.mk fun rest => ?_) | (with_reducible refine AllK.mk fun K => ?_))))); repeat' (with_reducible refine And.intro ?_ ?_))
        all_goals first | exact i1 | exact i2 | exact Int.natCast_nonneg _ | omega | skip
        refine ⟨(i, h), ⟨⟨h1, by dsimp only; omega, by dsimp only; omega, h4, fun u e1 e2 => ?_⟩, by dsimp only; omega⟩, ?_⟩
        · dsimp only at e1
          have g1 := Srt_ix' hs1 (by omega) (u := h) (v := u) (by omega) e1 (by omega)
          have g2 := Srt_ix' hs2 hb (u := P - u) (v := P - h) (by omega) (by omega) (by omega)
          omega
        (focus (refine ⟨_, _, Gh.refl, [0], rfl, ?_⟩; (refine fitq ?_ ?_ ?_ <;> try exact trivial); (try any_goals (refine ⟨?_, ?_⟩)); (try any_goals (with_reducible rfl))))
      · have d2 : decide (((xs.getD (P - h) Itm.zero).time - (xs.getD h Itm.zero).time) < 0) = false := by rw [tm_lt]; exact decide_eq_false q
        (have zx1 := @d1; have zx2 := @w1; have zx3 := @w2; have zx4 := @w3; have zx5 := @w4; have zx6 := @w5; have zx7 := @w6; have zx8 := @d2; all_goals (try ((first | (with_reducible refine wp_id ?_) | (with_reducible refine does_id ?_) | (with_reducible refine ops_id ?_)); refine walk ?_; (repeat' (first | exact trivial | with_reducible refine And.intro ?_ ?_)); all_goals (repeat (first | (with_reducible refine ImpB.mk fun hb => ?_) | (with_reducible refine ImpK.mk fun hK => ?_) | (with_reducible refine ImpF.mk fun hF => ?_) | (with_reducible refine ImpQ.mk fun hp => ?_) | (with_reducible refine AllE.mk fun p => ?_) | (with_reducible refine AllR.mk fun rest => ?_) | (with_reducible refine AllK.mk fun K => ?_))))); repeat' (with_reducible refine And.intro ?_ ?_))
        all_goals first | exact i1 | exact i2 | exact Int.natCast_nonneg _ | omega | skip
        refine ⟨(h + 1, j), ⟨⟨by dsimp only; omega, by dsimp only; omega, h3, fun u e1 e2 => ?_, h5⟩, by dsimp only; omega⟩, ?_⟩
        · dsimp only at e2
          have g1 := Srt_ix' hs1 (by omega) (u := u) (v := h) (by omega) (by omega) (by omega)
          have g2 := Srt_ix' hs2 hb (u := P - h) (v := P - u) (by omega) (by omega) (by omega)
          omega
        (focus (refine ⟨_, _, Gh.refl, [0], rfl, ?_⟩; (refine fitq ?_ ?_ ?_ <;> try exact trivial); (try any_goals (refine ⟨?_, ?_⟩)); (try any_goals (with_reducible rfl))))
    · have d1 : decide ((i : Int) < (j : Int)) = false := decide_eq_false (by omega)
      obtain rfl : i = j := by omega
      obtain ⟨e, he⟩ : ∃ e, n - i = e := ⟨_, rfl⟩
      have w1 : IntKind.i64.wrap ((n : Int) - (i : Int)) = (e : Int) := by rw [wrap_i64 _ (by omega) (by omega)]; omega
      obtain ⟨ys, r1, r2, r3, r4, r5, r6, r7, ws, v1, v2, v3, v4, v5, v6, v7⟩ := sym_pack (f := tmI) (xs := xs) (a := a) (m := m) (b := b) (c := c) (s := i) (e := e) (by omega) (by omega) (by omega) (by omega) hb (by omega) hs1 hs2
        (fun q1 q2 => by have := h5 i (Nat.le_refl _) (by omega); rw [show e - 1 = P - i by omega]; exact this)
        (fun q1 q2 => by have := h4 (i - 1) (by omega) (by omega); rw [show e = P - (i - 1) by omega]; exact this)
      have hys : rotR i m e xs = ys := r1
      have hws : srtR tmI a c ys = ws := v1
      have hzs : srtR tmI c b ws = Z := v7.trans hZ
      have iy := KE.all r4 hi
      have iw := KE.all v3 hi
      have r5' : Srt tmI ((ys.take (i : Int).toNat).drop (a : Int).toNat) := r5
      have r6' : Srt tmI ((ys.take (c : Int).toNat).drop (i : Int).toNat) := r6
      have v4' : Srt tmI ((ws.take (e : Int).toNat).drop (c : Int).toNat) := v4
      have v5' : Srt tmI ((ws.take (b : Int).toNat).drop (e : Int).toNat) := v5
      by_cases q : i < c
      · have ds : decide ((i : Int) < (m : Int)) = true := decide_eq_true (by omega)
        have dm : decide ((m : Int) < (e : Int)) = true := decide_eq_true (by omega)
        have dc : decide ((i : Int) < (c : Int)) = true := decide_eq_true (by omega)
        have dce : decide ((c : Int) < (e : Int)) = true := decide_eq_true (by omega)
        by_cases qa : a < i
        · have da : decide ((a : Int) < (i : Int)) = true := decide_eq_true (by omega)
          by_cases qe : e < b
          · have de : decide ((e : Int) < (b : Int)) = true := decide_eq_true (by omega)
            (have zx1 := @d1; have zx2 := @w1; have zx3 := @ds; have zx4 := @dm; have zx5 := @dc; have zx6 := @dce; have zx7 := @da; have zx8 := @de; have zx9 := @hys; have zx10 := @hws; have zx11 := @hzs; have zx12 := @r3; have zx13 := @v2; all_goals (try ((first | (with_reducible refine wp_id ?_) | (with_reducible refine does_id ?_) | (with_reducible refine ops_id ?_)); refine walk ?_; (repeat' (first | exact trivial | with_reducible refine And.intro ?_ ?_)); all_goals (repeat (first | (with_reducible refine ImpB.mk fun hb => ?_) | (with_reducible refine ImpK.mk fun hK => ?_) | (with_reducible refine ImpF.mk fun hF => ?_) | (with_reducible refine ImpQ.mk fun hp => ?_) | (with_reducible refine AllE.mk fun p => ?_) | (with_reducible refine AllR.mk fun rest => ?_) | (with_reducible refine AllK.mk fun K => ?_))))); repeat' (with_reducible refine And.intro ?_ ?_))
            all_goals first | exact hi | exact iy | exact iw | exact r5' | exact r6' | exact v4' | exact v5' | exact Int.natCast_nonneg _ | omega | skip
            all_goals (focus (refine ⟨_, _, Gh.refl, [0], rfl, ?_⟩; (refine fitq ?_ ?_ ?_ <;> try exact trivial); (try any_goals (refine ⟨?_, ?_⟩)); (try any_goals (with_reducible rfl))))
            all_goals first | exact rfl | exact hzs.symm | exact hws.symm | exact hys.symm | skip
          · have de : decide ((e : Int) < (b : Int)) = false := decide_eq_false (by omega)
            have hZw : Z = ws := (v7.trans hZ).symm.trans (v6 (by omega))
            subst hZw
            (have zx1 := @d1; have zx2 := @w1; have zx3 := @ds; have zx4 := @dm; have zx5 := @dc; have zx6 := @dce; have zx7 := @da; have zx8 := @de; have zx9 := @hys; have zx10 := @hws; have zx11 := @r3; have zx12 := @v2; all_goals (try ((first | (with_reducible refine wp_id ?_) | (with_reducible refine does_id ?_) | (with_reducible refine ops_id ?_)); refine walk ?_; (repeat' (first | exact trivial | with_reducible refine And.intro ?_ ?_)); all_goals (repeat (first | (with_reducible refine ImpB.mk fun hb => ?_) | (with_reducible refine ImpK.mk fun hK => ?_) | (with_reducible refine ImpF.mk fun hF => ?_) | (with_reducible refine ImpQ.mk fun hp => ?_) | (with_reducible refine AllE.mk fun p => ?_) | (with_reducible refine AllR.mk fun rest => ?_) | (with_reducible refine AllK.mk fun K => ?_))))); repeat' (with_reducible refine And.intro ?_ ?_))
            all_goals first | exact hi | exact iy | exact iw | exact r5' | exact r6' | exact v4' | exact v5' | exact Int.natCast_nonneg _ | omega | skip
            all_goals (focus (refine ⟨_, _, Gh.refl, [0], rfl, ?_⟩; (refine fitq ?_ ?_ ?_ <;> try exact trivial); (try any_goals (refine ⟨?_, ?_⟩)); (try any_goals (with_reducible rfl))))
            all_goals first | exact rfl | exact hzs.symm | exact hws.symm | exact hys.symm | skip
        · have da : decide ((a : Int) < (i : Int)) = false := decide_eq_false (by omega)
          by_cases qe : e < b
          · have de : decide ((e : Int) < (b : Int)) = true := decide_eq_true (by omega)
            obtain rfl : ws = ys := v1.symm.trans (r7 (by omega))
            (have zx1 := @d1; have zx2 := @w1; have zx3 := @ds; have zx4 := @dm; have zx5 := @dc; have zx6 := @dce; have zx7 := @da; have zx8 := @de; have zx9 := @hys; have zx10 := @hzs; have zx11 := @r3; have zx12 := @v2; all_goals (try ((first | (with_reducible refine wp_id ?_) | (with_reducible refine does_id ?_) | (with_reducible refine ops_id ?_)); refine walk ?_; (repeat' (first | exact trivial | with_reducible refine And.intro ?_ ?_)); all_goals (repeat (first | (with_reducible refine ImpB.mk fun hb => ?_) | (with_reducible refine ImpK.mk fun hK => ?_) | (with_reducible refine ImpF.mk fun hF => ?_) | (with_reducible refine ImpQ.mk fun hp => ?_) | (with_reducible refine AllE.mk fun p => ?_) | (with_reducible refine AllR.mk fun rest => ?_) | (with_reducible refine AllK.mk fun K => ?_))))); repeat' (with_reducible refine And.intro ?_ ?_))
            all_goals first | exact hi | exact iy | exact iw | exact r5' | exact r6' | exact v4' | exact v5' | exact Int.natCast_nonneg _ | omega | skip
            all_goals (focus (refine ⟨_, _, Gh.refl, [0], rfl, ?_⟩; (refine fitq ?_ ?_ ?_ <;> try exact trivial); (try any_goals (refine ⟨?_, ?_⟩)); (try any_goals (with_reducible rfl))))
            all_goals first | exact rfl | exact hzs.symm | exact hws.symm | exact hys.symm | skip
          · have de : decide ((e : Int) < (b : Int)) = false := decide_eq_false (by omega)
            obtain rfl : ws = ys := v1.symm.trans (r7 (by omega))
            have hZw : Z = ws := (v7.trans hZ).symm.trans (v6 (by omega))
            subst hZw
            (have zx1 := @d1; have zx2 := @w1; have zx3 := @ds; have zx4 := @dm; have zx5 := @dc; have zx6 := @dce; have zx7 := @da; have zx8 := @de; have zx9 := @hys; have zx10 := @r3; have zx11 := @v2; all_goals (try ((first | (with_reducible refine wp_id ?_) | (with_reducible refine does_id ?_) | (with_reducible refine ops_id ?_)); refine walk ?_; (repeat' (first | exact trivial | with_reducible refine And.intro ?_ ?_)); all_goals (repeat (first | (with_reducible refine ImpB.mk fun hb => ?_) | (with_reducible refine ImpK.mk fun hK => ?_) | (with_reducible refine ImpF.mk fun hF => ?_) | (with_reducible refine ImpQ.mk fun hp => ?_) | (with_reducible refine AllE.mk fun p => ?_) | (with_reducible refine AllR.mk fun rest => ?_) | (with_reducible refine AllK.mk fun K => ?_))))); repeat' (with_reducible refine And.intro ?_ ?_))
            all_goals first | exact hi | exact iy | exact iw | exact r5' | exact r6' | exact v4' | exact v5' | exact Int.natCast_nonneg _ | omega | skip
            all_goals (focus (refine ⟨_, _, Gh.refl, [0], rfl, ?_⟩; (refine fitq ?_ ?_ ?_ <;> try exact trivial); (try any_goals (refine ⟨?_, ?_⟩)); (try any_goals (with_reducible rfl))))
            all_goals first | exact rfl | exact hzs.symm | exact hws.symm | exact hys.symm | skip
      · obtain rfl : i = c := by omega
        obtain rfl : e = m := by omega
        have ds : decide ((i : Int) < (e : Int)) = true := decide_eq_true (by omega)
        have dm : decide ((e : Int) < (e : Int)) = false := decide_eq_false (by omega)
        have dc : decide ((i : Int) < (i : Int)) = false := decide_eq_false (by omega)
        have de : decide ((e : Int) < (b : Int)) = true := decide_eq_true (by omega)
        by_cases qa : a < i
        · have da : decide ((a : Int) < (i : Int)) = true := decide_eq_true (by omega)
          obtain rfl : ys = xs := r2 (by omega)
          obtain rfl : ws = ys := v1.symm.trans (r7 (by omega))
          (have zx1 := @d1; have zx2 := @w1; have zx3 := @ds; have zx4 := @dm; have zx5 := @dc; have zx6 := @de; have zx7 := @da; have zx8 := @hzs; have zx9 := @r3; have zx10 := @v2; all_goals (try ((first | (with_reducible refine wp_id ?_) | (with_reducible refine does_id ?_) | (with_reducible refine ops_id ?_)); refine walk ?_; (repeat' (first | exact trivial | with_reducible refine And.intro ?_ ?_)); all_goals (repeat (first | (with_reducible refine ImpB.mk fun hb => ?_) | (with_reducible refine ImpK.mk fun hK => ?_) | (with_reducible refine ImpF.mk fun hF => ?_) | (with_reducible refine ImpQ.mk fun hp => ?_) | (with_reducible refine AllE.mk fun p => ?_) | (with_reducible refine AllR.mk fun rest => ?_) | (with_reducible refine AllK.mk fun K => ?_))))); repeat' (with_reducible refine And.intro ?_ ?_))
          all_goals first | exact hi | exact iy | exact iw | exact r5' | exact r6' | exact v4' | exact v5' | exact Int.natCast_nonneg _ | omega | skip
          all_goals (focus (refine ⟨_, _, Gh.refl, [0], rfl, ?_⟩; (refine fitq ?_ ?_ ?_ <;> try exact trivial); (try any_goals (refine ⟨?_, ?_⟩)); (try any_goals (with_reducible rfl))))
          all_goals first | exact rfl | exact hzs.symm | exact hws.symm | exact hys.symm | skip
        · have da : decide ((a : Int) < (i : Int)) = false := decide_eq_false (by omega)
          obtain rfl : ys = xs := r2 (by omega)
          obtain rfl : ws = ys := v1.symm.trans (r7 (by omega))
          (have zx1 := @d1; have zx2 := @w1; have zx3 := @ds; have zx4 := @dm; have zx5 := @dc; have zx6 := @de; have zx7 := @da; have zx8 := @hzs; have zx9 := @r3; have zx10 := @v2; all_goals (try ((first | (with_reducible refine wp_id ?_) | (with_reducible refine does_id ?_) | (with_reducible refine ops_id ?_)); refine walk ?_; (repeat' (first | exact trivial | with_reducible refine And.intro ?_ ?_)); all_goals (repeat (first | (with_reducible refine ImpB.mk fun hb => ?_) | (with_reducible refine ImpK.mk fun hK => ?_) | (with_reducible refine ImpF.mk fun hF => ?_) | (with_reducible refine ImpQ.mk fun hp => ?_) | (with_reducible refine AllE.mk fun p => ?_) | (with_reducible refine AllR.mk fun rest => ?_) | (with_reducible refine AllK.mk fun K => ?_))))); repeat' (with_reducible refine And.intro ?_ ?_))
          all_goals first | exact hi | exact iy | exact iw | exact r5' | exact r6' | exact v4' | exact v5' | exact Int.natCast_nonneg _ | omega | skip
          all_goals (focus (refine ⟨_, _, Gh.refl, [0], rfl, ?_⟩; (refine fitq ?_ ?_ ?_ <;> try exact trivial); (try any_goals (refine ⟨?_, ?_⟩)); (try any_goals (with_reducible rfl))))
          all_goals first | exact rfl | exact hzs.symm | exact hws.symm | exact hys.symm | skip
theorem b_symB (xs : List Itm) (a m b c n s0 P D : Nat) (hi : ∀ x ∈ xs, okT x) (ham : a + 1 < m) (hmb : m + 1 < b) (hb : b ≤ xs.length) (hl : xs.length ≤ 1099511627776) (hs1 : Srt tmI ((xs.take m).drop a)) (hs2 : Srt tmI ((xs.take b).drop m)) (hc : (a + b) / 2 = c) (hn : c + m = n) (hP : P + 1 = n) (hcm : m ≤ c) (hs0 : s0 = a) (hD : b - a ≤ D)
    (C : ∀ {h : List Ch} {K : KT} {xs : List Itm} {x y z : Int} {n t : Nat} (_ : K (.tup []) (h.set t (.rows .itm (srtR tmI x.toNat z.toNat xs)))) (_ : hth h t = .rows .itm xs) (_ : ∀ x ∈ xs, okT x) (_ : 0 ≤ x ∧ x < y ∧ y < z ∧ z ≤ n ∧ z - x < D) (_ : n = xs.length) (_ : xs.length ≤ 1099511627776) (_ : Srt tmI ((xs.take y.toNat).drop x.toNat)) (_ : Srt tmI ((xs.take z.toNat).drop y.toNat)), Does Try.prog 68 [.sl t .itm 0 n, .int .i64 x, .int .i64 y, .int .i64 z, .fn 47 []] h K) : DoesK Try.prog 1 68 [.sl 0 .itm 0 xs.length, .int .i64 a, .int .i64 m, .int .i64 (b), .fn 47 []] [.rows .itm xs] (EndF 1 (.tup []) ([.rows .itm (srtR tmI a b xs)] ++ [])) := by
  refine DoesK.close ?_
  have inst := Ctr.mk (i := 0) (g := 68) @C
  obtain ⟨Z, hZ⟩ : ∃ Z, srtR tmI a b xs = Z := ⟨_, rfl⟩
  rw [hZ]
  have hc2 : 2 * c ≤ a + b ∧ a + b ≤ 2 * c + 1 := by omega
  have x1 : IntKind.i64.wrap ((m : Int) - (a : Int)) = ((m - a : Nat) : Int) := by rw [wrap_i64 _ (by omega) (by omega)]; omega
  have x2 : decide (((m - a : Nat) : Int) = 1) = false := decide_eq_false (by omega)
  have x3 : IntKind.i64.wrap ((b : Int) - (m : Int)) = ((b - m : Nat) : Int) := by rw [wrap_i64 _ (by omega) (by omega)]; omega
  have x4 : decide (((b - m : Nat) : Int) = 1) = false := decide_eq_false (by omega)
  have y1 : IntKind.i64.wrap ((a : Int) + (b : Int)) = ((a + b : Nat) : Int) := by rw [wrap_i64 _ (by omega) (by omega)]; omega
  have y2 : IntKind.u64.wrap ((a + b : Nat) : Int) = ((a + b : Nat) : Int) := by rw [wrap_u64]; omega
  have y3 : Int.fdiv ((a + b : Nat) : Int) 2 = (c : Int) := by rw [Int.fdiv_eq_ediv_of_nonneg _ (by omega)]; omega
  have y4 : IntKind.i64.wrap (c : Int) = (c : Int) := wrap_i64 _ (by omega) (by omega)
  have y5 : IntKind.i64.wrap ((c : Int) + (m : Int)) = (n : Int) := by rw [wrap_i64 _ (by omega) (by omega)]; omega
  have y6 : IntKind.i64.wrap ((n : Int) - 1) = (P : Int) := by rw [wrap_i64 _ (by omega) (by omega)]; omega
  have y7 : decide ((c : Int) < (m : Int)) = false := decide_eq_false (by omega)
  have y8 : (a : Int) = (s0 : Int) := by omega
  refine w_body (rs := []) (tm := [.sl 0 .itm 0 xs.length, .int .i64 a, .int .i64 m, .int .i64 (b), .fn 47 [], .any, .any, .any, .any, .any, .any, .any, .any, .any, .any, .any, .any, .any, .any, .any, .any, .any, .any, .any, .any, .any, .any, .any, .any, .any, .any, .any, .any, .any, .any, .any, .any, .any, .any, .any, .any, .any, .any, .any, .any, .any, .any, .any, .any, .any, .any, .any, .any, .any, .any, .any, .any, .any, .any, .any, .any, .any, .any, .any, .any, .any, .any, .any, .any, .any, .any, .any, .any, .any, .any, .any, .any, .any, .any, .any, .any, .any, .any, .any, .any, .any, .any, .any, .any, .any, .any, .any, .any, .any, .any, .any, .any, .any, .any, .any, .any, .any, .any, .any, .any, .any, .any, .any, .any, .any, .any, .any, .any, .any, .any, .any, .any, .any, .any, .any, .any, .any, .any, .any, .any, .any, .any, .any, .any, .any, .any, .any, .any, .any, .any, .any, .any, .any, .any, .any, .any, .any, .any, .any, .any, .any, .any, .any, .any, .any, .any, .any, .any, .any, .any, .any, .any, .any, .any, .any, .any, .any, .any, .any, .any, .any, .any, .any, .any, .any, .any, .any, .any, .any, .any, .any, .any, .any, .any, .any, .any, .any, .any, .any, .any, .any, .any, .any, .any, .any, .any, .any, .any, .any, .any, .any, .any, .any, .any, .any, .any, .any, .any, .any, .any, .any, .any, .any, .any, .any, .any, .any, .any, .any, .any, .any, .any, .any, .any, .any]) fn_68 rfl rfl rfl rfl fun R hR => ?_
  (have zx1 := @x1; have zx2 := @x2; have zx3 := @x3; have zx4 := @x4; have zx5 := @y1; have zx6 := @y2; have zx7 := @y3; have zx8 := @y4; have zx9 := @y5; have zx10 := @y6; have zx11 := @y7; have zx12 := @x1; all_goals (try ((first | (with_reducible refine wp_id ?_) | (with_reducible refine does_id ?_) | (with_reducible refine ops_id ?_)); refine walk ?_; (repeat' (first | exact trivial | with_reducible refine And.intro ?_ ?_)); all_goals (repeat (first | (with_reducible refine ImpB.mk fun hb => ?_) | (with_reducible refine ImpK.mk fun hK => ?_) | (with_reducible refine ImpF.mk fun hF => ?_) | (with_reducible refine ImpQ.mk fun hp => ?_) | (with_reducible refine AllE.mk fun p => ?_) | (with_reducible refine AllR.mk fun rest => ?_) | (with_reducible refine AllK.mk fun K => ?_))))); repeat' (with_reducible refine And.intro ?_ ?_))
  any_goals ((try (refine w_seq fun K hK => ?_)); (try (refine w_block ?_)); refine w_loop (A := Nat × Nat) (fun p => s0 ≤ p.1 ∧ p.1 ≤ p.2 ∧ p.2 ≤ m ∧ (∀ u, s0 ≤ u → u < p.1 → tmI (xs.getD u Itm.zero) ≤ tmI (xs.getD (P - u) Itm.zero)) ∧ (∀ u, p.2 ≤ u → u < m → tmI (xs.getD (P - u) Itm.zero) < tmI (xs.getD u Itm.zero))) (fun p => p.2 - p.1) (fun p => [(18, .int .i64 c), (19, .int .i64 n), (20, .int .i64 p.1), (21, .int .i64 p.2), (22, .int .i64 P)]) (fun _ => []) ((s0, m)) (ws := ?ws4) (tk := ?tk4) ?hw4 ?ht4 ?hi ?h0 ?LH4; (case hw4 => simp only [go_sem, decide_true, decide_false, Int.reduceToNat, Nat.min_eq_left, Nat.min_eq_right, Int.reducePow, Nat.reducePow, Int.reduceLE, Int.reduceLT, Int.reduceMul, Int.reduceAdd, Int.reduceSub, Int.reduceNeg, Bool.not_true, Bool.not_false, Bool.not_not, ↓reduceIte, Nat.reduceAdd, Nat.reduceSub, Nat.reduceMul, Nat.reduceEqDiff, reduceCtorEq, Nat.reduceLT, Nat.reduceLeDiff, Nat.reduceGT]; exact rfl); (case ht4 => simp only [go_sem, decide_true, decide_false, Int.reduceToNat, Nat.min_eq_left, Nat.min_eq_right, Int.reducePow, Nat.reducePow, Int.reduceLE, Int.reduceLT, Int.reduceMul, Int.reduceAdd, Int.reduceSub, Int.reduceNeg, Bool.not_true, Bool.not_false, Bool.not_not, ↓reduceIte, Nat.reduceAdd, Nat.reduceSub, Nat.reduceMul, Nat.reduceEqDiff, reduceCtorEq, Nat.reduceLT, Nat.reduceLeDiff, Nat.reduceGT]; exact rfl); (case' LH4 => rintro ⟨i, j⟩ E t hx hE ht; simp only [go_sem] at ht; subst ht; simp only [go_sem]; try dsimp only at hx))
  case hi => exact ⟨Nat.le_refl _, by dsimp only; omega, Nat.le_refl _, fun u h1 h2 => by dsimp only at h2; omega, fun u h1 h2 => by dsimp only at h1; omega⟩
  case h0 => (focus (refine ⟨_, _, Gh.refl, [0], rfl, ?_⟩; (refine fitq ?_ ?_ ?_ <;> try exact trivial); (try any_goals (refine ⟨?_, ?_⟩)); (try any_goals (with_reducible rfl)))); (all_goals first | exact rfl | exact y8 | omega | skip)
  case LH4 =>
    obtain ⟨h1, h2, h3, h4, h5⟩ := hx
    (try dsimp only at h1 h2 h3 h4 h5)
    by_cases hij : i < j
    · have d1 : decide ((i : Int) < (j : Int)) = true := decide_eq_true (by omega)
      obtain ⟨h, hc⟩ : ∃ h : Nat, (i + j) / 2 = h := ⟨_, rfl⟩
      have w1 : IntKind.i64.wrap ((i : Int) + (j : Int)) = ((i + j : Nat) : Int) := by rw [wrap_i64 _ (by omega) (by omega)]; omega
      have w2 : IntKind.u64.wrap ((i + j : Nat) : Int) = ((i + j : Nat) : Int) := by rw [wrap_u64]; omega
      have w3 : Int.fdiv ((i + j : Nat) : Int) 2 = (h : Int) := by rw [Int.fdiv_eq_ediv_of_nonneg _ (by omega)]; omega
      have w4 : IntKind.i64.wrap (h : Int) = (h : Int) := wrap_i64 _ (by omega) (by omega)
      have w5 : IntKind.i64.wrap ((h : Int) + 1) = ((h + 1 : Nat) : Int) := by rw [wrap_i64 _ (by omega) (by omega)]; omega
      have w6 : IntKind.i64.wrap ((P : Int) - (h : Int)) = ((P - h : Nat) : Int) := by rw [wrap_i64 _ (by omega) (by omega)]; omega
      have i1 := hi _ (getMI (zs := xs) (k := P - h) (by omega))
      have i2 := hi _ (getMI (zs := xs) (k := h) (by omega))
      by_cases q : tmI (xs.getD (P - h) Itm.zero) < tmI (xs.getD h Itm.zero)
      · have d2 : decide (((xs.getD (P - h) Itm.zero).time - (xs.getD h Itm.zero).time) < 0) = true := by rw [tm_lt]; exact decide_eq_true q
        (have zx1 := @d1; have zx2 := @w1; have zx3 := @w2; have zx4 := @w3; have zx5 := @w4; have zx6 := @w5; have zx7 := @w6; have zx8 := @d2; all_goals (try ((first | (with_reducible refine wp_id ?_) | (with_reducible refine does_id ?_) | (with_reducible refine ops_id ?_)); refine walk ?_; (repeat' (first | exact trivial | with_reducible refine And.intro ?_ ?_)); all_goals (repeat (first | (with_reducible refine ImpB.mk fun hb => ?_) | (with_reducible refine ImpK.mk fun hK => ?_) | (with_reducible refine ImpF.mk fun hF => ?_) | (with_reducible refine ImpQ.mk fun hp => ?_) | (with_reducible refine AllE.mk fun p => ?_) | (with_reducible refine AllR.mk fun rest => ?_) | (with_reducible refine AllK.mk fun K => ?_))))); repeat' (with_reducible refine And.intro ?_ ?_))
        all_goals first | exact i1 | exact i2 | exact Int.natCast_nonneg _ | omega | skip
        refine ⟨(i, h), ⟨⟨h1, by dsimp only; omega, by dsimp only; omega, h4, fun u e1 e2 => ?_⟩, by dsimp only; omega⟩, ?_⟩
        · dsimp only at e1
          have g1 := Srt_ix' hs1 (by omega) (u := h) (v := u) (by omega) e1 (by omega)
          have g2 := Srt_ix' hs2 hb (u := P - u) (v := P - h) (by omega) (by omega) (by omega)
          omega
        (focus (refine ⟨_, _, Gh.refl, [0], rfl, ?_⟩; (refine fitq ?_ ?_ ?_ <;> try exact trivial); (try any_goals (refine ⟨?_, ?_⟩)); (try any_goals (with_reducible rfl))))
      · have d2 : decide (((xs.getD (P - h) Itm.zero).time - (xs.getD h Itm.zero).time) < 0) = false := by rw [tm_lt]; exact decide_eq_false q
        (have zx1 := @d1; have zx2 := @w1; have zx3 := @w2; have zx4 := @w3; have zx5 := @w4; have zx6 := @w5; have zx7 := @w6; have zx8 := @d2; all_goals (try ((first | (with_reducible refine wp_id ?_) | (with_reducible refine does_id ?_) | (with_reducible refine ops_id ?_)); refine walk ?_; (repeat' (first | exact trivial | with_reducible refine And.intro ?_ ?_)); all_goals (repeat (first | (with_reducible refine ImpB.mk fun hb => ?_) | (with_reducible refine ImpK.mk fun hK => ?_) | (with_reducible refine ImpF.mk fun hF => ?_) | (with_reducible refine ImpQ.mk fun hp => ?_) | (with_reducible refine AllE.mk fun p => ?_) | (with_reducible refine AllR.mk fun rest => ?_) | (with_reducible refine AllK.mk fun K => ?_))))); repeat' (with_reducible refine And.intro ?_ ?_))
        all_goals first | exact i1 | exact i2 | exact Int.natCast_nonneg _ | omega | skip
        refine ⟨(h + 1, j), ⟨⟨by dsimp only; omega, by dsimp only; omega, h3, fun u e1 e2 => ?_, h5⟩, by dsimp only; omega⟩, ?_⟩
        · dsimp only at e2
          have g1 := Srt_ix' hs1 (by omega) (u := u) (v := h) (by omega) (by omega) (by omega)
          have g2 := Srt_ix' hs2 hb (u := P - h) (v := P - u) (by omega) (by omega) (by omega)
          omega
        (focus (refine ⟨_, _, Gh.refl, [0], rfl, ?_⟩; (refine fitq ?_ ?_ ?_ <;> try exact trivial); (try any_goals (refine ⟨?_, ?_⟩)); (try any_goals (with_reducible rfl))))
    · have d1 : decide ((i : Int) < (j : Int)) = false := decide_eq_false (by omega)
      obtain rfl : i = j := by omega
      obtain ⟨e, he⟩ : ∃ e, n - i = e := ⟨_, rfl⟩
      have w1 : IntKind.i64.wrap ((n : Int) - (i : Int)) = (e : Int) := by rw [wrap_i64 _ (by omega) (by omega)]; omega
      obtain ⟨ys, r1, r2, r3, r4, r5, r6, r7, ws, v1, v2, v3, v4, v5, v6, v7⟩ := sym_pack (f := tmI) (xs := xs) (a := a) (m := m) (b := b) (c := c) (s := i) (e := e) (by omega) (by omega) (by omega) (by omega) hb (by omega) hs1 hs2
        (fun q1 q2 => by have := h5 i (Nat.le_refl _) (by omega); rw [show e - 1 = P - i by omega]; exact this)
        (fun q1 q2 => by have := h4 (i - 1) (by omega) (by omega); rw [show e = P - (i - 1) by omega]; exact this)
      have hys : rotR i m e xs = ys := r1
      have hws : srtR tmI a c ys = ws := v1
      have hzs : srtR tmI c b ws = Z := v7.trans hZ
      have iy := KE.all r4 hi
      have iw := KE.all v3 hi
      have r5' : Srt tmI ((ys.take (i : Int).toNat).drop (a : Int).toNat) := r5
      have r6' : Srt tmI ((ys.take (c : Int).toNat).drop (i : Int).toNat) := r6
      have v4' : Srt tmI ((ws.take (e : Int).toNat).drop (c : Int).toNat) := v4
      have v5' : Srt tmI ((ws.take (b : Int).toNat).drop (e : Int).toNat) := v5
      by_cases q : i < m
      · have ds : decide ((i : Int) < (m : Int)) = true := decide_eq_true (by omega)
        have dm : decide ((m : Int) < (e : Int)) = true := decide_eq_true (by omega)
        have dc : decide ((i : Int) < (c : Int)) = true := decide_eq_true (by omega)
        have dce : decide ((c : Int) < (e : Int)) = true := decide_eq_true (by omega)
        by_cases qa : a < i
        · have da : decide ((a : Int) < (i : Int)) = true := decide_eq_true (by omega)
          by_cases qe : e < b
          · have de : decide ((e : Int) < (b : Int)) = true := decide_eq_true (by omega)
            (have zx1 := @d1; have zx2 := @w1; have zx3 := @ds; have zx4 := @dm; have zx5 := @dc; have zx6 := @dce; have zx7 := @da; have zx8 := @de; have zx9 := @hys; have zx10 := @hws; have zx11 := @hzs; have zx12 := @r3; have zx13 := @v2; all_goals (try ((first | (with_reducible refine wp_id ?_) | (with_reducible refine does_id ?_) | (with_reducible refine ops_id ?_)); refine walk ?_; (repeat' (first | exact trivial | with_reducible refine And.intro ?_ ?_)); all_goals (repeat (first | (with_reducible refine ImpB.mk fun hb => ?_) | (with_reducible refine ImpK.mk fun hK => ?_) | (with_reducible refine ImpF.mk fun hF => ?_) | (with_reducible refine ImpQ.mk fun hp => ?_) | (with_reducible refine AllE.mk fun p => ?_) | (with_reducible refine AllR.mk fun rest => ?_) | (with_reducible refine AllK.mk fun K => ?_))))); repeat' (with_reducible refine And.intro ?_ ?_))
            all_goals first | exact hi | exact iy | exact iw | exact r5' | exact r6' | exact v4' | exact v5' | exact Int.natCast_nonneg _ | omega | skip
            all_goals (focus (refine ⟨_, _, Gh.refl, [0], rfl, ?_⟩; (refine fitq ?_ ?_ ?_ <;> try exact trivial); (try any_goals (refine ⟨?_, ?_⟩)); (try any_goals (with_reducible rfl))))
            all_goals first | exact rfl | exact hzs.symm | exact hws.symm | exact hys.symm | skip
          · have de : decide ((e : Int) < (b : Int)) = false := decide_eq_false (by omega)
            have hZw : Z = ws := (v7.trans hZ).symm.trans (v6 (by omega))
            subst hZw
            (have zx1 := @d1; have zx2 := @w1; have zx3 := @ds; have zx4 := @dm; have zx5 := @dc; have zx6 := @dce; have zx7 := @da; have zx8 := @de; have zx9 := @hys; have zx10 := @hws; have zx11 := @r3; have zx12 := @v2; all_goals (try ((first | (with_reducible refine wp_id ?_) | (with_reducible refine does_id ?_) | (with_reducible refine ops_id ?_)); refine walk ?_; (repeat' (first | exact trivial | with_reducible refine And.intro ?_ ?_)); all_goals (repeat (first | (with_reducible refine ImpB.mk fun hb => ?_) | (with_reducible refine ImpK.mk fun hK => ?_) | (with_reducible refine ImpF.mk fun hF => ?_) | (with_reducible refine ImpQ.mk fun hp => ?_) | (with_reducible refine AllE.mk fun p => ?_) | (with_reducible refine AllR.mk fun rest => ?_) | (with_reducible refine AllK.mk fun K => ?_))))); repeat' (with_reducible refine And.intro ?_ ?_))
            all_goals first | exact hi | exact iy | exact iw | exact r5' | exact r6' | exact v4' | exact v5' | exact Int.natCast_nonneg _ | omega | skip
            all_goals (focus (refine ⟨_, _, Gh.refl, [0], rfl, ?_⟩; (refine fitq ?_ ?_ ?_ <;> try exact trivial); (try any_goals (refine ⟨?_, ?_⟩)); (try any_goals (with_reducible rfl))))
            all_goals first | exact rfl | exact hzs.symm | exact hws.symm | exact hys.symm | skip
        · have da : decide ((a : Int) < (i : Int)) = false := decide_eq_false (by omega)
          by_cases qe : e < b
          · have de : decide ((e : Int) < (b : Int)) = true := decide_eq_true (by omega)
            obtain rfl : ws = ys := v1.symm.trans (r7 (by omega))
            (have zx1 := @d1; have zx2 := @w1; have zx3 := @ds; have zx4 := @dm; have zx5 := @dc; have zx6 := @dce; have zx7 := @da; have zx8 := @de; have zx9 := @hys; have zx10 := @hzs; have zx11 := @r3; have zx12 := @v2; all_goals (try ((first | (with_reducible refine wp_id ?_) | (with_reducible refine does_id ?_) | (with_reducible refine ops_id ?_)); refine walk ?_; (repeat' (first | exact trivial | with_reducible refine And.intro ?_ ?_)); all_goals (repeat (first | (with_reducible refine ImpB.mk fun hb => ?_) | (with_reducible refine ImpK.mk fun hK => ?_) | (with_reducible refine ImpF.mk fun hF => ?_) | (with_reducible refine ImpQ.mk fun hp => ?_) | (with_reducible refine AllE.mk fun p => ?_) | (with_reducible refine AllR.mk fun rest => ?_) | (with_reducible refine AllK.mk fun K => ?_))))); repeat' (with_reducible refine And.intro ?_ ?_))
            all_goals first | exact hi | exact iy | exact iw | exact r5' | exact r6' | exact v4' | exact v5' | exact Int.natCast_nonneg _ | omega | skip
            all_goals (focus (refine ⟨_, _, Gh.refl, [0], rfl, ?_⟩; (refine fitq ?_ ?_ ?_ <;> try exact trivial); (try any_goals (refine ⟨?_, ?_⟩)); (try any_goals (with_reducible rfl))))
            all_goals first | exact rfl | exact hzs.symm | exact hws.symm | exact hys.symm | skip
          · have de : decide ((e : Int) < (b : Int)) = false := decide_eq_false (by omega)
            obtain rfl : ws = ys := v1.symm.trans (r7 (by omega))
            have hZw : Z = ws := (v7.trans hZ).symm.trans (v6 (by omega))
            subst hZw
            (have zx1 := @d1; have zx2 := @w1; have zx3 := @ds; have zx4 := @dm; have zx5 := @dc; have zx6 := @dce; have zx7 := @da; have zx8 := @de; have zx9 := @hys; have zx10 := @r3; have zx11 := @v2; all_goals (try ((first | (with_reducible refine wp_id ?_) | (with_reducible refine does_id ?_) | (with_reducible refine ops_id ?_)); refine walk ?_; (repeat' (first | exact trivial | with_reducible refine And.intro ?_ ?_)); all_goals (repeat (first | (with_reducible refine ImpB.mk fun hb => ?_) | (with_reducible refine ImpK.mk fun hK => ?_) | (with_reducible refine ImpF.mk fun hF => ?_) | (with_reducible refine ImpQ.mk fun hp => ?_) | (with_reducible refine AllE.mk fun p => ?_) | (with_reducible refine AllR.mk fun rest => ?_) | (with_reducible refine AllK.mk fun K => ?_))))); repeat' (with_reducible refine And.intro ?_ ?_))
            all_goals first | exact hi | exact iy | exact iw | exact r5' | exact r6' | exact v4' | exact v5' | exact Int.natCast_nonneg _ | omega | skip
            all_goals (focus (refine ⟨_, _, Gh.refl, [0], rfl, ?_⟩; (refine fitq ?_ ?_ ?_ <;> try exact trivial); (try any_goals (refine ⟨?_, ?_⟩)); (try any_goals (with_reducible rfl))))
            all_goals first | exact rfl | exact hzs.symm | exact hws.symm | exact hys.symm | skip
      · obtain rfl : i = m := by omega
        obtain rfl : e = c := by omega
        have ds : decide ((i : Int) < (i : Int)) = false := decide_eq_false (by omega)
        have da : decide ((a : Int) < (i : Int)) = true := decide_eq_true (by omega)
        have dce : decide ((e : Int) < (e : Int)) = false := decide_eq_false (by omega)
        by_cases qa : i < e
        · have dc : decide ((i : Int) < (e : Int)) = true := decide_eq_true (by omega)
          obtain rfl : ys = xs := r2 (by omega)
          have hZw : Z = ws := (v7.trans hZ).symm.trans (v6 (by omega))
          subst hZw
          (have zx1 := @d1; have zx2 := @w1; have zx3 := @ds; have zx4 := @da; have zx5 := @dce; have zx6 := @dc; have zx7 := @hws; have zx8 := @r3; have zx9 := @v2; all_goals (try ((first | (with_reducible refine wp_id ?_) | (with_reducible refine does_id ?_) | (with_reducible refine ops_id ?_)); refine walk ?_; (repeat' (first | exact trivial | with_reducible refine And.intro ?_ ?_)); all_goals (repeat (first | (with_reducible refine ImpB.mk fun hb => ?_) | (with_reducible refine ImpK.mk fun hK => ?_) | (with_reducible refine ImpF.mk fun hF => ?_) | (with_reducible refine ImpQ.mk fun hp => ?_) | (with_reducible refine AllE.mk fun p => ?_) | (with_reducible refine AllR.mk fun rest => ?_) | (with_reducible refine AllK.mk fun K => ?_))))); repeat' (with_reducible refine And.intro ?_ ?_))
          all_goals first | exact hi | exact iy | exact iw | exact r5' | exact r6' | exact v4' | exact v5' | exact Int.natCast_nonneg _ | omega | skip
          all_goals (focus (refine ⟨_, _, Gh.refl, [0], rfl, ?_⟩; (refine fitq ?_ ?_ ?_ <;> try exact trivial); (try any_goals (refine ⟨?_, ?_⟩)); (try any_goals (with_reducible rfl))))
          all_goals first | exact rfl | exact hzs.symm | exact hws.symm | exact hys.symm | skip
        · have dc : decide ((i : Int) < (e : Int)) = false := decide_eq_false (by omega)
          obtain rfl : ys = xs := r2 (by omega)
          obtain rfl : ws = ys := v1.symm.trans (r7 (by omega))
          have hZw : Z = ws := (v7.trans hZ).symm.trans (v6 (by omega))
          subst hZw
          (have zx1 := @d1; have zx2 := @w1; have zx3 := @ds; have zx4 := @da; have zx5 := @dce; have zx6 := @dc; have zx7 := @r3; have zx8 := @v2; all_goals (try ((first | (with_reducible refine wp_id ?_) | (with_reducible refine does_id ?_) | (with_reducible refine ops_id ?_)); refine walk ?_; (repeat' (first | exact trivial | with_reducible refine And.intro ?_ ?_)); all_goals (repeat (first | (with_reducible refine ImpB.mk fun hb => ?_) | (with_reducible refine ImpK.mk fun hK => ?_) | (with_reducible refine ImpF.mk fun hF => ?_) | (with_reducible refine ImpQ.mk fun hp => ?_) | (with_reducible refine AllE.mk fun p => ?_) | (with_reducible refine AllR.mk fun rest => ?_) | (with_reducible refine AllK.mk fun K => ?_))))); repeat' (with_reducible refine And.intro ?_ ?_))
          all_goals first | exact hi | exact iy | exact iw | exact r5' | exact r6' | exact v4' | exact v5' | exact Int.natCast_nonneg _ | omega | skip
          all_goals (focus (refine ⟨_, _, Gh.refl, [0], rfl, ?_⟩; (refine fitq ?_ ?_ ?_ <;> try exact trivial); (try any_goals (refine ⟨?_, ?_⟩)); (try any_goals (with_reducible rfl))))
          all_goals first | exact rfl | exact hzs.symm | exact hws.symm | exact hys.symm | skip
theorem b_sym : ∀ (D : Nat) xs a m b, b - a < D → (∀ x ∈ xs, okT x) → a < m → m < b → b ≤ xs.length → xs.length ≤ 1099511627776 → Srt tmI ((xs.take m).drop a) → Srt tmI ((xs.take b).drop m) → DoesK Try.prog 1 68 [.sl 0 .itm 0 xs.length, .int .i64 a, .int .i64 m, .int .i64 (b), .fn 47 []] [.rows .itm xs] (EndF 1 (.tup []) ([.rows .itm (srtR tmI a b xs)] ++ []))
  | 0, _, _, _, _, h, _, _, _, _, _, _, _ => absurd h (Nat.not_lt_zero _)
  | D + 1, xs, a, m, b, hd, hi, ham, hmb, hb, hl, hs1, hs2 => by
    by_cases c1 : a + 1 = m
    · exact b_symL xs a m b hi c1 hmb hb hl fun u v => Srt_ix hs2 hb
    by_cases c2 : m + 1 = b
    · subst c2
      exact b_sym1 xs a m hi (by omega) (by omega) hl fun u v => Srt_ix hs1 (by omega)
    obtain ⟨c, hc⟩ : ∃ c, (a + b) / 2 = c := ⟨_, rfl⟩
    obtain ⟨n, hn⟩ : ∃ n, c + m = n := ⟨_, rfl⟩
    have hR := @symC D (b_sym D)
    by_cases c3 : c < m
    · exact b_symA xs a m b c n (n - b) (n - 1) D hi (by omega) (by omega) hb hl hs1 hs2 hc hn (by omega) c3 (by omega) (by omega) hR
    · exact b_symB xs a m b c n a (n - 1) D hi (by omega) (by omega) hb hl hs1 hs2 hc hn (by omega) (by omega) rfl (by omega) hR
theorem c_sym {h : List Ch} {K : KT} {xs : List Itm} {x y z : Int} {n t : Nat} (H : K (.tup []) (h.set t (.rows .itm (srtR tmI x.toNat z.toNat xs)))) (o : hth h t = .rows .itm xs) (s1 : ∀ x ∈ xs, okT x) (s2 : 0 ≤ x ∧ x < y ∧ y < z ∧ z ≤ n) (s3 : n = xs.length) (s4 : xs.length ≤ 1099511627776) (s5 : Srt tmI ((xs.take y.toNat).drop x.toNat)) (s6 : Srt tmI ((xs.take z.toNat).drop y.toNat)) : Does Try.prog 68 [.sl t .itm 0 n, .int .i64 x, .int .i64 y, .int .i64 z, .fn 47 []] h K :=
  symC (z.toNat + 1) (b_sym _) H o s1 (by omega) s3 s4 s5 s6
abbrev i_sym := Ctr.mk (i := 0) (g := 68) @c_sym
attribute [instance] i_sym
end Go.V
