/-
  schedule: the object; IndexFunc, Delete, Clone of slices of entries.
  schedule: the object; New, ok, pass, sort.
  schedule: Insert, Delete, Enable, Entries.
-/
import Derived.Test.YtnhhgmoadpiklaaPart15
set_option linter.unusedVariables false
set_option linter.unusedSimpArgs false
set_option maxRecDepth 100000
set_option maxHeartbeats 4000000
namespace Go.V
open Go.Proofs
abbrev eAt (l : List Ent) (k : Nat) : Ent := l.getD k Ent.zero
theorem eAt_eq {l : List Ent} {i : Nat} (h : i < l.length) : eAt l i = l[i] := by
  unfold eAt
  rw [List.getD_eq_getElem?_getD, List.getElem?_eq_getElem h]
  rfl
/-! ### slices of entries -/
def ixE (p : Ent → Bool) : List Ent → Nat → Int
  | [], _ => -1
  | x :: l, k => if p x then k else ixE p l (k + 1)
theorem ixE_none {p : Ent → Bool} : ∀ {l : List Ent} {k : Nat}, (∀ x ∈ l, p x = false) → ixE p l k = -1
  | [], _, _ => rfl
  | x :: l, k, h => by rw [ixE, h x (by simp)]; exact ixE_none fun y hy => h y (by simp [hy])
theorem ixE_at {p : Ent → Bool} : ∀ {l : List Ent} {j k : Nat}, j < l.length → (∀ i, i < j → p (eAt l i) = false) → p (eAt l j) = true → ixE p l k = ((k + j : Nat) : Int)
  | [], j, _, h, _, _ => by simp at h
  | x :: l, 0, k, _, _, h => by
    have : p x = true := h
    rw [ixE, if_pos this, Nat.add_zero]
  | x :: l, j + 1, k, hl, h0, h => by
    have h1 : p x = false := h0 0 (by omega)
    rw [ixE, h1]
    simp only [Bool.false_eq_true, if_false]
    rw [ixE_at (j := j) (by simpa using hl) (fun i hi => h0 (i + 1) (by omega)) h]
    congr 1; omega
theorem k_indexFuncE {n0 : Nat} {h : List Ch} {K : KT} {xs : List Ent} {f : FuncId} {caps : List AV} (p : Ent → Bool) (hl : xs.length ≤ 9223372036854775806) (hp : ∀ x : Ent, ∀ K' : KT, K' (.bool (p x)) h → Does Try.prog f (.agg [.int .i64 x.id, .int .i64 x.time, .int .i64 x.group, .int .i64 x.c.src, .int .i64 x.c.num, .int .i64 x.c.srv, .ro .int x.c.args, .ro .byte x.c.data] :: caps) h K') (H : K (.int .i64 (ixE p xs 0)) h) : DoesK Try.prog n0 43 [.ro .ent xs, .fn f caps] h K := by
  have inst : Ctr 0 f (∀ {h' : List Ch} {K' : KT} {x : Ent} (_ : h' = h) (_ : K' (.bool (p x)) h), Does Try.prog f (.agg [.int .i64 x.id, .int .i64 x.time, .int .i64 x.group, .int .i64 x.c.src, .int .i64 x.c.num, .int .i64 x.c.srv, .ro .int x.c.args, .ro .byte x.c.data] :: caps) h' K') := Ctr.mk (by rintro h' K' x rfl H; exact hp x K' H)
  refine w_body (rs := [.tmp 4]) (tm := [.ro .ent xs, .fn f caps, .any, .any, .any, .any, .any, .any, .any, .any, .any, .any, .any, .any, .any, .any, .any, .any, .any]) fn_43 rfl rfl rfl rfl fun R hR => ?_
  (all_goals (try ((first | (with_reducible refine wp_id ?_) | (with_reducible refine does_id ?_) | (with_reducible refine ops_id ?_)); refine walk ?_; (repeat' (first | exact trivial | with_reducible refine And.intro ?_ ?_)); all_goals (repeat (first | (with_reducible refine ImpB.mk fun hb => ?_) | (with_reducible refine ImpK.mk fun hK => ?_) | (with_reducible refine ImpF.mk fun hF => ?_) | (with_reducible refine ImpQ.mk fun hp => ?_) | (with_reducible refine AllE.mk fun p => ?_) | (with_reducible refine AllR.mk fun rest => ?_) | (with_reducible refine AllK.mk fun K => ?_))))); repeat' (with_reducible refine And.intro ?_ ?_))
  any_goals ((try (refine w_seq fun K hK => ?_)); (try (refine w_block ?_)); refine w_loopS (A := Nat) (fun k => k ≤ xs.length ∧ ∀ i, i < k → p (eAt xs i) = false) (fun k => xs.length - k) (fun k => [(8, .int .i64 k)]) (0) (ws := ?ws1) (tk := ?tk1) ?hw1 ?ht1 ?hi ?h0 ?LH1; (case hw1 => simp only [go_sem, decide_true, decide_false, Int.reduceToNat, Nat.min_eq_left, Nat.min_eq_right, Int.reducePow, Nat.reducePow, Int.reduceLE, Int.reduceLT, Int.reduceMul, Int.reduceAdd, Int.reduceSub, Int.reduceNeg, Bool.not_true, Bool.not_false, Bool.not_not, ↓reduceIte, Nat.reduceAdd, Nat.reduceSub, Nat.reduceMul, Nat.reduceEqDiff, reduceCtorEq, Nat.reduceLT, Nat.reduceLeDiff, Nat.reduceGT]; exact rfl); (case ht1 => simp only [go_sem, decide_true, decide_false, Int.reduceToNat, Nat.min_eq_left, Nat.min_eq_right, Int.reducePow, Nat.reducePow, Int.reduceLE, Int.reduceLT, Int.reduceMul, Int.reduceAdd, Int.reduceSub, Int.reduceNeg, Bool.not_true, Bool.not_false, Bool.not_not, ↓reduceIte, Nat.reduceAdd, Nat.reduceSub, Nat.reduceMul, Nat.reduceEqDiff, reduceCtorEq, Nat.reduceLT, Nat.reduceLeDiff, Nat.reduceGT]; exact rfl); (case' LH1 => rintro k E t hx hE ht; simp only [go_sem] at ht; subst ht; simp only [go_sem]; try dsimp only at hx))
  case hi => exact ⟨Nat.zero_le _, fun i hi => absurd hi (by omega)⟩
  case h0 => (focus (simp only [go_sem]; (repeat' (first | exact sub_nil | refine sub_cons ?_ ?_)); (any_goals (first | exact .inl rfl | exact .inr rfl)); (try any_goals (refine .inr ?_)); (try any_goals (refine congrArg _ ?_))))
  case LH1 =>
    have hw : IntKind.i64.wrap ((k : Int) + 1) = ((k + 1 : Nat) : Int) := by rw [wrap_i64 _ (by omega) (by omega)]; omega
    by_cases hk : k < xs.length
    · have hkd : decide ((k : Int) < xs.length) = true := decide_eq_true (by omega)
      (have zx1 := @hkd; all_goals (try ((first | (with_reducible refine wp_id ?_) | (with_reducible refine does_id ?_) | (with_reducible refine ops_id ?_)); refine walk ?_; (repeat' (first | exact trivial | with_reducible refine And.intro ?_ ?_)); all_goals (repeat (first | (with_reducible refine ImpB.mk fun hb => ?_) | (with_reducible refine ImpK.mk fun hK => ?_) | (with_reducible refine ImpF.mk fun hF => ?_) | (with_reducible refine ImpQ.mk fun hp => ?_) | (with_reducible refine AllE.mk fun p => ?_) | (with_reducible refine AllR.mk fun rest => ?_) | (with_reducible refine AllK.mk fun K => ?_))))); repeat' (with_reducible refine And.intro ?_ ?_))
      all_goals first | exact Int.natCast_nonneg _ | exact Int.ofNat_lt.2 hk | rfl | skip
      · rw [ixE_at hk hx.2 hb, Nat.zero_add] at H
        exact H
      · refine ⟨k + 1, ⟨⟨by first | omega | (dsimp only; omega), fun i hi => ?_⟩, by first | omega | (dsimp only; omega)⟩, ?_, rfl⟩
        · by_cases e : i = k
          · rw [e]; exact hb
          · exact hx.2 i (by omega)
        (focus (simp only [go_sem]; (repeat' (first | exact sub_nil | refine sub_cons ?_ ?_)); (any_goals (first | exact .inl rfl | exact .inr rfl)); (try any_goals (refine .inr ?_)); (try any_goals (refine congrArg _ ?_))))
        exact hw.symm
    · have hkd : decide ((k : Int) < xs.length) = false := decide_eq_false (by omega)
      (have zx1 := @hkd; all_goals (try ((first | (with_reducible refine wp_id ?_) | (with_reducible refine does_id ?_) | (with_reducible refine ops_id ?_)); refine walk ?_; (repeat' (first | exact trivial | with_reducible refine And.intro ?_ ?_)); all_goals (repeat (first | (with_reducible refine ImpB.mk fun hb => ?_) | (with_reducible refine ImpK.mk fun hK => ?_) | (with_reducible refine ImpF.mk fun hF => ?_) | (with_reducible refine ImpQ.mk fun hp => ?_) | (with_reducible refine AllE.mk fun p => ?_) | (with_reducible refine AllR.mk fun rest => ?_) | (with_reducible refine AllK.mk fun K => ?_))))); repeat' (with_reducible refine And.intro ?_ ?_))
      rw [ixE_none fun x hx' => by
        obtain ⟨i, hi, rfl⟩ := List.getElem_of_mem hx'
        have := hx.2 i (by omega)
        rwa [eAt_eq hi] at this] at H
      exact H
def idB (n : Int) (x : Ent) : Bool := decide (x.id = n)
theorem b_isId (x : Ent) (n : Int) : DoesK Try.prog 1 44 [.agg [.int .i64 x.id, .int .i64 x.time, .int .i64 x.group, .int .i64 x.c.src, .int .i64 x.c.num, .int .i64 x.c.srv, .ro .int x.c.args, .ro .byte x.c.data], .ptr 0 0] [.cells [.int .i64 n]] (EndF 1 (.bool (idB n x)) ([.cells [.int .i64 n]] ++ [])) := by
  refine DoesK.close ?_
  refine w_body (rs := [.tmp 3]) (tm := [.agg [.int .i64 x.id, .int .i64 x.time, .int .i64 x.group, .int .i64 x.c.src, .int .i64 x.c.num, .int .i64 x.c.srv, .ro .int x.c.args, .ro .byte x.c.data], .ptr 0 0, .any, .any, .any, .any, .any, .any]) fn_44 rfl rfl rfl rfl fun R hR => ?_
  (all_goals (try ((first | (with_reducible refine wp_id ?_) | (with_reducible refine does_id ?_) | (with_reducible refine ops_id ?_)); refine walk ?_; (repeat' (first | exact trivial | with_reducible refine And.intro ?_ ?_)); all_goals (repeat (first | (with_reducible refine ImpB.mk fun hb => ?_) | (with_reducible refine ImpK.mk fun hK => ?_) | (with_reducible refine ImpF.mk fun hF => ?_) | (with_reducible refine ImpQ.mk fun hp => ?_) | (with_reducible refine AllE.mk fun p => ?_) | (with_reducible refine AllR.mk fun rest => ?_) | (with_reducible refine AllK.mk fun K => ?_))))); repeat' (with_reducible refine And.intro ?_ ?_))
  (focus (refine ⟨_, _, Gh.refl, [0], rfl, ?_⟩; (refine ⟨?_, ?_, ?_⟩ <;> simp only [go_sem, List.range, List.range.loop, List.nodup_cons, List.nodup_nil, List.mem_cons, List.not_mem_nil, or_false, or_self, decide_true, decide_false, Int.reduceToNat, Nat.min_eq_left, Nat.min_eq_right, Int.reducePow, Nat.reducePow, Int.reduceLE, Int.reduceLT, Int.reduceMul, Int.reduceAdd, Int.reduceSub, Int.reduceNeg, Bool.not_true, Bool.not_false, Bool.not_not, ↓reduceIte, Nat.reduceAdd, Nat.reduceSub, Nat.reduceMul, Nat.reduceEqDiff, reduceCtorEq, Nat.reduceLT, Nat.reduceLeDiff, Nat.reduceGT]); (try any_goals (refine ⟨?_, ?_⟩)); (try any_goals (with_reducible rfl))))
  all_goals rfl
theorem fitC_int (n : Int) (σ : List Nat) : fitC σ (.cells [.int .i64 n]) (.cells [.int .i64 n]) := ⟨⟨rfl, rfl⟩, trivial⟩
theorem c_isId {h : List Ch} {K : KT} {x : Ent} {t : Nat} {n : Int} (H : K (.bool (idB n x)) h) (o : hth h t = .cells [.int .i64 n]) : Does Try.prog 44 [.agg [.int .i64 x.id, .int .i64 x.time, .int .i64 x.group, .int .i64 x.c.src, .int .i64 x.c.num, .int .i64 x.c.srv, .ro .int x.c.args, .ro .byte x.c.data], .ptr t 0] h K :=
  frame_look (b_isId x n) o (by simp) (fitC_int n) (br_cons (br_agg (br_cons br_int (br_cons br_int (br_cons br_int (br_cons br_int (br_cons br_int (br_cons br_int (br_cons br_ro (br_cons br_ro br_nil))))))))) (br_cons (br_ptr rfl) br_nil)) (.inl rfl) (fun _ => rfl) rfl H
theorem b_ixId (xs : List Ent) (n : Int) (hl : xs.length ≤ 9223372036854775806) : DoesK Try.prog 1 43 [.ro .ent xs, .fn 44 [.ptr 0 0]] [.cells [.int .i64 n]] (EndF 1 (.int .i64 (ixE (idB n) xs 0)) ([.cells [.int .i64 n]] ++ [])) :=
  k_indexFuncE (idB n) hl (fun x K' hK' => c_isId hK' rfl) ⟨[0], rfl, ⟨⟨rfl, rfl⟩, trivial⟩, ⟨by simp, fitC_int n _, trivial⟩, by simp⟩
theorem c_ixId {h : List Ch} {K : KT} {xs : List Ent} {t g m : Nat} {n : Int} (H : K (.int .i64 (ixE (idB n) xs 0)) h) (o : hth h t = .cells [.int .i64 n]) (o1 : hth h g = .rows .ent xs) (s1 : m = xs.length) (s2 : xs.length ≤ 9223372036854775806) : Does Try.prog 43 [.sl g .ent 0 m, .fn 44 [.ptr t 0]] h K := by
  have hne : g ∉ [t] := by
    rw [List.mem_singleton]
    intro e
    rw [e, o] at o1
    cases o1
  exact frame_look (b_ixId xs n s2) o (by simp) (fitC_int n) (br_cons (br_full o1 s1 hne) (br_cons ⟨rfl, ⟨rfl, rfl⟩, trivial⟩ br_nil)) (.inr rfl) (fun _ => rfl) rfl H
abbrev i_ixId := Ctr.mk (i := 0) (g := 43) @c_ixId
attribute [instance] i_ixId
theorem del_rows {l X : List Ent} {i j : Nat} (hij : i < j) (hj : j ≤ l.length) : List.take (i - 0 + min (l.length - j) (List.drop j l).length) (List.take (i - 0) l ++ List.take (l.length - j) (List.drop j l) ++ X) = l.take i ++ l.drop j := by
  have e1 : List.take (l.length - j) (List.drop j l) = List.drop j l := List.take_of_length_le (by rw [List.length_drop]; exact Nat.le_refl _)
  rw [e1, Nat.sub_zero, List.length_drop, Nat.min_self]
  have e2 : (l.take i ++ l.drop j).length = i + (l.length - j) := by rw [List.length_append, List.length_take, List.length_drop]; omega
  rw [← e2]
  exact List.take_left
theorem b_sdel (l : List Ent) (i j : Nat) (hl : l.length ≤ 1099511627776) (hij : i < j) (hj : j ≤ l.length) : DoesK Try.prog 1 42 [.sl 0 .ent 0 l.length, .int .i64 i, .int .i64 j] [.rows .ent l] (EndF 1 (.sl 0 .ent 0 (l.take i ++ l.drop j).length) ([.rows .ent (l.take i ++ l.drop j)] ++ [])) := by
  refine DoesK.close ?_
  have d1 : decide ((i : Int) = j) = false := decide_eq_false (by omega)
  refine w_body (rs := [.tmp 6]) (tm := [.sl 0 .ent 0 l.length, .int .i64 i, .int .i64 j, .any, .any, .any, .any, .any, .any, .any, .any, .any, .any, .any, .any, .any, .any, .any, .any, .any, .any, .any, .any, .any, .any, .any, .any, .any, .any, .any, .any, .any, .any]) fn_42 rfl rfl rfl rfl fun R hR => ?_
  (have zx1 := @d1; all_goals (try ((first | (with_reducible refine wp_id ?_) | (with_reducible refine does_id ?_) | (with_reducible refine ops_id ?_)); refine walk ?_; (repeat' (first | exact trivial | with_reducible refine And.intro ?_ ?_)); all_goals (repeat (first | (with_reducible refine ImpB.mk fun hb => ?_) | (with_reducible refine ImpK.mk fun hK => ?_) | (with_reducible refine ImpF.mk fun hF => ?_) | (with_reducible refine ImpQ.mk fun hp => ?_) | (with_reducible refine AllE.mk fun p => ?_) | (with_reducible refine AllR.mk fun rest => ?_) | (with_reducible refine AllK.mk fun K => ?_))))); repeat' (with_reducible refine And.intro ?_ ?_))
  (all_goals first | exact Int.natCast_nonneg _ | exact Int.ofNat_lt.2 (by assumption) | assumption | omega | exact Nat.le_refl _ | (exfalso; simp at hb; done) | (simp only [go_sem, decide_true, decide_false, Int.reduceToNat, Nat.min_eq_left, Nat.min_eq_right, Int.reducePow, Nat.reducePow, Int.reduceLE, Int.reduceLT, Int.reduceMul, Int.reduceAdd, Int.reduceSub, Int.reduceNeg, Bool.not_true, Bool.not_false, Bool.not_not, ↓reduceIte, Nat.reduceAdd, Nat.reduceSub, Nat.reduceMul, Nat.reduceEqDiff, reduceCtorEq, Nat.reduceLT, Nat.reduceLeDiff, Nat.reduceGT]; done) | (unfold capM; omega) | (simp only [List.length_drop, List.length_take, List.length_append, List.length_cons, List.length_nil]; omega) | skip)
  · unfold capM
    simp only [List.length_drop]
    omega
  · rw [del_rows hij hj]
    (focus (refine ⟨_, _, Gh.refl, [0], rfl, ?_⟩; (refine ⟨?_, ?_, ?_⟩ <;> simp only [go_sem, List.range, List.range.loop, List.nodup_cons, List.nodup_nil, List.mem_cons, List.not_mem_nil, or_false, or_self, decide_true, decide_false, Int.reduceToNat, Nat.min_eq_left, Nat.min_eq_right, Int.reducePow, Nat.reducePow, Int.reduceLE, Int.reduceLT, Int.reduceMul, Int.reduceAdd, Int.reduceSub, Int.reduceNeg, Bool.not_true, Bool.not_false, Bool.not_not, ↓reduceIte, Nat.reduceAdd, Nat.reduceSub, Nat.reduceMul, Nat.reduceEqDiff, reduceCtorEq, Nat.reduceLT, Nat.reduceLeDiff, Nat.reduceGT]); (try any_goals (refine ⟨?_, ?_⟩)); (try any_goals (with_reducible rfl))))
    simp only [List.length_drop]
    omega
theorem c_sdel {h : List Ch} {K : KT} {l : List Ent} {t n : Nat} {i j : Nat} (H : K (.sl t .ent 0 (l.take i ++ l.drop j).length) (h.set t (.rows .ent (l.take i ++ l.drop j)))) (o : hth h t = .rows .ent l) (s1 : n = l.length) (s2 : l.length ≤ 1099511627776) (s3 : i < j) (s4 : j ≤ l.length) : Does Try.prog 42 [.sl t .ent 0 n, .int .i64 i, .int .i64 j] h K := by
  subst s1
  exact frame_obj0 (b_sdel l i j s2 s3 s4) o (by simp) (fitC_rows _ _) (br_cons (br_own rfl) (br_cons br_int (br_cons br_int br_nil))) (.inl rfl) (fun _ => rfl) rfl H
abbrev i_sdel := Ctr.mk (i := 0) (g := 42) @c_sdel
attribute [instance] i_sdel
theorem c_sdel01 {h : List Ch} {K : KT} {l : List Ent} {t n : Nat} (H : K (.sl t .ent 0 (l.drop 1).length) (h.set t (.rows .ent (l.drop 1)))) (o : hth h t = .rows .ent l) (s1 : n = l.length) (s2 : l.length ≤ 1099511627776) (s3 : 1 ≤ l.length) : Does Try.prog 42 [.sl t .ent 0 n, .int .i64 0, .int .i64 1] h K :=
  c_sdel (i := 0) (j := 1) H o s1 s2 (by decide) s3
abbrev i_sdel01 := Ctr.mk (i := 1) (g := 42) @c_sdel01
attribute [instance] i_sdel01
theorem b_sclI (l : List Ent) (hl : l.length ≤ 1099511627776) : DoesK Try.prog 1 45 [.sl 0 .ent 0 l.length] [.rows .ent l] (EndF 1 (.sl 1 .ent 0 l.length) ([.rows .ent l] ++ [.rows .ent l])) := by
  refine DoesK.close ?_
  refine w_body (rs := [.tmp 2]) (tm := [.sl 0 .ent 0 l.length, .any, .any, .any, .any, .any, .any, .any]) fn_45 rfl rfl rfl rfl fun R hR => ?_
  (all_goals (try ((first | (with_reducible refine wp_id ?_) | (with_reducible refine does_id ?_) | (with_reducible refine ops_id ?_)); refine walk ?_; (repeat' (first | exact trivial | with_reducible refine And.intro ?_ ?_)); all_goals (repeat (first | (with_reducible refine ImpB.mk fun hb => ?_) | (with_reducible refine ImpK.mk fun hK => ?_) | (with_reducible refine ImpF.mk fun hF => ?_) | (with_reducible refine ImpQ.mk fun hp => ?_) | (with_reducible refine AllE.mk fun p => ?_) | (with_reducible refine AllR.mk fun rest => ?_) | (with_reducible refine AllK.mk fun K => ?_))))); repeat' (with_reducible refine And.intro ?_ ?_))
  (all_goals first | exact Int.natCast_nonneg _ | exact Int.ofNat_lt.2 (by assumption) | assumption | omega | exact Nat.le_refl _ | (exfalso; simp at hb; done) | (simp only [go_sem, decide_true, decide_false, Int.reduceToNat, Nat.min_eq_left, Nat.min_eq_right, Int.reducePow, Nat.reducePow, Int.reduceLE, Int.reduceLT, Int.reduceMul, Int.reduceAdd, Int.reduceSub, Int.reduceNeg, Bool.not_true, Bool.not_false, Bool.not_not, ↓reduceIte, Nat.reduceAdd, Nat.reduceSub, Nat.reduceMul, Nat.reduceEqDiff, reduceCtorEq, Nat.reduceLT, Nat.reduceLeDiff, Nat.reduceGT]; done) | (unfold capM; omega) | (simp only [List.length_drop, List.length_take, List.length_append, List.length_cons, List.length_nil]; omega) | skip)
  · exact ⟨_, rfl⟩
  · have h0 : l = [] := List.eq_nil_of_length_eq_zero hb
    subst h0
    refine ⟨_, _, gh_adopt (s := 0) .ent trivial, [0, 1], rfl, ?ft⟩
    case' ft => (refine ⟨?_, ?_, ?_⟩ <;> simp only [go_sem, List.range, List.range.loop, List.nodup_cons, List.nodup_nil, List.mem_cons, List.not_mem_nil, or_false, or_self, decide_true, decide_false, Int.reduceToNat, Nat.min_eq_left, Nat.min_eq_right, Int.reducePow, Nat.reducePow, Int.reduceLE, Int.reduceLT, Int.reduceMul, Int.reduceAdd, Int.reduceSub, Int.reduceNeg, Bool.not_true, Bool.not_false, Bool.not_not, ↓reduceIte, Nat.reduceAdd, Nat.reduceSub, Nat.reduceMul, Nat.reduceEqDiff, reduceCtorEq, Nat.reduceLT, Nat.reduceLeDiff, Nat.reduceGT])
    all_goals rfl
  · (focus (refine ⟨_, _, Gh.refl, [0, 2], rfl, ?_⟩; (refine ⟨?_, ?_, ?_⟩ <;> simp only [go_sem, List.range, List.range.loop, List.nodup_cons, List.nodup_nil, List.mem_cons, List.not_mem_nil, or_false, or_self, decide_true, decide_false, Int.reduceToNat, Nat.min_eq_left, Nat.min_eq_right, Int.reducePow, Nat.reducePow, Int.reduceLE, Int.reduceLT, Int.reduceMul, Int.reduceAdd, Int.reduceSub, Int.reduceNeg, Bool.not_true, Bool.not_false, Bool.not_not, ↓reduceIte, Nat.reduceAdd, Nat.reduceSub, Nat.reduceMul, Nat.reduceEqDiff, reduceCtorEq, Nat.reduceLT, Nat.reduceLeDiff, Nat.reduceGT]); (try any_goals (refine ⟨?_, ?_⟩)); (try any_goals (with_reducible rfl))))
theorem c_sclI {h : List Ch} {K : KT} {l : List Ent} {t n : Nat} (H : K (.sl h.length .ent 0 l.length) (h ++ [.rows .ent l])) (o : hth h t = .rows .ent l) (s1 : n = l.length) (s2 : l.length ≤ 1099511627776) : Does Try.prog 45 [.sl t .ent 0 n] h K := by
  subst s1
  exact frame_obj (b_sclI l s2) o (by simp) (fitC_rows _ _) (br_cons (br_own rfl) br_nil) (.inl rfl) (fun _ => rfl) (fun _ => rfl) rfl (by rw [set_hth o (by simp)]; exact H)
abbrev i_sclI := Ctr.mk (i := 0) (g := 45) @c_sclI
attribute [instance] i_sclI
end Go.V

set_option maxRecDepth 100000
set_option maxHeartbeats 4000000
namespace Go.V
open Go.Proofs
def scC (most now next : Int) (o : List Bool) (g n : Nat) : List AV := [.bool true, .int .i64 most, .int .i64 now, .int .i64 next, .bool (o.getD 0 false), .bool (o.getD 1 false), .bool (o.getD 2 false), .bool (o.getD 3 false), .bool (o.getD 4 false), .bool (o.getD 5 false), .bool (o.getD 6 false), .bool (o.getD 7 false), .bool (o.getD 8 false), .bool (o.getD 9 false), .bool (o.getD 10 false), .bool (o.getD 11 false), .bool (o.getD 12 false), .bool (o.getD 13 false), .bool (o.getD 14 false), .bool (o.getD 15 false), .sl g .ent 0 n]
/-- a schedule: capacity, time, the next number, disabled groups, entries -/
def ScO (most now next : Int) (o : List Bool) (l : List Ent) : List Ch := [.cells (scC most now next o 1 l.length), .rows .ent l]
attribute [go_sem] ScO scC
def off0 : List Bool := List.replicate 16 false
section
attribute [local go_sem] off0
theorem b_snew (most : Int) : DoesK Try.prog 0 10 [.int .i64 most] [] (EndF 0 (.ptr 0 0) [.pack (ScO (min (max most 0) 256) 0 1 off0 [])]) := by
  refine DoesK.close ?_
  refine w_body (rs := [.tmp 2]) (tm := [.int .i64 most, .any, .any, .any, .any, .any, .any, .any]) fn_10 rfl rfl rfl rfl fun R hR => ?_
  (all_goals (try ((first | (with_reducible refine wp_id ?_) | (with_reducible refine does_id ?_) | (with_reducible refine ops_id ?_)); refine walk ?_; (repeat' (first | exact trivial | with_reducible refine And.intro ?_ ?_)); all_goals (repeat (first | (with_reducible refine ImpB.mk fun hb => ?_) | (with_reducible refine ImpK.mk fun hK => ?_) | (with_reducible refine ImpF.mk fun hF => ?_) | (with_reducible refine ImpQ.mk fun hp => ?_) | (with_reducible refine AllE.mk fun p => ?_) | (with_reducible refine AllR.mk fun rest => ?_) | (with_reducible refine AllK.mk fun K => ?_))))); repeat' (with_reducible refine And.intro ?_ ?_))
  refine ⟨_, _, Gh.trans (gh_adoptC (t := 0) (i := 20) .ent rfl trivial) (gh_close (t := 0) (ts := [1]) (l := ScO (min (max most 0) 256) 0 1 off0 []) ⟨⟨_, _, rfl⟩, ?fc, by simp⟩), [0], rfl, ?ft⟩
  case' fc => (refine ⟨?_, ?_, ?_⟩ <;> simp only [go_sem, List.range, List.range.loop, List.nodup_cons, List.nodup_nil, List.mem_cons, List.not_mem_nil, or_false, or_self, decide_true, decide_false, Int.reduceToNat, Nat.min_eq_left, Nat.min_eq_right, Int.reducePow, Nat.reducePow, Int.reduceLE, Int.reduceLT, Int.reduceMul, Int.reduceAdd, Int.reduceSub, Int.reduceNeg, Bool.not_true, Bool.not_false, Bool.not_not, ↓reduceIte, Nat.reduceAdd, Nat.reduceSub, Nat.reduceMul, Nat.reduceEqDiff, reduceCtorEq, Nat.reduceLT, Nat.reduceLeDiff, Nat.reduceGT])
  case' ft => (refine ⟨?_, ?_, ?_⟩ <;> simp only [go_sem, List.range, List.range.loop, List.nodup_cons, List.nodup_nil, List.mem_cons, List.not_mem_nil, or_false, or_self, decide_true, decide_false, Int.reduceToNat, Nat.min_eq_left, Nat.min_eq_right, Int.reducePow, Nat.reducePow, Int.reduceLE, Int.reduceLT, Int.reduceMul, Int.reduceAdd, Int.reduceSub, Int.reduceNeg, Bool.not_true, Bool.not_false, Bool.not_not, ↓reduceIte, Nat.reduceAdd, Nat.reduceSub, Nat.reduceMul, Nat.reduceEqDiff, reduceCtorEq, Nat.reduceLT, Nat.reduceLeDiff, Nat.reduceGT])
  all_goals first | rfl | (simp; done) | decide
end
theorem c_snew {h : List Ch} {K : KT} {most : Int} (H : K (.ptr h.length 0) (h ++ [.pack (ScO (min (max most 0) 256) 0 1 off0 [])])) : Does Try.prog 10 [.int .i64 most] h K :=
  frame_new (b_snew most) (br_cons br_int br_nil) (.inl rfl) (fun _ => rfl) (by simp [renA, rhoC]) H
abbrev i_snew := Ctr.mk (i := 0) (g := 10) @c_snew
attribute [instance] i_snew
section
variable (most now next : Int) (o : List Bool) (l : List Ent)
theorem b_sok : DoesK Try.prog 1 36 [.ptr 0 0] [.pack (ScO most now next o l)] (EndF 1 (.bool true) ([.pack (ScO most now next o l)] ++ [])) := by
  refine DoesK.close ?_
  refine w_body (rs := [.tmp 2]) (tm := [.ptr 0 0, .any, .any, .any, .any, .any, .any, .any, .any, .any, .any]) fn_36 rfl rfl rfl rfl fun R hR => ?_
  (all_goals (try ((first | (with_reducible refine wp_id ?_) | (with_reducible refine does_id ?_) | (with_reducible refine ops_id ?_)); refine walk ?_; (repeat' (first | exact trivial | with_reducible refine And.intro ?_ ?_)); all_goals (repeat (first | (with_reducible refine ImpB.mk fun hb => ?_) | (with_reducible refine ImpK.mk fun hK => ?_) | (with_reducible refine ImpF.mk fun hF => ?_) | (with_reducible refine ImpQ.mk fun hp => ?_) | (with_reducible refine AllE.mk fun p => ?_) | (with_reducible refine AllR.mk fun rest => ?_) | (with_reducible refine AllK.mk fun K => ?_))))); repeat' (with_reducible refine And.intro ?_ ?_))
  (focus (refine ⟨_, _, gh_close (t := 0) (ts := [1]) (l := ScO most now next o l) ⟨⟨_, _, rfl⟩, ?_, by simp⟩, [0], rfl, ?_⟩; all_goals (refine ⟨?_, ?_, ?_⟩ <;> simp only [go_sem, List.range, List.range.loop, List.nodup_cons, List.nodup_nil, List.mem_cons, List.not_mem_nil, or_false, or_self, decide_true, decide_false, Int.reduceToNat, Nat.min_eq_left, Nat.min_eq_right, Int.reducePow, Nat.reducePow, Int.reduceLE, Int.reduceLT, Int.reduceMul, Int.reduceAdd, Int.reduceSub, Int.reduceNeg, Bool.not_true, Bool.not_false, Bool.not_not, ↓reduceIte, Nat.reduceAdd, Nat.reduceSub, Nat.reduceMul, Nat.reduceEqDiff, reduceCtorEq, Nat.reduceLT, Nat.reduceLeDiff, Nat.reduceGT]); (try any_goals (refine ⟨?_, ?_⟩)); (try any_goals (with_reducible rfl))))
end
theorem c_sok {h : List Ch} {K : KT} {t : Nat} {most now next : Int} {o : List Bool} {l : List Ent} (H : K (.bool true) h) (o1 : hth h t = .pack (ScO most now next o l)) : Does Try.prog 36 [.ptr t 0] h K :=
  frame_look (b_sok most now next o l) o1 (by simp) (fitC_pack _) (br_cons (br_ptr rfl) br_nil) (.inl rfl) (fun _ => rfl) rfl H
abbrev i_sok := Ctr.mk (i := 0) (g := 36) @c_sok
attribute [instance] i_sok
/-- the time, as the calls gave it -/
def passT (now n : Int) : Int := if now < n ∧ n ≤ 1099511627776 then n else now
theorem b_spass (most now next : Int) (o : List Bool) (l : List Ent) (n : Int) : DoesK Try.prog 1 38 [.ptr 0 0, .int .i64 n] [.pack (ScO most now next o l)] (EndF 1 (.tup []) ([.pack (ScO most (passT now n) next o l)] ++ [])) := by
  refine DoesK.close ?_
  by_cases c1 : now < n
  · have d1 : decide (now < n) = true := decide_eq_true c1
    by_cases c2 : n ≤ 1099511627776
    · have d2 : decide (n ≤ 1099511627776) = true := decide_eq_true c2
      have e : passT now n = n := if_pos ⟨c1, c2⟩
      rw [e]
      refine w_body (rs := []) (tm := [.ptr 0 0, .int .i64 n, .any, .any, .any, .any, .any, .any, .any, .any, .any, .any, .any, .any, .any, .any, .any, .any]) fn_38 rfl rfl rfl rfl fun R hR => ?_
      (have zx1 := @d1; have zx2 := @d2; all_goals (try ((first | (with_reducible refine wp_id ?_) | (with_reducible refine does_id ?_) | (with_reducible refine ops_id ?_)); refine walk ?_; (repeat' (first | exact trivial | with_reducible refine And.intro ?_ ?_)); all_goals (repeat (first | (with_reducible refine ImpB.mk fun hb => ?_) | (with_reducible refine ImpK.mk fun hK => ?_) | (with_reducible refine ImpF.mk fun hF => ?_) | (with_reducible refine ImpQ.mk fun hp => ?_) | (with_reducible refine AllE.mk fun p => ?_) | (with_reducible refine AllR.mk fun rest => ?_) | (with_reducible refine AllK.mk fun K => ?_))))); repeat' (with_reducible refine And.intro ?_ ?_))
      (focus (refine ⟨_, _, gh_close (t := 0) (ts := [1]) (l := ScO most n next o l) ⟨⟨_, _, rfl⟩, ?_, by simp⟩, [0], rfl, ?_⟩; all_goals (refine ⟨?_, ?_, ?_⟩ <;> simp only [go_sem, List.range, List.range.loop, List.nodup_cons, List.nodup_nil, List.mem_cons, List.not_mem_nil, or_false, or_self, decide_true, decide_false, Int.reduceToNat, Nat.min_eq_left, Nat.min_eq_right, Int.reducePow, Nat.reducePow, Int.reduceLE, Int.reduceLT, Int.reduceMul, Int.reduceAdd, Int.reduceSub, Int.reduceNeg, Bool.not_true, Bool.not_false, Bool.not_not, ↓reduceIte, Nat.reduceAdd, Nat.reduceSub, Nat.reduceMul, Nat.reduceEqDiff, reduceCtorEq, Nat.reduceLT, Nat.reduceLeDiff, Nat.reduceGT]); (try any_goals (refine ⟨?_, ?_⟩)); (try any_goals (with_reducible rfl))))
    · have d2 : decide (n ≤ 1099511627776) = false := decide_eq_false c2
      have e : passT now n = now := if_neg fun q => c2 q.2
      rw [e]
      refine w_body (rs := []) (tm := [.ptr 0 0, .int .i64 n, .any, .any, .any, .any, .any, .any, .any, .any, .any, .any, .any, .any, .any, .any, .any, .any]) fn_38 rfl rfl rfl rfl fun R hR => ?_
      (have zx1 := @d1; have zx2 := @d2; all_goals (try ((first | (with_reducible refine wp_id ?_) | (with_reducible refine does_id ?_) | (with_reducible refine ops_id ?_)); refine walk ?_; (repeat' (first | exact trivial | with_reducible refine And.intro ?_ ?_)); all_goals (repeat (first | (with_reducible refine ImpB.mk fun hb => ?_) | (with_reducible refine ImpK.mk fun hK => ?_) | (with_reducible refine ImpF.mk fun hF => ?_) | (with_reducible refine ImpQ.mk fun hp => ?_) | (with_reducible refine AllE.mk fun p => ?_) | (with_reducible refine AllR.mk fun rest => ?_) | (with_reducible refine AllK.mk fun K => ?_))))); repeat' (with_reducible refine And.intro ?_ ?_))
      (focus (refine ⟨_, _, gh_close (t := 0) (ts := [1]) (l := ScO most now next o l) ⟨⟨_, _, rfl⟩, ?_, by simp⟩, [0], rfl, ?_⟩; all_goals (refine ⟨?_, ?_, ?_⟩ <;> simp only [go_sem, List.range, List.range.loop, List.nodup_cons, List.nodup_nil, List.mem_cons, List.not_mem_nil, or_false, or_self, decide_true, decide_false, Int.reduceToNat, Nat.min_eq_left, Nat.min_eq_right, Int.reducePow, Nat.reducePow, Int.reduceLE, Int.reduceLT, Int.reduceMul, Int.reduceAdd, Int.reduceSub, Int.reduceNeg, Bool.not_true, Bool.not_false, Bool.not_not, ↓reduceIte, Nat.reduceAdd, Nat.reduceSub, Nat.reduceMul, Nat.reduceEqDiff, reduceCtorEq, Nat.reduceLT, Nat.reduceLeDiff, Nat.reduceGT]); (try any_goals (refine ⟨?_, ?_⟩)); (try any_goals (with_reducible rfl))))
  · have d1 : decide (now < n) = false := decide_eq_false c1
    have e : passT now n = now := if_neg fun q => c1 q.1
    rw [e]
    refine w_body (rs := []) (tm := [.ptr 0 0, .int .i64 n, .any, .any, .any, .any, .any, .any, .any, .any, .any, .any, .any, .any, .any, .any, .any, .any]) fn_38 rfl rfl rfl rfl fun R hR => ?_
    (have zx1 := @d1; all_goals (try ((first | (with_reducible refine wp_id ?_) | (with_reducible refine does_id ?_) | (with_reducible refine ops_id ?_)); refine walk ?_; (repeat' (first | exact trivial | with_reducible refine And.intro ?_ ?_)); all_goals (repeat (first | (with_reducible refine ImpB.mk fun hb => ?_) | (with_reducible refine ImpK.mk fun hK => ?_) | (with_reducible refine ImpF.mk fun hF => ?_) | (with_reducible refine ImpQ.mk fun hp => ?_) | (with_reducible refine AllE.mk fun p => ?_) | (with_reducible refine AllR.mk fun rest => ?_) | (with_reducible refine AllK.mk fun K => ?_))))); repeat' (with_reducible refine And.intro ?_ ?_))
    (focus (refine ⟨_, _, gh_close (t := 0) (ts := [1]) (l := ScO most now next o l) ⟨⟨_, _, rfl⟩, ?_, by simp⟩, [0], rfl, ?_⟩; all_goals (refine ⟨?_, ?_, ?_⟩ <;> simp only [go_sem, List.range, List.range.loop, List.nodup_cons, List.nodup_nil, List.mem_cons, List.not_mem_nil, or_false, or_self, decide_true, decide_false, Int.reduceToNat, Nat.min_eq_left, Nat.min_eq_right, Int.reducePow, Nat.reducePow, Int.reduceLE, Int.reduceLT, Int.reduceMul, Int.reduceAdd, Int.reduceSub, Int.reduceNeg, Bool.not_true, Bool.not_false, Bool.not_not, ↓reduceIte, Nat.reduceAdd, Nat.reduceSub, Nat.reduceMul, Nat.reduceEqDiff, reduceCtorEq, Nat.reduceLT, Nat.reduceLeDiff, Nat.reduceGT]); (try any_goals (refine ⟨?_, ?_⟩)); (try any_goals (with_reducible rfl))))
theorem c_spass {h : List Ch} {K : KT} {t : Nat} {most now next n : Int} {o : List Bool} {l : List Ent} (H : K (.tup []) (h.set t (.pack (ScO most (passT now n) next o l)))) (o1 : hth h t = .pack (ScO most now next o l)) : Does Try.prog 38 [.ptr t 0, .int .i64 n] h K :=
  frame_obj0 (b_spass most now next o l n) o1 (by simp) (fitC_pack _) (br_cons (br_ptr rfl) (br_cons br_int br_nil)) (.inl rfl) (fun _ => rfl) rfl H
/-! ### The order of execution -/
abbrev i_spass := Ctr.mk (i := 0) (g := 38) @c_spass
attribute [instance] i_spass
def srtE (l : List Ent) : List Ent := l.mergeSort fun x y => !befE y x
theorem befE_tot (x y : Ent) : befE x y = true ∨ befE y x = true ∨ (x.time = y.time ∧ x.id = y.id) := by
  unfold befE
  simp only [decide_eq_true_eq]
  omega
theorem srt_perm (l : List Ent) : (srtE l).Perm l := List.mergeSort_perm _ _
theorem srt_len (l : List Ent) : (srtE l).length = l.length := (srt_perm l).length_eq
theorem srt_pw (l : List Ent) : (srtE l).Pairwise fun x y => befE y x = false := by
  have h := List.pairwise_mergeSort (le := fun x y : Ent => !befE y x) (fun a b c h1 h2 => by
    simp only [befE, Bool.not_eq_true', decide_eq_false_iff_not] at *; omega) (fun a b => by
    simp only [befE, Bool.or_eq_true, Bool.not_eq_true', decide_eq_false_iff_not]; omega) l
  exact h.imp fun h => by simpa using h
theorem pw_uniq {l m : List Ent} (hp : l.Perm m) (hn : (l.map (·.id)).Nodup) (h1 : l.Pairwise fun x y => befE y x = false) (h2 : m.Pairwise fun x y => befE y x = false) : l = m := by
  refine List.Perm.eq_of_pairwise (le := fun x y => befE y x = false) (fun a b ha hb q1 q2 => ?_) h1 h2 hp
  have ht := befE_tot a b
  rw [q1, q2] at ht
  simp only [Bool.false_eq_true, false_or] at ht
  have hb' : b ∈ l := hp.mem_iff.2 hb
  rcases List.getElem_of_mem ha with ⟨i, hi, rfl⟩
  rcases List.getElem_of_mem hb' with ⟨j, hj, rfl⟩
  have hid := ht.2
  by_cases e : i = j
  · subst e; rfl
  · exfalso
    rw [List.nodup_iff_pairwise_ne, List.pairwise_map, List.pairwise_iff_getElem] at hn
    rcases Nat.lt_or_gt_of_ne e with q | q
    · exact hn i j hi hj q hid
    · exact hn j i hj hi q hid.symm
theorem srt_eq {l m : List Ent} (hp : m.Perm l) (hn : (l.map (·.id)).Nodup) (h : m.Pairwise fun x y => befE y x = false) : m = srtE l :=
  pw_uniq (hp.trans (srt_perm l).symm) (((hp.map _).nodup_iff).2 hn) h (srt_pw l)
theorem b_ssort (most now next : Int) (o : List Bool) (l : List Ent) (hl : l.length ≤ 1099511627776) (hn : (l.map (·.id)).Nodup) : DoesK Try.prog 1 41 [.ptr 0 0] [.pack (ScO most now next o l)] (EndF 1 (.tup []) ([.pack (ScO most now next o (srtE l))] ++ [])) := by
  refine DoesK.close ?_
  have hsl := srt_len l
  refine w_body (rs := []) (tm := [.ptr 0 0, .any, .any, .any, .any, .any, .any]) fn_41 rfl rfl rfl rfl fun R hR => ?_
  (all_goals (try ((first | (with_reducible refine wp_id ?_) | (with_reducible refine does_id ?_) | (with_reducible refine ops_id ?_)); refine walk ?_; (repeat' (first | exact trivial | with_reducible refine And.intro ?_ ?_)); all_goals (repeat (first | (with_reducible refine ImpB.mk fun hb => ?_) | (with_reducible refine ImpK.mk fun hK => ?_) | (with_reducible refine ImpF.mk fun hF => ?_) | (with_reducible refine ImpQ.mk fun hp => ?_) | (with_reducible refine AllE.mk fun p => ?_) | (with_reducible refine AllR.mk fun rest => ?_) | (with_reducible refine AllK.mk fun K => ?_))))); repeat' (with_reducible refine And.intro ?_ ?_))
  refine c_sortE (xs := l) (fun ys hp hs => ?_) rfl rfl hl
  have hy := srt_eq hp hn hs
  subst hy
  refine hK _ _ ?_
  (intro tm' e'; simp only [putA, List.set_cons_succ, List.set_cons_zero] at e'; subst e')
  simp only [go_sem, decide_true, decide_false, Int.reduceToNat, Nat.min_eq_left, Nat.min_eq_right, Int.reducePow, Nat.reducePow, Int.reduceLE, Int.reduceLT, Int.reduceMul, Int.reduceAdd, Int.reduceSub, Int.reduceNeg, Bool.not_true, Bool.not_false, Bool.not_not, ↓reduceIte, Nat.reduceAdd, Nat.reduceSub, Nat.reduceMul, Nat.reduceEqDiff, reduceCtorEq, Nat.reduceLT, Nat.reduceLeDiff, Nat.reduceGT]
  (all_goals (try ((first | (with_reducible refine wp_id ?_) | (with_reducible refine does_id ?_) | (with_reducible refine ops_id ?_)); refine walk ?_; (repeat' (first | exact trivial | with_reducible refine And.intro ?_ ?_)); all_goals (repeat (first | (with_reducible refine ImpB.mk fun hb => ?_) | (with_reducible refine ImpK.mk fun hK => ?_) | (with_reducible refine ImpF.mk fun hF => ?_) | (with_reducible refine ImpQ.mk fun hp => ?_) | (with_reducible refine AllE.mk fun p => ?_) | (with_reducible refine AllR.mk fun rest => ?_) | (with_reducible refine AllK.mk fun K => ?_))))); repeat' (with_reducible refine And.intro ?_ ?_))
  (focus (refine ⟨_, _, gh_close (t := 0) (ts := [1]) (l := ScO most now next o (srtE l)) ⟨⟨_, _, rfl⟩, ?_, by simp⟩, [0], rfl, ?_⟩; all_goals (refine ⟨?_, ?_, ?_⟩ <;> simp only [go_sem, List.range, List.range.loop, List.nodup_cons, List.nodup_nil, List.mem_cons, List.not_mem_nil, or_false, or_self, decide_true, decide_false, Int.reduceToNat, Nat.min_eq_left, Nat.min_eq_right, Int.reducePow, Nat.reducePow, Int.reduceLE, Int.reduceLT, Int.reduceMul, Int.reduceAdd, Int.reduceSub, Int.reduceNeg, Bool.not_true, Bool.not_false, Bool.not_not, ↓reduceIte, Nat.reduceAdd, Nat.reduceSub, Nat.reduceMul, Nat.reduceEqDiff, reduceCtorEq, Nat.reduceLT, Nat.reduceLeDiff, Nat.reduceGT]); (try any_goals (refine ⟨?_, ?_⟩)); (try any_goals (with_reducible rfl))))
  all_goals first | exact hsl.symm | exact hsl | rfl | skip
theorem c_ssort {h : List Ch} {K : KT} {t : Nat} {most now next : Int} {o : List Bool} {l : List Ent} (H : K (.tup []) (h.set t (.pack (ScO most now next o (srtE l))))) (o1 : hth h t = .pack (ScO most now next o l)) (s1 : l.length ≤ 1099511627776) (s2 : (l.map (·.id)).Nodup) : Does Try.prog 41 [.ptr t 0] h K :=
  frame_obj0 (b_ssort most now next o l s1 s2) o1 (by simp) (fitC_pack _) (br_cons (br_ptr rfl) br_nil) (.inl rfl) (fun _ => rfl) rfl H
end Go.V

set_option maxRecDepth 100000
set_option maxHeartbeats 8000000
namespace Go.V
open Go.Proofs
def insErr (most now next : Int) (n : Nat) (t g : Int) (c : Cmd) : Int :=
  if ¬ (0 ≤ g ∧ g < 16) ∨ validC c = false then 1 else if t ≤ now ∨ 1099511627776 < t then 10 else if most ≤ n ∨ 2147483648 < next then 7 else 0
def insNext (e next : Int) : Int := if e = 0 then next + 1 else next
def insIdE (e next : Int) : Int := if e = 0 then next else 0
def insLst (e : Int) (l : List Ent) (x : Ent) : List Ent := if e = 0 then srtE (l ++ [x]) else l
theorem ins_bad {most now next : Int} {n : Nat} {t g : Int} {c : Cmd} {l : List Ent} {x : Ent} {e : Int} (h : insErr most now next n t g c = e) (he : e ≠ 0) : insNext e next = next ∧ insIdE e next = 0 ∧ insLst e l x = l := by
  unfold insNext insIdE insLst
  rw [if_neg he, if_neg he, if_neg he]
  exact ⟨rfl, rfl, rfl⟩
theorem shut_sc {h : List Ch} {t g n : Nat} {most now next : Int} {o : List Bool} {l : List Ent} (o0 : hth h t = .cells (scC most now next o g n)) (o1 : hth h g = .rows .ent l) (e : n = l.length) : Shut h t [g] (ScO most now next o l) := by
  subst e
  have h1 : t < h.length := hth_lt (by rw [o0]; simp)
  have h2 : g < h.length := hth_lt (by rw [o1]; simp)
  have hne : t ≠ g := fun e => by subst e; rw [o0] at o1; cases o1
  refine ⟨⟨_, _, rfl⟩, ?_, by simp [hne]⟩
  simp only [ScO, fitHs, o0, o1, fitC, asM_self]
  exact ⟨h1, by simp [scC, fitL, fitA], h2, rfl, trivial⟩
theorem c_ssort_o {h : List Ch} {K : KT} {t g n : Nat} {most now next : Int} {off : List Bool} {l : List Ent} (H : K (.tup []) ((closeH h t [g] (ScO most now next off l)).set t (.pack (ScO most now next off (srtE l))))) (o : hth h t = .cells (scC most now next off g n)) (o1 : hth h g = .rows .ent l) (s1 : l.length ≤ 1099511627776) (s2 : (l.map (·.id)).Nodup) (s3 : n = l.length) : Does Try.prog 41 [.ptr t 0] h K := by
  refine Does.ghost (gh_close (shut_sc o o1 s3)) (c_ssort H ?_ s1 s2)
  have h1 : t < h.length := hth_lt (by rw [o]; simp)
  unfold closeH
  rw [hth_set_eq (by rw [goneH_len]; exact h1)]
abbrev i_ssort_o := Ctr.mk (i := 1) (g := 41) @c_ssort_o
attribute [instance] i_ssort_o
theorem b_sins (most now next : Int) (o : List Bool) (l : List Ent) (n t g : Int) (c : Cmd) (hl : l.length ≤ 1000000) (hn : ((l ++ [(⟨next, t, g, c⟩ : Ent)]).map (·.id)).Nodup) (hnx : 0 ≤ next ∧ next ≤ 9223372036854775806) (h1 : c.args.length ≤ 1099511627776) (h2 : c.data.length ≤ 1099511627776) :
    DoesK Try.prog 1 17 [.ptr 0 0, .int .i64 n, .int .i64 t, .int .i64 g, .agg (cmdL c)] [.pack (ScO most now next o l)]
      (EndF 1 (.tup [.int .i64 (insIdE (insErr most (passT now n) next l.length t g c) next), .int .i64 (insErr most (passT now n) next l.length t g c)]) ([.pack (ScO most (passT now n) (insNext (insErr most (passT now n) next l.length t g c) next) o (insLst (insErr most (passT now n) next l.length t g c) l ⟨next, t, g, c⟩))] ++ [])) := by
  refine DoesK.close ?_
  obtain ⟨nw, hnw⟩ : ∃ nw, passT now n = nw := ⟨_, rfl⟩
  rw [hnw]
  by_cases c1 : 0 ≤ g ∧ g < 16
  · have d1 : (decide (0 ≤ g) && decide (g < 16)) = true := by rw [decide_eq_true c1.1, decide_eq_true c1.2]; rfl
    cases hv : validC c
    · have e0 : insErr most nw next l.length t g c = 1 := by unfold insErr; rw [if_pos (.inr hv)]
      have hb := ins_bad (l := l) (x := ⟨next, t, g, c⟩) e0 (by decide)
      rw [e0, hb.1, hb.2.1, hb.2.2]
      refine w_body (rs := [.tmp 10, .tmp 11]) (tm := [.ptr 0 0, .int .i64 n, .int .i64 t, .int .i64 g, .agg (cmdL c), .any, .any, .any, .any, .any, .any, .any, .any, .any, .any, .any, .any, .any, .any, .any, .any, .any, .any, .any, .any, .any, .any, .any, .any, .any, .any, .any, .any, .any, .any, .any, .any, .any, .any, .any, .any, .any, .any, .any, .any, .any, .any, .any, .any, .any, .any, .any, .any, .any, .any, .any, .any, .any, .any, .any, .any, .any, .any, .any, .any, .any, .any, .any, .any, .any, .any, .any, .any, .any, .any, .any, .any, .any, .any, .any, .any, .any, .any, .any, .any, .any]) fn_17 rfl rfl rfl rfl fun R hR => ?_
      (have zx1 := @hnw; have zx2 := @d1; have zx3 := @hv; all_goals (try ((first | (with_reducible refine wp_id ?_) | (with_reducible refine does_id ?_) | (with_reducible refine ops_id ?_)); refine walk ?_; (repeat' (first | exact trivial | with_reducible refine And.intro ?_ ?_)); all_goals (repeat (first | (with_reducible refine ImpB.mk fun hb => ?_) | (with_reducible refine ImpK.mk fun hK => ?_) | (with_reducible refine ImpF.mk fun hF => ?_) | (with_reducible refine ImpQ.mk fun hp => ?_) | (with_reducible refine AllE.mk fun p => ?_) | (with_reducible refine AllR.mk fun rest => ?_) | (with_reducible refine AllK.mk fun K => ?_))))); repeat' (with_reducible refine And.intro ?_ ?_))
      (all_goals first | exact Int.natCast_nonneg _ | exact Int.ofNat_lt.2 (by assumption) | assumption | omega | exact Nat.le_refl _ | (exfalso; simp at hb; done) | (simp only [go_sem, decide_true, decide_false, Int.reduceToNat, Nat.min_eq_left, Nat.min_eq_right, Int.reducePow, Nat.reducePow, Int.reduceLE, Int.reduceLT, Int.reduceMul, Int.reduceAdd, Int.reduceSub, Int.reduceNeg, Bool.not_true, Bool.not_false, Bool.not_not, ↓reduceIte, Nat.reduceAdd, Nat.reduceSub, Nat.reduceMul, Nat.reduceEqDiff, reduceCtorEq, Nat.reduceLT, Nat.reduceLeDiff, Nat.reduceGT]; done) | (unfold capM; omega) | (simp only [List.length_drop, List.length_take, List.length_append, List.length_cons, List.length_nil]; omega) | skip)
      (focus (refine ⟨_, _, Gh.refl, [0], rfl, ?_⟩; (refine ⟨?_, ?_, ?_⟩ <;> simp only [go_sem, List.range, List.range.loop, List.nodup_cons, List.nodup_nil, List.mem_cons, List.not_mem_nil, or_false, or_self, decide_true, decide_false, Int.reduceToNat, Nat.min_eq_left, Nat.min_eq_right, Int.reducePow, Nat.reducePow, Int.reduceLE, Int.reduceLT, Int.reduceMul, Int.reduceAdd, Int.reduceSub, Int.reduceNeg, Bool.not_true, Bool.not_false, Bool.not_not, ↓reduceIte, Nat.reduceAdd, Nat.reduceSub, Nat.reduceMul, Nat.reduceEqDiff, reduceCtorEq, Nat.reduceLT, Nat.reduceLeDiff, Nat.reduceGT]); (try any_goals (refine ⟨?_, ?_⟩)); (try any_goals (with_reducible rfl))))
    · have hc1 : ¬ (¬ (0 ≤ g ∧ g < 16) ∨ validC c = false) := by rw [hv]; rintro (q | q); exact q c1; cases q
      by_cases c2 : t ≤ nw
      · have d2 : decide (t ≤ nw) = true := decide_eq_true c2
        have e0 : insErr most nw next l.length t g c = 10 := by unfold insErr; rw [if_neg hc1, if_pos (.inl c2)]
        have hb := ins_bad (l := l) (x := ⟨next, t, g, c⟩) e0 (by decide)
        rw [e0, hb.1, hb.2.1, hb.2.2]
        refine w_body (rs := [.tmp 10, .tmp 11]) (tm := [.ptr 0 0, .int .i64 n, .int .i64 t, .int .i64 g, .agg (cmdL c), .any, .any, .any, .any, .any, .any, .any, .any, .any, .any, .any, .any, .any, .any, .any, .any, .any, .any, .any, .any, .any, .any, .any, .any, .any, .any, .any, .any, .any, .any, .any, .any, .any, .any, .any, .any, .any, .any, .any, .any, .any, .any, .any, .any, .any, .any, .any, .any, .any, .any, .any, .any, .any, .any, .any, .any, .any, .any, .any, .any, .any, .any, .any, .any, .any, .any, .any, .any, .any, .any, .any, .any, .any, .any, .any, .any, .any, .any, .any, .any, .any]) fn_17 rfl rfl rfl rfl fun R hR => ?_
        (have zx1 := @hnw; have zx2 := @d1; have zx3 := @hv; have zx4 := @d2; all_goals (try ((first | (with_reducible refine wp_id ?_) | (with_reducible refine does_id ?_) | (with_reducible refine ops_id ?_)); refine walk ?_; (repeat' (first | exact trivial | with_reducible refine And.intro ?_ ?_)); all_goals (repeat (first | (with_reducible refine ImpB.mk fun hb => ?_) | (with_reducible refine ImpK.mk fun hK => ?_) | (with_reducible refine ImpF.mk fun hF => ?_) | (with_reducible refine ImpQ.mk fun hp => ?_) | (with_reducible refine AllE.mk fun p => ?_) | (with_reducible refine AllR.mk fun rest => ?_) | (with_reducible refine AllK.mk fun K => ?_))))); repeat' (with_reducible refine And.intro ?_ ?_))
        (all_goals first | exact Int.natCast_nonneg _ | exact Int.ofNat_lt.2 (by assumption) | assumption | omega | exact Nat.le_refl _ | (exfalso; simp at hb; done) | (simp only [go_sem, decide_true, decide_false, Int.reduceToNat, Nat.min_eq_left, Nat.min_eq_right, Int.reducePow, Nat.reducePow, Int.reduceLE, Int.reduceLT, Int.reduceMul, Int.reduceAdd, Int.reduceSub, Int.reduceNeg, Bool.not_true, Bool.not_false, Bool.not_not, ↓reduceIte, Nat.reduceAdd, Nat.reduceSub, Nat.reduceMul, Nat.reduceEqDiff, reduceCtorEq, Nat.reduceLT, Nat.reduceLeDiff, Nat.reduceGT]; done) | (unfold capM; omega) | (simp only [List.length_drop, List.length_take, List.length_append, List.length_cons, List.length_nil]; omega) | skip)
        (focus (refine ⟨_, _, gh_close (t := 0) (ts := [2]) (l := ScO most nw next o l) ⟨⟨_, _, rfl⟩, ?_, by simp⟩, [0], rfl, ?_⟩; all_goals (refine ⟨?_, ?_, ?_⟩ <;> simp only [go_sem, List.range, List.range.loop, List.nodup_cons, List.nodup_nil, List.mem_cons, List.not_mem_nil, or_false, or_self, decide_true, decide_false, Int.reduceToNat, Nat.min_eq_left, Nat.min_eq_right, Int.reducePow, Nat.reducePow, Int.reduceLE, Int.reduceLT, Int.reduceMul, Int.reduceAdd, Int.reduceSub, Int.reduceNeg, Bool.not_true, Bool.not_false, Bool.not_not, ↓reduceIte, Nat.reduceAdd, Nat.reduceSub, Nat.reduceMul, Nat.reduceEqDiff, reduceCtorEq, Nat.reduceLT, Nat.reduceLeDiff, Nat.reduceGT]); (try any_goals (refine ⟨?_, ?_⟩)); (try any_goals (with_reducible rfl))))
      · have d2 : decide (t ≤ nw) = false := decide_eq_false c2
        by_cases c3 : 1099511627776 < t
        · have d3 : decide (1099511627776 < t) = true := decide_eq_true c3
          have e0 : insErr most nw next l.length t g c = 10 := by unfold insErr; rw [if_neg hc1, if_pos (.inr c3)]
          have hb := ins_bad (l := l) (x := ⟨next, t, g, c⟩) e0 (by decide)
          rw [e0, hb.1, hb.2.1, hb.2.2]
          refine w_body (rs := [.tmp 10, .tmp 11]) (tm := [.ptr 0 0, .int .i64 n, .int .i64 t, .int .i64 g, .agg (cmdL c), .any, .any, .any, .any, .any, .any, .any, .any, .any, .any, .any, .any, .any, .any, .any, .any, .any, .any, .any, .any, .any, .any, .any, .any, .any, .any, .any, .any, .any, .any, .any, .any, .any, .any, .any, .any, .any, .any, .any, .any, .any, .any, .any, .any, .any, .any, .any, .any, .any, .any, .any, .any, .any, .any, .any, .any, .any, .any, .any, .any, .any, .any, .any, .any, .any, .any, .any, .any, .any, .any, .any, .any, .any, .any, .any, .any, .any, .any, .any, .any, .any]) fn_17 rfl rfl rfl rfl fun R hR => ?_
          (have zx1 := @hnw; have zx2 := @d1; have zx3 := @hv; have zx4 := @d2; have zx5 := @d3; all_goals (try ((first | (with_reducible refine wp_id ?_) | (with_reducible refine does_id ?_) | (with_reducible refine ops_id ?_)); refine walk ?_; (repeat' (first | exact trivial | with_reducible refine And.intro ?_ ?_)); all_goals (repeat (first | (with_reducible refine ImpB.mk fun hb => ?_) | (with_reducible refine ImpK.mk fun hK => ?_) | (with_reducible refine ImpF.mk fun hF => ?_) | (with_reducible refine ImpQ.mk fun hp => ?_) | (with_reducible refine AllE.mk fun p => ?_) | (with_reducible refine AllR.mk fun rest => ?_) | (with_reducible refine AllK.mk fun K => ?_))))); repeat' (with_reducible refine And.intro ?_ ?_))
          (all_goals first | exact Int.natCast_nonneg _ | exact Int.ofNat_lt.2 (by assumption) | assumption | omega | exact Nat.le_refl _ | (exfalso; simp at hb; done) | (simp only [go_sem, decide_true, decide_false, Int.reduceToNat, Nat.min_eq_left, Nat.min_eq_right, Int.reducePow, Nat.reducePow, Int.reduceLE, Int.reduceLT, Int.reduceMul, Int.reduceAdd, Int.reduceSub, Int.reduceNeg, Bool.not_true, Bool.not_false, Bool.not_not, ↓reduceIte, Nat.reduceAdd, Nat.reduceSub, Nat.reduceMul, Nat.reduceEqDiff, reduceCtorEq, Nat.reduceLT, Nat.reduceLeDiff, Nat.reduceGT]; done) | (unfold capM; omega) | (simp only [List.length_drop, List.length_take, List.length_append, List.length_cons, List.length_nil]; omega) | skip)
          (focus (refine ⟨_, _, gh_close (t := 0) (ts := [2]) (l := ScO most nw next o l) ⟨⟨_, _, rfl⟩, ?_, by simp⟩, [0], rfl, ?_⟩; all_goals (refine ⟨?_, ?_, ?_⟩ <;> simp only [go_sem, List.range, List.range.loop, List.nodup_cons, List.nodup_nil, List.mem_cons, List.not_mem_nil, or_false, or_self, decide_true, decide_false, Int.reduceToNat, Nat.min_eq_left, Nat.min_eq_right, Int.reducePow, Nat.reducePow, Int.reduceLE, Int.reduceLT, Int.reduceMul, Int.reduceAdd, Int.reduceSub, Int.reduceNeg, Bool.not_true, Bool.not_false, Bool.not_not, ↓reduceIte, Nat.reduceAdd, Nat.reduceSub, Nat.reduceMul, Nat.reduceEqDiff, reduceCtorEq, Nat.reduceLT, Nat.reduceLeDiff, Nat.reduceGT]); (try any_goals (refine ⟨?_, ?_⟩)); (try any_goals (with_reducible rfl))))
        · have d3 : decide (1099511627776 < t) = false := decide_eq_false c3
          have hc2 : ¬ (t ≤ nw ∨ 1099511627776 < t) := by omega
          by_cases c4 : most ≤ l.length
          · have d4 : decide (most ≤ (l.length : Int)) = true := decide_eq_true c4
            have e0 : insErr most nw next l.length t g c = 7 := by unfold insErr; rw [if_neg hc1, if_neg hc2, if_pos (.inl c4)]
            have hb := ins_bad (l := l) (x := ⟨next, t, g, c⟩) e0 (by decide)
            rw [e0, hb.1, hb.2.1, hb.2.2]
            refine w_body (rs := [.tmp 10, .tmp 11]) (tm := [.ptr 0 0, .int .i64 n, .int .i64 t, .int .i64 g, .agg (cmdL c), .any, .any, .any, .any, .any, .any, .any, .any, .any, .any, .any, .any, .any, .any, .any, .any, .any, .any, .any, .any, .any, .any, .any, .any, .any, .any, .any, .any, .any, .any, .any, .any, .any, .any, .any, .any, .any, .any, .any, .any, .any, .any, .any, .any, .any, .any, .any, .any, .any, .any, .any, .any, .any, .any, .any, .any, .any, .any, .any, .any, .any, .any, .any, .any, .any, .any, .any, .any, .any, .any, .any, .any, .any, .any, .any, .any, .any, .any, .any, .any, .any]) fn_17 rfl rfl rfl rfl fun R hR => ?_
            (have zx1 := @hnw; have zx2 := @d1; have zx3 := @hv; have zx4 := @d2; have zx5 := @d3; have zx6 := @d4; all_goals (try ((first | (with_reducible refine wp_id ?_) | (with_reducible refine does_id ?_) | (with_reducible refine ops_id ?_)); refine walk ?_; (repeat' (first | exact trivial | with_reducible refine And.intro ?_ ?_)); all_goals (repeat (first | (with_reducible refine ImpB.mk fun hb => ?_) | (with_reducible refine ImpK.mk fun hK => ?_) | (with_reducible refine ImpF.mk fun hF => ?_) | (with_reducible refine ImpQ.mk fun hp => ?_) | (with_reducible refine AllE.mk fun p => ?_) | (with_reducible refine AllR.mk fun rest => ?_) | (with_reducible refine AllK.mk fun K => ?_))))); repeat' (with_reducible refine And.intro ?_ ?_))
            (all_goals first | exact Int.natCast_nonneg _ | exact Int.ofNat_lt.2 (by assumption) | assumption | omega | exact Nat.le_refl _ | (exfalso; simp at hb; done) | (simp only [go_sem, decide_true, decide_false, Int.reduceToNat, Nat.min_eq_left, Nat.min_eq_right, Int.reducePow, Nat.reducePow, Int.reduceLE, Int.reduceLT, Int.reduceMul, Int.reduceAdd, Int.reduceSub, Int.reduceNeg, Bool.not_true, Bool.not_false, Bool.not_not, ↓reduceIte, Nat.reduceAdd, Nat.reduceSub, Nat.reduceMul, Nat.reduceEqDiff, reduceCtorEq, Nat.reduceLT, Nat.reduceLeDiff, Nat.reduceGT]; done) | (unfold capM; omega) | (simp only [List.length_drop, List.length_take, List.length_append, List.length_cons, List.length_nil]; omega) | skip)
            (focus (refine ⟨_, _, gh_close (t := 0) (ts := [2]) (l := ScO most nw next o l) ⟨⟨_, _, rfl⟩, ?_, by simp⟩, [0], rfl, ?_⟩; all_goals (refine ⟨?_, ?_, ?_⟩ <;> simp only [go_sem, List.range, List.range.loop, List.nodup_cons, List.nodup_nil, List.mem_cons, List.not_mem_nil, or_false, or_self, decide_true, decide_false, Int.reduceToNat, Nat.min_eq_left, Nat.min_eq_right, Int.reducePow, Nat.reducePow, Int.reduceLE, Int.reduceLT, Int.reduceMul, Int.reduceAdd, Int.reduceSub, Int.reduceNeg, Bool.not_true, Bool.not_false, Bool.not_not, ↓reduceIte, Nat.reduceAdd, Nat.reduceSub, Nat.reduceMul, Nat.reduceEqDiff, reduceCtorEq, Nat.reduceLT, Nat.reduceLeDiff, Nat.reduceGT]); (try any_goals (refine ⟨?_, ?_⟩)); (try any_goals (with_reducible rfl))))
          · have d4 : decide (most ≤ (l.length : Int)) = false := decide_eq_false c4
            by_cases c5 : 2147483648 < next
            · have d5 : decide (2147483648 < next) = true := decide_eq_true c5
              have e0 : insErr most nw next l.length t g c = 7 := by unfold insErr; rw [if_neg hc1, if_neg hc2, if_pos (.inr c5)]
              have hb := ins_bad (l := l) (x := ⟨next, t, g, c⟩) e0 (by decide)
              rw [e0, hb.1, hb.2.1, hb.2.2]
              refine w_body (rs := [.tmp 10, .tmp 11]) (tm := [.ptr 0 0, .int .i64 n, .int .i64 t, .int .i64 g, .agg (cmdL c), .any, .any, .any, .any, .any, .any, .any, .any, .any, .any, .any, .any, .any, .any, .any, .any, .any, .any, .any, .any, .any, .any, .any, .any, .any, .any, .any, .any, .any, .any, .any, .any, .any, .any, .any, .any, .any, .any, .any, .any, .any, .any, .any, .any, .any, .any, .any, .any, .any, .any, .any, .any, .any, .any, .any, .any, .any, .any, .any, .any, .any, .any, .any, .any, .any, .any, .any, .any, .any, .any, .any, .any, .any, .any, .any, .any, .any, .any, .any, .any, .any]) fn_17 rfl rfl rfl rfl fun R hR => ?_
              (have zx1 := @hnw; have zx2 := @d1; have zx3 := @hv; have zx4 := @d2; have zx5 := @d3; have zx6 := @d4; have zx7 := @d5; all_goals (try ((first | (with_reducible refine wp_id ?_) | (with_reducible refine does_id ?_) | (with_reducible refine ops_id ?_)); refine walk ?_; (repeat' (first | exact trivial | with_reducible refine And.intro ?_ ?_)); all_goals (repeat (first | (with_reducible refine ImpB.mk fun hb => ?_) | (with_reducible refine ImpK.mk fun hK => ?_) | (with_reducible refine ImpF.mk fun hF => ?_) | (with_reducible refine ImpQ.mk fun hp => ?_) | (with_reducible refine AllE.mk fun p => ?_) | (with_reducible refine AllR.mk fun rest => ?_) | (with_reducible refine AllK.mk fun K => ?_))))); repeat' (with_reducible refine And.intro ?_ ?_))
              (all_goals first | exact Int.natCast_nonneg _ | exact Int.ofNat_lt.2 (by assumption) | assumption | omega | exact Nat.le_refl _ | (exfalso; simp at hb; done) | (simp only [go_sem, decide_true, decide_false, Int.reduceToNat, Nat.min_eq_left, Nat.min_eq_right, Int.reducePow, Nat.reducePow, Int.reduceLE, Int.reduceLT, Int.reduceMul, Int.reduceAdd, Int.reduceSub, Int.reduceNeg, Bool.not_true, Bool.not_false, Bool.not_not, ↓reduceIte, Nat.reduceAdd, Nat.reduceSub, Nat.reduceMul, Nat.reduceEqDiff, reduceCtorEq, Nat.reduceLT, Nat.reduceLeDiff, Nat.reduceGT]; done) | (unfold capM; omega) | (simp only [List.length_drop, List.length_take, List.length_append, List.length_cons, List.length_nil]; omega) | skip)
              (focus (refine ⟨_, _, gh_close (t := 0) (ts := [2]) (l := ScO most nw next o l) ⟨⟨_, _, rfl⟩, ?_, by simp⟩, [0], rfl, ?_⟩; all_goals (refine ⟨?_, ?_, ?_⟩ <;> simp only [go_sem, List.range, List.range.loop, List.nodup_cons, List.nodup_nil, List.mem_cons, List.not_mem_nil, or_false, or_self, decide_true, decide_false, Int.reduceToNat, Nat.min_eq_left, Nat.min_eq_right, Int.reducePow, Nat.reducePow, Int.reduceLE, Int.reduceLT, Int.reduceMul, Int.reduceAdd, Int.reduceSub, Int.reduceNeg, Bool.not_true, Bool.not_false, Bool.not_not, ↓reduceIte, Nat.reduceAdd, Nat.reduceSub, Nat.reduceMul, Nat.reduceEqDiff, reduceCtorEq, Nat.reduceLT, Nat.reduceLeDiff, Nat.reduceGT]); (try any_goals (refine ⟨?_, ?_⟩)); (try any_goals (with_reducible rfl))))
            · have d5 : decide (2147483648 < next) = false := decide_eq_false c5
              have e0 : insErr most nw next l.length t g c = 0 := by unfold insErr; rw [if_neg hc1, if_neg hc2, if_neg (by omega)]
              have e1 : insNext 0 next = next + 1 := rfl
              have e2 : insIdE 0 next = next := rfl
              have e3 : insLst 0 l ⟨next, t, g, c⟩ = srtE (l ++ [⟨next, t, g, c⟩]) := rfl
              have hw : IntKind.i64.wrap (next + 1) = next + 1 := wrap_i64 _ (by omega) (by omega)
              have hll : (l ++ [(⟨next, t, g, c⟩ : Ent)]).length ≤ 1099511627776 := by rw [List.length_append]; simp; omega
              rw [e0, e1, e2, e3]
              refine w_body (rs := [.tmp 10, .tmp 11]) (tm := [.ptr 0 0, .int .i64 n, .int .i64 t, .int .i64 g, .agg (cmdL c), .any, .any, .any, .any, .any, .any, .any, .any, .any, .any, .any, .any, .any, .any, .any, .any, .any, .any, .any, .any, .any, .any, .any, .any, .any, .any, .any, .any, .any, .any, .any, .any, .any, .any, .any, .any, .any, .any, .any, .any, .any, .any, .any, .any, .any, .any, .any, .any, .any, .any, .any, .any, .any, .any, .any, .any, .any, .any, .any, .any, .any, .any, .any, .any, .any, .any, .any, .any, .any, .any, .any, .any, .any, .any, .any, .any, .any, .any, .any, .any, .any]) fn_17 rfl rfl rfl rfl fun R hR => ?_
              (have zx1 := @hnw; have zx2 := @d1; have zx3 := @hv; have zx4 := @d2; have zx5 := @d3; have zx6 := @d4; have zx7 := @d5; have zx8 := @hw; all_goals (try ((first | (with_reducible refine wp_id ?_) | (with_reducible refine does_id ?_) | (with_reducible refine ops_id ?_)); refine walk ?_; (repeat' (first | exact trivial | with_reducible refine And.intro ?_ ?_)); all_goals (repeat (first | (with_reducible refine ImpB.mk fun hb => ?_) | (with_reducible refine ImpK.mk fun hK => ?_) | (with_reducible refine ImpF.mk fun hF => ?_) | (with_reducible refine ImpQ.mk fun hp => ?_) | (with_reducible refine AllE.mk fun p => ?_) | (with_reducible refine AllR.mk fun rest => ?_) | (with_reducible refine AllK.mk fun K => ?_))))); repeat' (with_reducible refine And.intro ?_ ?_))
              (all_goals first | exact Int.natCast_nonneg _ | exact Int.ofNat_lt.2 (by assumption) | assumption | omega | exact Nat.le_refl _ | (exfalso; simp at hb; done) | (simp only [go_sem, decide_true, decide_false, Int.reduceToNat, Nat.min_eq_left, Nat.min_eq_right, Int.reducePow, Nat.reducePow, Int.reduceLE, Int.reduceLT, Int.reduceMul, Int.reduceAdd, Int.reduceSub, Int.reduceNeg, Bool.not_true, Bool.not_false, Bool.not_not, ↓reduceIte, Nat.reduceAdd, Nat.reduceSub, Nat.reduceMul, Nat.reduceEqDiff, reduceCtorEq, Nat.reduceLT, Nat.reduceLeDiff, Nat.reduceGT]; done) | (unfold capM; omega) | (simp only [List.length_drop, List.length_take, List.length_append, List.length_cons, List.length_nil]; omega) | skip)
              (focus (refine ⟨_, _, Gh.refl, [0], rfl, ?_⟩; (refine ⟨?_, ?_, ?_⟩ <;> simp only [go_sem, List.range, List.range.loop, List.nodup_cons, List.nodup_nil, List.mem_cons, List.not_mem_nil, or_false, or_self, decide_true, decide_false, Int.reduceToNat, Nat.min_eq_left, Nat.min_eq_right, Int.reducePow, Nat.reducePow, Int.reduceLE, Int.reduceLT, Int.reduceMul, Int.reduceAdd, Int.reduceSub, Int.reduceNeg, Bool.not_true, Bool.not_false, Bool.not_not, ↓reduceIte, Nat.reduceAdd, Nat.reduceSub, Nat.reduceMul, Nat.reduceEqDiff, reduceCtorEq, Nat.reduceLT, Nat.reduceLeDiff, Nat.reduceGT]); (try any_goals (refine ⟨?_, ?_⟩)); (try any_goals (with_reducible rfl))))
  · have e0 : insErr most nw next l.length t g c = 1 := by unfold insErr; rw [if_pos (.inl c1)]
    have hb := ins_bad (l := l) (x := ⟨next, t, g, c⟩) e0 (by decide)
    rw [e0, hb.1, hb.2.1, hb.2.2]
    have d1 : (decide (0 ≤ g) && decide (g < 16)) = false := by
      rw [Bool.eq_false_iff]; intro q; simp at q; exact c1 q
    refine w_body (rs := [.tmp 10, .tmp 11]) (tm := [.ptr 0 0, .int .i64 n, .int .i64 t, .int .i64 g, .agg (cmdL c), .any, .any, .any, .any, .any, .any, .any, .any, .any, .any, .any, .any, .any, .any, .any, .any, .any, .any, .any, .any, .any, .any, .any, .any, .any, .any, .any, .any, .any, .any, .any, .any, .any, .any, .any, .any, .any, .any, .any, .any, .any, .any, .any, .any, .any, .any, .any, .any, .any, .any, .any, .any, .any, .any, .any, .any, .any, .any, .any, .any, .any, .any, .any, .any, .any, .any, .any, .any, .any, .any, .any, .any, .any, .any, .any, .any, .any, .any, .any, .any, .any]) fn_17 rfl rfl rfl rfl fun R hR => ?_
    (have zx1 := @hnw; have zx2 := @d1; all_goals (try ((first | (with_reducible refine wp_id ?_) | (with_reducible refine does_id ?_) | (with_reducible refine ops_id ?_)); refine walk ?_; (repeat' (first | exact trivial | with_reducible refine And.intro ?_ ?_)); all_goals (repeat (first | (with_reducible refine ImpB.mk fun hb => ?_) | (with_reducible refine ImpK.mk fun hK => ?_) | (with_reducible refine ImpF.mk fun hF => ?_) | (with_reducible refine ImpQ.mk fun hp => ?_) | (with_reducible refine AllE.mk fun p => ?_) | (with_reducible refine AllR.mk fun rest => ?_) | (with_reducible refine AllK.mk fun K => ?_))))); repeat' (with_reducible refine And.intro ?_ ?_))
    (all_goals first | exact Int.natCast_nonneg _ | exact Int.ofNat_lt.2 (by assumption) | assumption | omega | exact Nat.le_refl _ | (exfalso; simp at hb; done) | (simp only [go_sem, decide_true, decide_false, Int.reduceToNat, Nat.min_eq_left, Nat.min_eq_right, Int.reducePow, Nat.reducePow, Int.reduceLE, Int.reduceLT, Int.reduceMul, Int.reduceAdd, Int.reduceSub, Int.reduceNeg, Bool.not_true, Bool.not_false, Bool.not_not, ↓reduceIte, Nat.reduceAdd, Nat.reduceSub, Nat.reduceMul, Nat.reduceEqDiff, reduceCtorEq, Nat.reduceLT, Nat.reduceLeDiff, Nat.reduceGT]; done) | (unfold capM; omega) | (simp only [List.length_drop, List.length_take, List.length_append, List.length_cons, List.length_nil]; omega) | skip)
    (focus (refine ⟨_, _, Gh.refl, [0], rfl, ?_⟩; (refine ⟨?_, ?_, ?_⟩ <;> simp only [go_sem, List.range, List.range.loop, List.nodup_cons, List.nodup_nil, List.mem_cons, List.not_mem_nil, or_false, or_self, decide_true, decide_false, Int.reduceToNat, Nat.min_eq_left, Nat.min_eq_right, Int.reducePow, Nat.reducePow, Int.reduceLE, Int.reduceLT, Int.reduceMul, Int.reduceAdd, Int.reduceSub, Int.reduceNeg, Bool.not_true, Bool.not_false, Bool.not_not, ↓reduceIte, Nat.reduceAdd, Nat.reduceSub, Nat.reduceMul, Nat.reduceEqDiff, reduceCtorEq, Nat.reduceLT, Nat.reduceLeDiff, Nat.reduceGT]); (try any_goals (refine ⟨?_, ?_⟩)); (try any_goals (with_reducible rfl))))
theorem c_sins {h : List Ch} {K : KT} {u : Nat} {most now next : Int} {o : List Bool} {l : List Ent} {n t g x y z : Int} {args : List Int} {data : List UInt8} (H : K (.tup [.int .i64 (insIdE (insErr most (passT now n) next l.length t g ⟨x, y, z, args, data⟩) next), .int .i64 (insErr most (passT now n) next l.length t g ⟨x, y, z, args, data⟩)]) (h.set u (.pack (ScO most (passT now n) (insNext (insErr most (passT now n) next l.length t g ⟨x, y, z, args, data⟩) next) o (insLst (insErr most (passT now n) next l.length t g ⟨x, y, z, args, data⟩) l ⟨next, t, g, ⟨x, y, z, args, data⟩⟩))))) (o1 : hth h u = .pack (ScO most now next o l)) (s1 : l.length ≤ 1000000) (s2 : ((l ++ [(⟨next, t, g, ⟨x, y, z, args, data⟩⟩ : Ent)]).map (·.id)).Nodup) (s3 : 0 ≤ next ∧ next ≤ 9223372036854775806) (s4 : args.length ≤ 1099511627776) (s5 : data.length ≤ 1099511627776) : Does Try.prog 17 [.ptr u 0, .int .i64 n, .int .i64 t, .int .i64 g, .agg [.int .i64 x, .int .i64 y, .int .i64 z, .ro .int args, .ro .byte data]] h K :=
  frame_obj0 (b_sins most now next o l n t g ⟨x, y, z, args, data⟩ s1 s2 s3 s4 s5) o1 (by simp) (fitC_pack _) (br_cons (br_ptr rfl) (br_cons br_int (br_cons br_int (br_cons br_int (br_cons (br_agg (br_cons br_int (br_cons br_int (br_cons br_int (br_cons br_ro (br_cons br_ro br_nil)))))) br_nil))))) (.inl rfl) (fun _ => rfl) rfl H
abbrev i_sins := Ctr.mk (i := 0) (g := 17) @c_sins
attribute [instance] i_sins
theorem c_sins0 {h : List Ch} {K : KT} {u : Nat} {most now next : Int} {o : List Bool} {l : List Ent} {n t g x y z : Int} (H : K (.tup [.int .i64 (insIdE (insErr most (passT now n) next l.length t g ⟨x, y, z, [], []⟩) next), .int .i64 (insErr most (passT now n) next l.length t g ⟨x, y, z, [], []⟩)]) (h.set u (.pack (ScO most (passT now n) (insNext (insErr most (passT now n) next l.length t g ⟨x, y, z, [], []⟩) next) o (insLst (insErr most (passT now n) next l.length t g ⟨x, y, z, [], []⟩) l ⟨next, t, g, ⟨x, y, z, [], []⟩⟩))))) (o1 : hth h u = .pack (ScO most now next o l)) (s1 : l.length ≤ 1000000) (s2 : ((l ++ [(⟨next, t, g, ⟨x, y, z, [], []⟩⟩ : Ent)]).map (·.id)).Nodup) (s3 : 0 ≤ next ∧ next ≤ 9223372036854775806) : Does Try.prog 17 [.ptr u 0, .int .i64 n, .int .i64 t, .int .i64 g, .agg [.int .i64 x, .int .i64 y, .int .i64 z, .lit (.slice none 0 0), .lit (.slice none 0 0)]] h K :=
  frame_obj0 (b_sins most now next o l n t g ⟨x, y, z, [], []⟩ s1 s2 s3 (by simp) (by simp)) o1 (by simp) (fitC_pack _) (br_cons (br_ptr rfl) (br_cons br_int (br_cons br_int (br_cons br_int (br_cons (br_agg (br_cons br_int (br_cons br_int (br_cons br_int (br_cons br_ro0 (br_cons br_ro0 br_nil)))))) br_nil))))) (.inl rfl) (fun _ => rfl) rfl H
abbrev i_sins0 := Ctr.mk (i := 1) (g := 17) @c_sins0
attribute [instance] i_sins0
end Go.V
