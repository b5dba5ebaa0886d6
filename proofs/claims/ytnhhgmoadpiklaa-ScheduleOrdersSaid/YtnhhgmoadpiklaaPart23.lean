/-
  The laws of the schedule: what is due comes in the order of its times, in plain Lean.
  The laws of the schedule: ScheduleOrders.
  The arguments of the statements of chapter 42 as abstract values.
-/
import Derived.Test.YtnhhgmoadpiklaaPart22
import Derived.OpenShut
import Derived.RowKit
import Derived.Carry
set_option linter.unusedVariables false
set_option linter.unusedSimpArgs false
set_option maxRecDepth 100000
set_option maxHeartbeats 4000000
namespace Go.V
open Go.Proofs
def ordE (ts : List Int) (j : Nat) : Ent := ⟨(j : Int) + 1, 1 + ts.getD j 0, ((j % 16 : Nat) : Int), ⟨0, j, 1, [], []⟩⟩
theorem png_valid : ∀ j : Nat, j < 100 → validC ⟨0, (j : Int), 1, [], []⟩ = true := by decide +kernel
structure Ord (ts : List Int) (k : Nat) (m : List Ent) : Prop where
  J : J42 256 0 ⟨0, (k : Int) + 1, off0, m, []⟩
  p : m.Perm ((List.range k).map (ordE ts))
theorem Ord.len {ts : List Int} {k : Nat} {m : List Ent} (h : Ord ts k m) : m.length = k := by
  have := h.p.length_eq
  rwa [List.length_map, List.length_range] at this
theorem Ord.err {ts : List Int} {k : Nat} {m : List Ent} (h : Ord ts k m) (hk : k < 100) (ht : ∀ j, 0 ≤ ts.getD j 0 ∧ ts.getD j 0 ≤ 65535) : insErr 256 0 ((k : Int) + 1) m.length (1 + ts.getD k 0) ((k % 16 : Nat) : Int) ⟨0, (k : Int), 1, [], []⟩ = 0 := by
  have h1 := ht k
  have h2 := png_valid k hk
  have h3 := h.len
  unfold insErr
  rw [h2, if_neg (by simp; omega), if_neg (by omega), if_neg (by omega)]
theorem Ord.step {ts : List Int} {k : Nat} {m : List Ent} (h : Ord ts k m) (hk : k < 100) (ht : ∀ j, 0 ≤ ts.getD j 0 ∧ ts.getD j 0 ≤ 65535) : Ord ts (k + 1) (srtE (m ++ [ordE ts k])) := by
  have he := h.err hk ht
  have hJ := h.J.ins 0 (1 + ts.getD k 0) ((k % 16 : Nat) : Int) ⟨0, (k : Int), 1, [], []⟩ ⟨by simp, by simp⟩
  have hp : passT 0 0 = 0 := by decide
  have hs : insS 256 ⟨0, (k : Int) + 1, off0, m, []⟩ 0 (1 + ts.getD k 0) ((k % 16 : Nat) : Int) ⟨0, (k : Int), 1, [], []⟩ = ⟨0, ((k + 1 : Nat) : Int) + 1, off0, srtE (m ++ [ordE ts k]), []⟩ := by
    unfold insS
    simp only [hp, he]
    rfl
  rw [hs] at hJ
  refine ⟨hJ, ?_⟩
  rw [List.range_succ, List.map_append]
  exact (srt_perm _).trans (h.p.append (List.Perm.refl _))
theorem Ord.get {ts : List Int} {N : Nat} {F : List Ent} (h : Ord ts N F) {i : Nat} (hi : i < N) : ∃ j, j < N ∧ F.getD i Ent.zero = ordE ts j := by
  have hl := h.len
  have hm : F.getD i Ent.zero ∈ F := by
    rw [List.getD_eq_getElem?_getD, List.getElem?_eq_getElem (by omega)]
    exact List.getElem_mem _
  have := h.p.mem_iff.1 hm
  obtain ⟨j, hj, e⟩ := List.mem_map.1 this
  exact ⟨j, List.mem_range.1 hj, e.symm⟩
theorem Ord.next {ts : List Int} {N : Nat} {F : List Ent} (h : Ord ts N F) {i : Nat} (hi : i + 1 < N) : (F.getD i Ent.zero).time < (F.getD (i + 1) Ent.zero).time ∨ ((F.getD i Ent.zero).time = (F.getD (i + 1) Ent.zero).time ∧ (F.getD i Ent.zero).id < (F.getD (i + 1) Ent.zero).id) := by
  have hl := h.len
  have h1 : befE (F[i + 1]'(by omega)) (F[i]'(by omega)) = false := List.pairwise_iff_getElem.1 h.J.srt i (i + 1) (by show i < F.length; omega) (by show i + 1 < F.length; omega) (by omega)
  have h2 := List.pairwise_iff_getElem.1 h.J.nd i (i + 1) (by rw [List.length_map]; show i < F.length; omega) (by rw [List.length_map]; show i + 1 < F.length; omega) (by omega)
  simp only [List.getElem_map] at h2
  have h2' : ¬ (F[i]'(by omega)).id = (F[i + 1]'(by omega)).id := h2
  have h3 := (bef_not _ _).1 h1
  have e1 : F.getD i Ent.zero = F[i]'(by omega) := by rw [List.getD_eq_getElem?_getD, List.getElem?_eq_getElem (by omega)]; rfl
  have e2 : F.getD (i + 1) Ent.zero = F[i + 1]'(by omega) := by rw [List.getD_eq_getElem?_getD, List.getElem?_eq_getElem (by omega)]; rfl
  rw [e1, e2]
  clear h2 e1 e2 h1
  omega
theorem tw_take {p : Ent → Bool} : ∀ l : List Ent, ∃ m, l.takeWhile p = l.take m ∧ l.dropWhile p = l.drop m ∧ m ≤ l.length ∧ ∀ x ∈ l.take m, p x = true
  | [] => ⟨0, rfl, rfl, Nat.le_refl _, by simp⟩
  | x :: l => by
    cases hx : p x
    · exact ⟨0, by simp [hx], by simp [hx], Nat.zero_le _, by simp⟩
    · obtain ⟨m, h1, h2, h3, h4⟩ := tw_take (p := p) l
      refine ⟨m + 1, by simp [hx, h1], by simp [hx, h2], by simp; omega, ?_⟩
      intro y hy
      rw [List.take_succ_cons, List.mem_cons] at hy
      rcases hy with rfl | hy
      · exact hx
      · exact h4 y hy
theorem off0_get (k : Nat) : off0.getD k false = false := by
  unfold off0
  rw [List.getD_eq_getElem?_getD, List.getElem?_replicate]
  split <;> rfl
theorem due_cut {F : List Ent} {n : Nat} (hs : sortE F) (hn : n ≤ F.length) (now : Int) : ∃ m, dueO now off0 (F.drop n) = (F.drop n).take m ∧ dueR now (F.drop n) = F.drop (n + m) ∧ n + m ≤ F.length ∧ (∀ x ∈ (F.drop n).take m, x.time ≤ now) ∧ ∀ x ∈ F.drop (n + m), now < x.time := by
  obtain ⟨m, h1, h2, h3, h4⟩ := tw_take (p := dueW now) (F.drop n)
  have hd : sortE (F.drop n) := hs.sublist (List.drop_sublist _ _)
  have hw := (while_filter (due_pw (now := now) hd)).2
  rw [h2, List.drop_drop] at hw
  rw [List.length_drop] at h3
  refine ⟨m, ?_, ?_, by omega, ?_, ?_⟩
  · unfold dueO
    rw [h1]
    refine List.filter_eq_self.2 fun x _ => ?_
    rw [off0_get]; rfl
  · unfold dueR
    rw [h2, List.drop_drop]
  · intro x hx
    exact of_decide_eq_true (h4 x hx)
  · intro x hx
    rw [hw] at hx
    have := (List.mem_filter.1 hx).2
    unfold dueW at this
    simp at this
    exact this
theorem take_get {F : List Ent} {n m k : Nat} (hk : k < m) : ((F.drop n).take m).getD k Ent.zero = F.getD (n + k) Ent.zero := by
  simp [List.getD_eq_getElem?_getD, List.getElem?_take, hk]
/-- the entry before -/
def befF (F : List Ent) (n : Nat) : Ent := if n = 0 then Ent.zero else F.getD (n - 1) Ent.zero
theorem befF_succ (F : List Ent) (n : Nat) : befF F (n + 1) = F.getD n Ent.zero := by unfold befF; rw [if_neg (by omega)]; rfl
theorem Ord.due {ts : List Int} {N n : Nat} {F : List Ent} {now : Int} (h : Ord ts N F) (hN : N ≤ 100) (hn : n ≤ N) (h1 : 0 ≤ now ∧ now ≤ 1099511627776) : J42 256 0 ⟨now, (N : Int) + 1, off0, F.drop n, []⟩ where
  srt := h.J.srt.sublist (List.drop_sublist _ _)
  nd := h.J.nd.sublist ((List.drop_sublist _ _).map _)
  ids := fun x hx => h.J.ids x (List.mem_of_mem_drop hx)
  nx := h.J.nx
  val := fun x hx => h.J.val x (List.mem_of_mem_drop hx)
  now := h1
  sm := fun x hx => h.J.sm x (List.mem_of_mem_drop hx)
  len := by have := h.len; show ((F.drop n).length : Int) ≤ 256; rw [List.length_drop]; omega
  cp := h.J.cp
  ol := h.J.ol
  oo := h.J.oo
  fl := h.J.fl
end Go.V

set_option maxRecDepth 100000
set_option maxHeartbeats 16000000
namespace Go.V
open Go.Proofs
theorem b_orders (ts : List Int) (bs : List UInt8) (hts : ∀ x ∈ ts, 0 ≤ x ∧ x ≤ 65535) : DoesK Try.prog 0 4 [.ro .u16 ts, .ro .byte bs] [] (EndF 0 (.bool true) []) := by
  refine DoesK.close ?_
  have hcap : min (max (256 : Int) 0) 256 = 256 := by decide
  have ht : ∀ j, 0 ≤ ts.getD j 0 ∧ ts.getD j 0 ≤ 65535 := fun j => by
    by_cases hj : j < ts.length
    · rw [List.getD_eq_getElem?_getD, List.getElem?_eq_getElem hj]
      exact hts _ (List.getElem_mem hj)
    · rw [List.getD_eq_getElem?_getD, List.getElem?_eq_none (by omega)]
      exact ⟨by decide, by decide⟩
  by_cases c1 : ts.length ≤ 100
  · have d1 : decide ((100 : Int) < ts.length) = false := decide_eq_false (by omega)
    by_cases c2 : bs.length ≤ 100
    · have d2 : decide ((100 : Int) < bs.length) = false := decide_eq_false (by omega)
      refine w_body (rs := [.tmp 4]) (tm := [.ro .u16 ts, .ro .byte bs, .any, .any, .any, .any, .any, .any, .any, .any, .any, .any, .any, .any, .any, .any, .any, .any, .any, .any, .any, .any, .any, .any, .any, .any, .any, .any, .any, .any, .any, .any, .any, .any, .any, .any, .any, .any, .any, .any, .any, .any, .any, .any, .any, .any, .any, .any, .any, .any, .any, .any, .any, .any, .any, .any, .any, .any, .any, .any, .any, .any, .any, .any, .any, .any, .any, .any, .any, .any, .any, .any, .any, .any, .any, .any, .any, .any, .any, .any, .any, .any, .any, .any, .any, .any, .any, .any, .any, .any, .any, .any, .any, .any, .any, .any, .any, .any, .any, .any, .any, .any, .any, .any, .any, .any, .any, .any, .any, .any, .any, .any, .any, .any, .any, .any, .any, .any, .any, .any, .any, .any, .any, .any, .any, .any, .any, .any, .any, .any, .any, .any, .any, .any, .any, .any, .any, .any, .any, .any, .any, .any, .any, .any, .any, .any, .any, .any, .any, .any, .any, .any, .any, .any, .any, .any, .any, .any, .any, .any, .any, .any, .any, .any, .any, .any, .any, .any, .any, .any, .any, .any, .any, .any, .any, .any]) fn_4 rfl rfl rfl rfl fun R hR => ?_
      have hz : passT 0 0 = 0 := by decide
      (have zx1 := @hcap; have zx2 := @d1; have zx3 := @d2; all_goals (try ((first | (with_reducible refine wp_id ?_) | (with_reducible refine does_id ?_) | (with_reducible refine ops_id ?_)); refine walk ?_; (repeat' (first | exact trivial | with_reducible refine And.intro ?_ ?_)); all_goals (repeat (first | (with_reducible refine ImpB.mk fun hb => ?_) | (with_reducible refine ImpK.mk fun hK => ?_) | (with_reducible refine ImpF.mk fun hF => ?_) | (with_reducible refine ImpQ.mk fun hp => ?_) | (with_reducible refine AllE.mk fun p => ?_) | (with_reducible refine AllR.mk fun rest => ?_) | (with_reducible refine AllK.mk fun K => ?_))))); repeat' (with_reducible refine And.intro ?_ ?_))
      any_goals ((try (refine w_seq fun K hK => ?_)); (try (refine w_block ?_)); refine w_loop (A := Nat × List Ent) (fun p => Ord ts p.1 p.2 ∧ p.1 ≤ ts.length) (fun p => ts.length - p.1) (fun p => [(7, .int .i64 p.1)]) (fun p => [(0, pC 256 ⟨0, (p.1 : Int) + 1, off0, p.2, []⟩)]) ((0, [])) (ws := ?ws1) (tk := ?tk1) ?hw1 ?ht1 ?hi ?h0 ?LH1; (case hw1 => simp only [go_sem, decide_true, decide_false, Int.reduceToNat, Nat.min_eq_left, Nat.min_eq_right, Int.reducePow, Nat.reducePow, Int.reduceLE, Int.reduceLT, Int.reduceMul, Int.reduceAdd, Int.reduceSub, Int.reduceNeg, Bool.not_true, Bool.not_false, Bool.not_not, ↓reduceIte, Nat.reduceAdd, Nat.reduceSub, Nat.reduceMul, Nat.reduceEqDiff, reduceCtorEq, Nat.reduceLT, Nat.reduceLeDiff, Nat.reduceGT]; exact rfl); (case ht1 => simp only [go_sem, decide_true, decide_false, Int.reduceToNat, Nat.min_eq_left, Nat.min_eq_right, Int.reducePow, Nat.reducePow, Int.reduceLE, Int.reduceLT, Int.reduceMul, Int.reduceAdd, Int.reduceSub, Int.reduceNeg, Bool.not_true, Bool.not_false, Bool.not_not, ↓reduceIte, Nat.reduceAdd, Nat.reduceSub, Nat.reduceMul, Nat.reduceEqDiff, reduceCtorEq, Nat.reduceLT, Nat.reduceLeDiff, Nat.reduceGT]; exact rfl); (case' LH1 => rintro ⟨k, m⟩ E t hx hE ht; simp only [go_sem] at ht; subst ht; simp only [go_sem]; try dsimp only at hx))
      case LH1 =>
        obtain ⟨hO, hk⟩ := hx
        by_cases c3 : k < ts.length
        · have d3 : decide ((k : Int) < (ts.length : Int)) = true := decide_eq_true (by omega)
          have hw : IntKind.i64.wrap ((k : Int) + 1) = (k : Int) + 1 := wrap_i64 _ (by omega) (by omega)
          have htk := ht k
          have hw1 : IntKind.i64.wrap (ts.getD k 0) = ts.getD k 0 := wrap_i64 _ (by omega) (by omega)
          have hw2 : IntKind.i64.wrap (1 + ts.getD k 0) = 1 + ts.getD k 0 := wrap_i64 _ (by omega) (by omega)
          have hm : Int.tmod (k : Int) 16 = ((k % 16 : Nat) : Int) := by rw [Int.tmod_eq_emod_of_nonneg (by omega)]; omega
          have hE := hO.err (by omega) ht
          have hO' := hO.step (by omega) ht
          have i1 : insIdE 0 ((k : Int) + 1) = (k : Int) + 1 := rfl
          have i2 : insNext 0 ((k : Int) + 1) = (k : Int) + 1 + 1 := rfl
          have i3 : ∀ x, insLst 0 m x = srtE (m ++ [x]) := fun _ => rfl
          have i4 : decide ((k : Int) + 1 = (k : Int) + 1) = true := decide_eq_true rfl
          (have zx1 := @d3; have zx2 := @hw; have zx3 := @hw1; have zx4 := @hw2; have zx5 := @hm; have zx6 := @hz; have zx7 := @hE; have zx8 := @i1; have zx9 := @i2; have zx10 := @i3; have zx11 := @i4; all_goals (try ((first | (with_reducible refine wp_id ?_) | (with_reducible refine does_id ?_) | (with_reducible refine ops_id ?_)); refine walk ?_; (repeat' (first | exact trivial | with_reducible refine And.intro ?_ ?_)); all_goals (repeat (first | (with_reducible refine ImpB.mk fun hb => ?_) | (with_reducible refine ImpK.mk fun hK => ?_) | (with_reducible refine ImpF.mk fun hF => ?_) | (with_reducible refine ImpQ.mk fun hp => ?_) | (with_reducible refine AllE.mk fun p => ?_) | (with_reducible refine AllR.mk fun rest => ?_) | (with_reducible refine AllK.mk fun K => ?_))))); repeat' (with_reducible refine And.intro ?_ ?_))
          · exact Int.natCast_nonneg _
          · omega
          · exact absurd hb (by decide)
          · refine ⟨(k + 1, srtE (m ++ [ordE ts k])), ⟨⟨hO', c3⟩, by dsimp only; omega⟩, ?_⟩
            (focus (refine ⟨_, _, Gh.refl, [0], rfl, ?_⟩; (refine ⟨?_, ?_, ?_⟩ <;> simp only [go_sem, List.range, List.range.loop, List.nodup_cons, List.nodup_nil, List.mem_cons, List.not_mem_nil, or_false, or_self, decide_true, decide_false, Int.reduceToNat, Nat.min_eq_left, Nat.min_eq_right, Int.reducePow, Nat.reducePow, Int.reduceLE, Int.reduceLT, Int.reduceMul, Int.reduceAdd, Int.reduceSub, Int.reduceNeg, Bool.not_true, Bool.not_false, Bool.not_not, ↓reduceIte, Nat.reduceAdd, Nat.reduceSub, Nat.reduceMul, Nat.reduceEqDiff, reduceCtorEq, Nat.reduceLT, Nat.reduceLeDiff, Nat.reduceGT]); (try any_goals (refine ⟨?_, ?_⟩)); (try any_goals (with_reducible rfl))))
            · omega
            · rfl
          · have := hO.len; dsimp only; omega
          · exact hO.J.newnd _ _ _
          · dsimp only; omega
          · dsimp only; omega
        · have d3 : decide ((k : Int) < (ts.length : Int)) = false := decide_eq_false (by omega)
          (have zx1 := @d3; all_goals (try ((first | (with_reducible refine wp_id ?_) | (with_reducible refine does_id ?_) | (with_reducible refine ops_id ?_)); refine walk ?_; (repeat' (first | exact trivial | with_reducible refine And.intro ?_ ?_)); all_goals (repeat (first | (with_reducible refine ImpB.mk fun hb => ?_) | (with_reducible refine ImpK.mk fun hK => ?_) | (with_reducible refine ImpF.mk fun hF => ?_) | (with_reducible refine ImpQ.mk fun hp => ?_) | (with_reducible refine AllE.mk fun p => ?_) | (with_reducible refine AllR.mk fun rest => ?_) | (with_reducible refine AllK.mk fun K => ?_))))); repeat' (with_reducible refine And.intro ?_ ?_))
          obtain rfl : k = ts.length := by omega
          have hl := hO.len
          any_goals ((try (refine w_seq fun K hK => ?_)); (try (refine w_block ?_)); refine w_loop (A := Nat × Int × Nat) (fun p => p.1 ≤ bs.length ∧ (0 ≤ p.2.1 ∧ p.2.1 ≤ 255 * p.1) ∧ p.2.2 ≤ ts.length ∧ ∀ x ∈ m.drop p.2.2, p.2.1 < x.time) (fun p => bs.length - p.1) (fun p => [(13, .int .i64 p.1), (10, .int .i64 p.2.1), (11, .int .i64 p.2.1), (6, .int .i64 p.2.2)]) (fun p => [(0, pC 256 ⟨p.2.1, (ts.length : Int) + 1, off0, m.drop p.2.2, []⟩), (1, .cells (entL (befF m p.2.2)))]) ((0, 0, 0)) (ws := ?ws2) (tk := ?tk2) ?hw2 ?ht2 ?hi_1 ?h0_1 ?LH2; (case hw2 => simp only [go_sem, decide_true, decide_false, Int.reduceToNat, Nat.min_eq_left, Nat.min_eq_right, Int.reducePow, Nat.reducePow, Int.reduceLE, Int.reduceLT, Int.reduceMul, Int.reduceAdd, Int.reduceSub, Int.reduceNeg, Bool.not_true, Bool.not_false, Bool.not_not, ↓reduceIte, Nat.reduceAdd, Nat.reduceSub, Nat.reduceMul, Nat.reduceEqDiff, reduceCtorEq, Nat.reduceLT, Nat.reduceLeDiff, Nat.reduceGT]; exact rfl); (case ht2 => simp only [go_sem, decide_true, decide_false, Int.reduceToNat, Nat.min_eq_left, Nat.min_eq_right, Int.reducePow, Nat.reducePow, Int.reduceLE, Int.reduceLT, Int.reduceMul, Int.reduceAdd, Int.reduceSub, Int.reduceNeg, Bool.not_true, Bool.not_false, Bool.not_not, ↓reduceIte, Nat.reduceAdd, Nat.reduceSub, Nat.reduceMul, Nat.reduceEqDiff, reduceCtorEq, Nat.reduceLT, Nat.reduceLeDiff, Nat.reduceGT]; exact rfl); (case' LH2 => rintro ⟨i, now, n⟩ E t hx hE ht; simp only [go_sem] at ht; subst ht; simp only [go_sem]; try dsimp only at hx))
          case LH2 =>
            obtain ⟨b1, b2, b3, b4⟩ := hx
            by_cases c4 : i < bs.length
            · have d4 : decide ((i : Int) < (bs.length : Int)) = true := decide_eq_true (by omega)
              obtain ⟨st, hst⟩ : ∃ s, ((bs.getD i 0).toNat : Int) = s := ⟨_, rfl⟩
              have hst1 : 0 ≤ st ∧ st ≤ 255 := by have := UInt8.toNat_lt (bs.getD i 0); omega
              have hw3 : IntKind.i64.wrap st = st := wrap_i64 _ (by omega) (by omega)
              have hw4 : IntKind.i64.wrap (now + st) = now + st := wrap_i64 _ (by omega) (by omega)
              have hw5 : IntKind.i64.wrap ((i : Int) + 1) = (i : Int) + 1 := wrap_i64 _ (by omega) (by omega)
              have hp : passT now (now + st) = now + st := by unfold passT; split <;> omega
              obtain ⟨mm, e1, e2, e3, e4, e5⟩ := due_cut (n := n) hO.J.srt (by show n ≤ m.length; omega) (now + st)
              have e6 : ((m.drop n).take mm).length = mm := by rw [List.length_take, List.length_drop]; have : n + mm ≤ m.length := e3; omega
              have hJd := hO.due (n := n) (now := now) c1 b3 (by omega)
              have e3' : n + mm ≤ m.length := e3
              have hdl : (m.drop n).length = m.length - n := List.length_drop
              (have zx1 := @d4; have zx2 := @hst; have zx3 := @hw3; have zx4 := @hw4; have zx5 := @hp; have zx6 := @e1; have zx7 := @e2; have zx8 := @e6; all_goals (try ((first | (with_reducible refine wp_id ?_) | (with_reducible refine does_id ?_) | (with_reducible refine ops_id ?_)); refine walk ?_; (repeat' (first | exact trivial | with_reducible refine And.intro ?_ ?_)); all_goals (repeat (first | (with_reducible refine ImpB.mk fun hb => ?_) | (with_reducible refine ImpK.mk fun hK => ?_) | (with_reducible refine ImpF.mk fun hF => ?_) | (with_reducible refine ImpQ.mk fun hp => ?_) | (with_reducible refine AllE.mk fun p => ?_) | (with_reducible refine AllR.mk fun rest => ?_) | (with_reducible refine AllK.mk fun K => ?_))))); repeat' (with_reducible refine And.intro ?_ ?_))
              any_goals first | exact Int.natCast_nonneg _ | omega | exact hJd.len' | exact hJd.small | exact hJd.grp
              any_goals ((try (refine w_seq fun K hK => ?_)); (try (refine w_block ?_)); refine w_loop (A := Nat) (fun j => j ≤ mm) (fun j => mm - j) (fun j => [(15, .int .i64 j), (6, .int .i64 ((n + j : Nat) : Int))]) (fun j => [(1, .cells (entL (befF m (n + j))))]) (0) (ws := ?ws3) (tk := ?tk3) ?hw3 ?ht3 ?hi_2 ?h0_2 ?LH3; (case hw3 => simp only [go_sem, decide_true, decide_false, Int.reduceToNat, Nat.min_eq_left, Nat.min_eq_right, Int.reducePow, Nat.reducePow, Int.reduceLE, Int.reduceLT, Int.reduceMul, Int.reduceAdd, Int.reduceSub, Int.reduceNeg, Bool.not_true, Bool.not_false, Bool.not_not, ↓reduceIte, Nat.reduceAdd, Nat.reduceSub, Nat.reduceMul, Nat.reduceEqDiff, reduceCtorEq, Nat.reduceLT, Nat.reduceLeDiff, Nat.reduceGT]; exact rfl); (case ht3 => simp only [go_sem, decide_true, decide_false, Int.reduceToNat, Nat.min_eq_left, Nat.min_eq_right, Int.reducePow, Nat.reducePow, Int.reduceLE, Int.reduceLT, Int.reduceMul, Int.reduceAdd, Int.reduceSub, Int.reduceNeg, Bool.not_true, Bool.not_false, Bool.not_not, ↓reduceIte, Nat.reduceAdd, Nat.reduceSub, Nat.reduceMul, Nat.reduceEqDiff, reduceCtorEq, Nat.reduceLT, Nat.reduceLeDiff, Nat.reduceGT]; exact rfl); (case' LH3 => rintro j E t hx hE ht; simp only [go_sem] at ht; subst ht; simp only [go_sem]; try dsimp only at hx))
              case LH3 =>
                by_cases c5 : j < mm
                · have d5 : decide ((j : Int) < (mm : Int)) = true := decide_eq_true (by omega)
                  have hnj : n + j < ts.length := by have : n + mm ≤ m.length := e3; omega
                  obtain ⟨j0, hj0, hy⟩ := hO.get hnj
                  have htj := ht j0
                  have hY : ((m.drop n).take mm).getD j Ent.zero = ⟨(j0 : Int) + 1, 1 + ts.getD j0 0, ((j0 % 16 : Nat) : Int), ⟨0, j0, 1, [], []⟩⟩ := by rw [take_get c5, hy]; rfl
                  have hbf : befF m (n + (j + 1)) = ⟨(j0 : Int) + 1, 1 + ts.getD j0 0, ((j0 % 16 : Nat) : Int), ⟨0, j0, 1, [], []⟩⟩ := by rw [← Nat.add_assoc, befF_succ, hy]; rfl
                  have t1 : decide ((j0 : Int) + 1 < 1) = false := decide_eq_false (by omega)
                  have t2 : decide ((ts.length : Int) < (j0 : Int) + 1) = false := decide_eq_false (by omega)
                  have t3 : decide (1 + ts.getD j0 0 = 1 + ts.getD j0 0) = true := decide_eq_true rfl
                  have t4 : decide ((j0 : Int) = (j0 : Int)) = true := decide_eq_true rfl
                  have t5 : decide (now + st < 1 + ts.getD j0 0) = false := by
                    have hm := e4 (((m.drop n).take mm).getD j Ent.zero) (by rw [List.getD_eq_getElem?_getD, List.getElem?_eq_getElem (by omega)]; exact List.getElem_mem _)
                    rw [hY] at hm
                    exact decide_eq_false (by have : 1 + ts.getD j0 0 ≤ now + st := hm; omega)
                  have t6 : decide (1 + ts.getD j0 0 ≤ now) = false := by
                    have hm := b4 (((m.drop n).take mm).getD j Ent.zero) (by
                      rw [List.getD_eq_getElem?_getD, List.getElem?_eq_getElem (by omega)]
                      exact List.mem_of_mem_take (List.getElem_mem _))
                    rw [hY] at hm
                    exact decide_eq_false (by have : now < 1 + ts.getD j0 0 := hm; omega)
                  have w1 : IntKind.i64.wrap ((j0 : Int) + 1 - 1) = (j0 : Int) := by rw [wrap_i64 _ (by omega) (by omega)]; omega
                  have w2 : IntKind.i64.wrap (ts.getD j0 0) = ts.getD j0 0 := wrap_i64 _ (by omega) (by omega)
                  have w3 : IntKind.i64.wrap (1 + ts.getD j0 0) = 1 + ts.getD j0 0 := wrap_i64 _ (by omega) (by omega)
                  have w4 : IntKind.i64.wrap (((n + j : Nat) : Int) + 1) = ((n + (j + 1) : Nat) : Int) := by rw [wrap_i64 _ (by omega) (by omega)]; omega
                  have w5 : IntKind.i64.wrap ((j : Int) + 1) = ((j + 1 : Nat) : Int) := by rw [wrap_i64 _ (by omega) (by omega)]; omega
                  have T1 := And.intro t1 (And.intro t2 (And.intro t3 (And.intro t4 (And.intro t5 t6))))
                  have T2 := And.intro w1 (And.intro w2 (And.intro w3 (And.intro w4 w5)))
                  by_cases c6 : n + j = 0
                  · have d6 : decide ((0 : Int) < ((n + j : Nat) : Int)) = false := decide_eq_false (by omega)
                    (have zx1 := @d5; have zx2 := @hY; have zx3 := @T1; have zx4 := @T2; have zx5 := @d6; all_goals (try ((first | (with_reducible refine wp_id ?_) | (with_reducible refine does_id ?_) | (with_reducible refine ops_id ?_)); refine walk ?_; (repeat' (first | exact trivial | with_reducible refine And.intro ?_ ?_)); all_goals (repeat (first | (with_reducible refine ImpB.mk fun hb => ?_) | (with_reducible refine ImpK.mk fun hK => ?_) | (with_reducible refine ImpF.mk fun hF => ?_) | (with_reducible refine ImpQ.mk fun hp => ?_) | (with_reducible refine AllE.mk fun p => ?_) | (with_reducible refine AllR.mk fun rest => ?_) | (with_reducible refine AllK.mk fun K => ?_))))); repeat' (with_reducible refine And.intro ?_ ?_))
                    any_goals first | exact Int.natCast_nonneg _ | omega
                    · refine ⟨j + 1, ⟨c5, by dsimp only; omega⟩, ?_⟩
                      (focus (refine ⟨_, _, Gh.refl, [0, 1, 2], rfl, ?_⟩; (refine ⟨?_, ?_, ?_⟩ <;> simp only [go_sem, List.range, List.range.loop, List.nodup_cons, List.nodup_nil, List.mem_cons, List.not_mem_nil, or_false, or_self, decide_true, decide_false, Int.reduceToNat, Nat.min_eq_left, Nat.min_eq_right, Int.reducePow, Nat.reducePow, Int.reduceLE, Int.reduceLT, Int.reduceMul, Int.reduceAdd, Int.reduceSub, Int.reduceNeg, Bool.not_true, Bool.not_false, Bool.not_not, ↓reduceIte, Nat.reduceAdd, Nat.reduceSub, Nat.reduceMul, Nat.reduceEqDiff, reduceCtorEq, Nat.reduceLT, Nat.reduceLeDiff, Nat.reduceGT]); (try any_goals (refine ⟨?_, ?_⟩)); (try any_goals (with_reducible rfl))))
                      all_goals first | (rw [hbf]; done) | (rw [hbf]; exact ⟨rfl, rfl, rfl, rfl, rfl, rfl, rfl⟩)
                  · have d6 : decide ((0 : Int) < ((n + j : Nat) : Int)) = true := decide_eq_true (by omega)
                    have hnx := hO.next (i := n + j - 1) (by omega)
                    have hpb : befF m (n + j) = m.getD (n + j - 1) Ent.zero := by unfold befF; rw [if_neg c6]
                    rw [← hpb, show n + j - 1 + 1 = n + j by omega, hy] at hnx
                    have hnx' : (befF m (n + j)).time < 1 + ts.getD j0 0 ∨ ((befF m (n + j)).time = 1 + ts.getD j0 0 ∧ (befF m (n + j)).id < (j0 : Int) + 1) := hnx
                    have t7 : decide (1 + ts.getD j0 0 < (befF m (n + j)).time) = false := decide_eq_false (by omega)
                    by_cases c7 : 1 + ts.getD j0 0 = (befF m (n + j)).time
                    · have t8 : decide (1 + ts.getD j0 0 = (befF m (n + j)).time) = true := decide_eq_true c7
                      have t9 : decide ((j0 : Int) + 1 ≤ (befF m (n + j)).id) = false := decide_eq_false (by omega)
                      (have zx1 := @d5; have zx2 := @hY; have zx3 := @T1; have zx4 := @T2; have zx5 := @t7; have zx6 := @t8; have zx7 := @t9; have zx8 := @d6; all_goals (try ((first | (with_reducible refine wp_id ?_) | (with_reducible refine does_id ?_) | (with_reducible refine ops_id ?_)); refine walk ?_; (repeat' (first | exact trivial | with_reducible refine And.intro ?_ ?_)); all_goals (repeat (first | (with_reducible refine ImpB.mk fun hb => ?_) | (with_reducible refine ImpK.mk fun hK => ?_) | (with_reducible refine ImpF.mk fun hF => ?_) | (with_reducible refine ImpQ.mk fun hp => ?_) | (with_reducible refine AllE.mk fun p => ?_) | (with_reducible refine AllR.mk fun rest => ?_) | (with_reducible refine AllK.mk fun K => ?_))))); repeat' (with_reducible refine And.intro ?_ ?_))
                      any_goals first | exact Int.natCast_nonneg _ | omega
                      · refine ⟨j + 1, ⟨c5, by dsimp only; omega⟩, ?_⟩
                        (focus (refine ⟨_, _, Gh.refl, [0, 1, 2], rfl, ?_⟩; (refine ⟨?_, ?_, ?_⟩ <;> simp only [go_sem, List.range, List.range.loop, List.nodup_cons, List.nodup_nil, List.mem_cons, List.not_mem_nil, or_false, or_self, decide_true, decide_false, Int.reduceToNat, Nat.min_eq_left, Nat.min_eq_right, Int.reducePow, Nat.reducePow, Int.reduceLE, Int.reduceLT, Int.reduceMul, Int.reduceAdd, Int.reduceSub, Int.reduceNeg, Bool.not_true, Bool.not_false, Bool.not_not, ↓reduceIte, Nat.reduceAdd, Nat.reduceSub, Nat.reduceMul, Nat.reduceEqDiff, reduceCtorEq, Nat.reduceLT, Nat.reduceLeDiff, Nat.reduceGT]); (try any_goals (refine ⟨?_, ?_⟩)); (try any_goals (with_reducible rfl))))
                        all_goals first | (rw [hbf]; done) | (rw [hbf]; exact ⟨rfl, rfl, rfl, rfl, rfl, rfl, rfl⟩)
                    · have t8 : decide (1 + ts.getD j0 0 = (befF m (n + j)).time) = false := decide_eq_false c7
                      (have zx1 := @d5; have zx2 := @hY; have zx3 := @T1; have zx4 := @T2; have zx5 := @t7; have zx6 := @t8; have zx7 := @d6; all_goals (try ((first | (with_reducible refine wp_id ?_) | (with_reducible refine does_id ?_) | (with_reducible refine ops_id ?_)); refine walk ?_; (repeat' (first | exact trivial | with_reducible refine And.intro ?_ ?_)); all_goals (repeat (first | (with_reducible refine ImpB.mk fun hb => ?_) | (with_reducible refine ImpK.mk fun hK => ?_) | (with_reducible refine ImpF.mk fun hF => ?_) | (with_reducible refine ImpQ.mk fun hp => ?_) | (with_reducible refine AllE.mk fun p => ?_) | (with_reducible refine AllR.mk fun rest => ?_) | (with_reducible refine AllK.mk fun K => ?_))))); repeat' (with_reducible refine And.intro ?_ ?_))
                      any_goals first | exact Int.natCast_nonneg _ | omega
                      · refine ⟨j + 1, ⟨c5, by dsimp only; omega⟩, ?_⟩
                        (focus (refine ⟨_, _, Gh.refl, [0, 1, 2], rfl, ?_⟩; (refine ⟨?_, ?_, ?_⟩ <;> simp only [go_sem, List.range, List.range.loop, List.nodup_cons, List.nodup_nil, List.mem_cons, List.not_mem_nil, or_false, or_self, decide_true, decide_false, Int.reduceToNat, Nat.min_eq_left, Nat.min_eq_right, Int.reducePow, Nat.reducePow, Int.reduceLE, Int.reduceLT, Int.reduceMul, Int.reduceAdd, Int.reduceSub, Int.reduceNeg, Bool.not_true, Bool.not_false, Bool.not_not, ↓reduceIte, Nat.reduceAdd, Nat.reduceSub, Nat.reduceMul, Nat.reduceEqDiff, reduceCtorEq, Nat.reduceLT, Nat.reduceLeDiff, Nat.reduceGT]); (try any_goals (refine ⟨?_, ?_⟩)); (try any_goals (with_reducible rfl))))
                        all_goals first | (rw [hbf]; done) | (rw [hbf]; exact ⟨rfl, rfl, rfl, rfl, rfl, rfl, rfl⟩)
                · have d5 : decide ((j : Int) < (mm : Int)) = false := decide_eq_false (by omega)
                  obtain rfl : j = mm := by omega
                  (have zx1 := @d5; have zx2 := @hw5; all_goals (try ((first | (with_reducible refine wp_id ?_) | (with_reducible refine does_id ?_) | (with_reducible refine ops_id ?_)); refine walk ?_; (repeat' (first | exact trivial | with_reducible refine And.intro ?_ ?_)); all_goals (repeat (first | (with_reducible refine ImpB.mk fun hb => ?_) | (with_reducible refine ImpK.mk fun hK => ?_) | (with_reducible refine ImpF.mk fun hF => ?_) | (with_reducible refine ImpQ.mk fun hp => ?_) | (with_reducible refine AllE.mk fun p => ?_) | (with_reducible refine AllR.mk fun rest => ?_) | (with_reducible refine AllK.mk fun K => ?_))))); repeat' (with_reducible refine And.intro ?_ ?_))
                  refine ⟨(i + 1, now + st, n + j), ⟨⟨c4, ⟨by dsimp only; omega, by dsimp only; omega⟩, by dsimp only; omega, e5⟩, by dsimp only; omega⟩, ?_⟩
                  (focus (refine ⟨_, _, Gh.refl, [0, 1], rfl, ?_⟩; (refine ⟨?_, ?_, ?_⟩ <;> simp only [go_sem, List.range, List.range.loop, List.nodup_cons, List.nodup_nil, List.mem_cons, List.not_mem_nil, or_false, or_self, decide_true, decide_false, Int.reduceToNat, Nat.min_eq_left, Nat.min_eq_right, Int.reducePow, Nat.reducePow, Int.reduceLE, Int.reduceLT, Int.reduceMul, Int.reduceAdd, Int.reduceSub, Int.reduceNeg, Bool.not_true, Bool.not_false, Bool.not_not, ↓reduceIte, Nat.reduceAdd, Nat.reduceSub, Nat.reduceMul, Nat.reduceEqDiff, reduceCtorEq, Nat.reduceLT, Nat.reduceLeDiff, Nat.reduceGT]); (try any_goals (refine ⟨?_, ?_⟩)); (try any_goals (with_reducible rfl))))
                  all_goals omega
              · exact Nat.zero_le _
              · (focus (refine ⟨_, _, Gh.refl, [0, 1, 2], rfl, ?_⟩; (refine ⟨?_, ?_, ?_⟩ <;> simp only [go_sem, List.range, List.range.loop, List.nodup_cons, List.nodup_nil, List.mem_cons, List.not_mem_nil, or_false, or_self, decide_true, decide_false, Int.reduceToNat, Nat.min_eq_left, Nat.min_eq_right, Int.reducePow, Nat.reducePow, Int.reduceLE, Int.reduceLT, Int.reduceMul, Int.reduceAdd, Int.reduceSub, Int.reduceNeg, Bool.not_true, Bool.not_false, Bool.not_not, ↓reduceIte, Nat.reduceAdd, Nat.reduceSub, Nat.reduceMul, Nat.reduceEqDiff, reduceCtorEq, Nat.reduceLT, Nat.reduceLeDiff, Nat.reduceGT]); (try any_goals (refine ⟨?_, ?_⟩)); (try any_goals (with_reducible rfl))))
            · have d4 : decide ((i : Int) < (bs.length : Int)) = false := decide_eq_false (by omega)
              have hJd := hO.due (n := n) (now := now) c1 b3 (by omega)
              have hw6 : IntKind.i64.wrap ((ts.length : Int) - n) = (ts.length : Int) - n := wrap_i64 _ (by omega) (by omega)
              have hw7 : ((m.drop n).length : Int) = (ts.length : Int) - n := by rw [List.length_drop]; omega
              have d7 : decide ((ts.length : Int) - n = (ts.length : Int) - n) = true := decide_eq_true rfl
              (have zx1 := @d4; have zx2 := @hw6; have zx3 := @hw7; have zx4 := @d7; all_goals (try ((first | (with_reducible refine wp_id ?_) | (with_reducible refine does_id ?_) | (with_reducible refine ops_id ?_)); refine walk ?_; (repeat' (first | exact trivial | with_reducible refine And.intro ?_ ?_)); all_goals (repeat (first | (with_reducible refine ImpB.mk fun hb => ?_) | (with_reducible refine ImpK.mk fun hK => ?_) | (with_reducible refine ImpF.mk fun hF => ?_) | (with_reducible refine ImpQ.mk fun hp => ?_) | (with_reducible refine AllE.mk fun p => ?_) | (with_reducible refine AllR.mk fun rest => ?_) | (with_reducible refine AllK.mk fun K => ?_))))); repeat' (with_reducible refine And.intro ?_ ?_))
              any_goals first | exact hJd.len' | exact hJd.small | skip
              (focus (refine ⟨_, _, Gh.refl, [], rfl, ?_⟩; (refine ⟨?_, ?_, ?_⟩ <;> simp only [go_sem, List.range, List.range.loop, List.nodup_cons, List.nodup_nil, List.mem_cons, List.not_mem_nil, or_false, or_self, decide_true, decide_false, Int.reduceToNat, Nat.min_eq_left, Nat.min_eq_right, Int.reducePow, Nat.reducePow, Int.reduceLE, Int.reduceLT, Int.reduceMul, Int.reduceAdd, Int.reduceSub, Int.reduceNeg, Bool.not_true, Bool.not_false, Bool.not_not, ↓reduceIte, Nat.reduceAdd, Nat.reduceSub, Nat.reduceMul, Nat.reduceEqDiff, reduceCtorEq, Nat.reduceLT, Nat.reduceLeDiff, Nat.reduceGT]); (try any_goals (refine ⟨?_, ?_⟩)); (try any_goals (with_reducible rfl))))
          · refine ⟨Nat.zero_le _, ⟨by decide, by dsimp only; omega⟩, Nat.zero_le _, ?_⟩
            intro x hx
            have := hO.p.mem_iff.1 (List.mem_of_mem_drop hx)
            obtain ⟨j, hj, rfl⟩ := List.mem_map.1 this
            have := ht j
            show 0 < 1 + ts.getD j 0
            omega
          · (focus (refine ⟨_, _, Gh.refl, [0, 1], rfl, ?_⟩; (refine ⟨?_, ?_, ?_⟩ <;> simp only [go_sem, List.range, List.range.loop, List.nodup_cons, List.nodup_nil, List.mem_cons, List.not_mem_nil, or_false, or_self, decide_true, decide_false, Int.reduceToNat, Nat.min_eq_left, Nat.min_eq_right, Int.reducePow, Nat.reducePow, Int.reduceLE, Int.reduceLT, Int.reduceMul, Int.reduceAdd, Int.reduceSub, Int.reduceNeg, Bool.not_true, Bool.not_false, Bool.not_not, ↓reduceIte, Nat.reduceAdd, Nat.reduceSub, Nat.reduceMul, Nat.reduceEqDiff, reduceCtorEq, Nat.reduceLT, Nat.reduceLeDiff, Nat.reduceGT]); (try any_goals (refine ⟨?_, ?_⟩)); (try any_goals (with_reducible rfl))))
            all_goals first | rfl | exact ⟨rfl, rfl, rfl, rfl, rfl, rfl, rfl⟩
      · refine ⟨⟨?_, List.Perm.refl _⟩, Nat.zero_le _⟩
        have := J42.zero 256
        rw [show capS 256 = 256 from hcap] at this
        exact this
      · (focus (refine ⟨_, _, Gh.refl, [0], rfl, ?_⟩; (refine ⟨?_, ?_, ?_⟩ <;> simp only [go_sem, List.range, List.range.loop, List.nodup_cons, List.nodup_nil, List.mem_cons, List.not_mem_nil, or_false, or_self, decide_true, decide_false, Int.reduceToNat, Nat.min_eq_left, Nat.min_eq_right, Int.reducePow, Nat.reducePow, Int.reduceLE, Int.reduceLT, Int.reduceMul, Int.reduceAdd, Int.reduceSub, Int.reduceNeg, Bool.not_true, Bool.not_false, Bool.not_not, ↓reduceIte, Nat.reduceAdd, Nat.reduceSub, Nat.reduceMul, Nat.reduceEqDiff, reduceCtorEq, Nat.reduceLT, Nat.reduceLeDiff, Nat.reduceGT]); (try any_goals (refine ⟨?_, ?_⟩)); (try any_goals (with_reducible rfl))))
    · have d2 : decide ((100 : Int) < bs.length) = true := decide_eq_true (by omega)
      refine w_body (rs := [.tmp 4]) (tm := [.ro .u16 ts, .ro .byte bs, .any, .any, .any, .any, .any, .any, .any, .any, .any, .any, .any, .any, .any, .any, .any, .any, .any, .any, .any, .any, .any, .any, .any, .any, .any, .any, .any, .any, .any, .any, .any, .any, .any, .any, .any, .any, .any, .any, .any, .any, .any, .any, .any, .any, .any, .any, .any, .any, .any, .any, .any, .any, .any, .any, .any, .any, .any, .any, .any, .any, .any, .any, .any, .any, .any, .any, .any, .any, .any, .any, .any, .any, .any, .any, .any, .any, .any, .any, .any, .any, .any, .any, .any, .any, .any, .any, .any, .any, .any, .any, .any, .any, .any, .any, .any, .any, .any, .any, .any, .any, .any, .any, .any, .any, .any, .any, .any, .any, .any, .any, .any, .any, .any, .any, .any, .any, .any, .any, .any, .any, .any, .any, .any, .any, .any, .any, .any, .any, .any, .any, .any, .any, .any, .any, .any, .any, .any, .any, .any, .any, .any, .any, .any, .any, .any, .any, .any, .any, .any, .any, .any, .any, .any, .any, .any, .any, .any, .any, .any, .any, .any, .any, .any, .any, .any, .any, .any, .any, .any, .any, .any, .any, .any, .any]) fn_4 rfl rfl rfl rfl fun R hR => ?_
      (have zx1 := @hcap; have zx2 := @d1; have zx3 := @d2; all_goals (try ((first | (with_reducible refine wp_id ?_) | (with_reducible refine does_id ?_) | (with_reducible refine ops_id ?_)); refine walk ?_; (repeat' (first | exact trivial | with_reducible refine And.intro ?_ ?_)); all_goals (repeat (first | (with_reducible refine ImpB.mk fun hb => ?_) | (with_reducible refine ImpK.mk fun hK => ?_) | (with_reducible refine ImpF.mk fun hF => ?_) | (with_reducible refine ImpQ.mk fun hp => ?_) | (with_reducible refine AllE.mk fun p => ?_) | (with_reducible refine AllR.mk fun rest => ?_) | (with_reducible refine AllK.mk fun K => ?_))))); repeat' (with_reducible refine And.intro ?_ ?_))
      (focus (refine ⟨_, _, Gh.refl, [], rfl, ?_⟩; (refine ⟨?_, ?_, ?_⟩ <;> simp only [go_sem, List.range, List.range.loop, List.nodup_cons, List.nodup_nil, List.mem_cons, List.not_mem_nil, or_false, or_self, decide_true, decide_false, Int.reduceToNat, Nat.min_eq_left, Nat.min_eq_right, Int.reducePow, Nat.reducePow, Int.reduceLE, Int.reduceLT, Int.reduceMul, Int.reduceAdd, Int.reduceSub, Int.reduceNeg, Bool.not_true, Bool.not_false, Bool.not_not, ↓reduceIte, Nat.reduceAdd, Nat.reduceSub, Nat.reduceMul, Nat.reduceEqDiff, reduceCtorEq, Nat.reduceLT, Nat.reduceLeDiff, Nat.reduceGT]); (try any_goals (refine ⟨?_, ?_⟩)); (try any_goals (with_reducible rfl))))
  · have d1 : decide ((100 : Int) < ts.length) = true := decide_eq_true (by omega)
    refine w_body (rs := [.tmp 4]) (tm := [.ro .u16 ts, .ro .byte bs, .any, .any, .any, .any, .any, .any, .any, .any, .any, .any, .any, .any, .any, .any, .any, .any, .any, .any, .any, .any, .any, .any, .any, .any, .any, .any, .any, .any, .any, .any, .any, .any, .any, .any, .any, .any, .any, .any, .any, .any, .any, .any, .any, .any, .any, .any, .any, .any, .any, .any, .any, .any, .any, .any, .any, .any, .any, .any, .any, .any, .any, .any, .any, .any, .any, .any, .any, .any, .any, .any, .any, .any, .any, .any, .any, .any, .any, .any, .any, .any, .any, .any, .any, .any, .any, .any, .any, .any, .any, .any, .any, .any, .any, .any, .any, .any, .any, .any, .any, .any, .any, .any, .any, .any, .any, .any, .any, .any, .any, .any, .any, .any, .any, .any, .any, .any, .any, .any, .any, .any, .any, .any, .any, .any, .any, .any, .any, .any, .any, .any, .any, .any, .any, .any, .any, .any, .any, .any, .any, .any, .any, .any, .any, .any, .any, .any, .any, .any, .any, .any, .any, .any, .any, .any, .any, .any, .any, .any, .any, .any, .any, .any, .any, .any, .any, .any, .any, .any, .any, .any, .any, .any, .any, .any]) fn_4 rfl rfl rfl rfl fun R hR => ?_
    (have zx1 := @hcap; have zx2 := @d1; all_goals (try ((first | (with_reducible refine wp_id ?_) | (with_reducible refine does_id ?_) | (with_reducible refine ops_id ?_)); refine walk ?_; (repeat' (first | exact trivial | with_reducible refine And.intro ?_ ?_)); all_goals (repeat (first | (with_reducible refine ImpB.mk fun hb => ?_) | (with_reducible refine ImpK.mk fun hK => ?_) | (with_reducible refine ImpF.mk fun hF => ?_) | (with_reducible refine ImpQ.mk fun hp => ?_) | (with_reducible refine AllE.mk fun p => ?_) | (with_reducible refine AllR.mk fun rest => ?_) | (with_reducible refine AllK.mk fun K => ?_))))); repeat' (with_reducible refine And.intro ?_ ?_))
    (focus (refine ⟨_, _, Gh.refl, [], rfl, ?_⟩; (refine ⟨?_, ?_, ?_⟩ <;> simp only [go_sem, List.range, List.range.loop, List.nodup_cons, List.nodup_nil, List.mem_cons, List.not_mem_nil, or_false, or_self, decide_true, decide_false, Int.reduceToNat, Nat.min_eq_left, Nat.min_eq_right, Int.reducePow, Nat.reducePow, Int.reduceLE, Int.reduceLT, Int.reduceMul, Int.reduceAdd, Int.reduceSub, Int.reduceNeg, Bool.not_true, Bool.not_false, Bool.not_not, ↓reduceIte, Nat.reduceAdd, Nat.reduceSub, Nat.reduceMul, Nat.reduceEqDiff, reduceCtorEq, Nat.reduceLT, Nat.reduceLeDiff, Nat.reduceGT]); (try any_goals (refine ⟨?_, ?_⟩)); (try any_goals (with_reducible rfl))))
end Go.V

set_option maxRecDepth 100000
namespace Go.V
open Go.Proofs
theorem byte_enc {n : Int} (h : IntKind.u8.has n) : Ety.enc .byte (UInt8.ofNat n.toNat) = [.int .u8 n] := by
  have h1 : 0 ≤ n ∧ n ≤ 255 := h
  have : ((UInt8.ofNat n.toNat).toNat : Int) = n := by simp; omega
  show [AV.int .u8 ((UInt8.ofNat n.toNat).toNat : Int)] = _
  rw [this]
theorem op_T3 (w : World) : Opens Try.prog w 3 fun l => ∃ n, IntKind.i64.has n ∧ l = [.int .i64 n] := Opens.int Try.underlying3
theorem arg_T3 (w : World) : OpensV Try.prog w 3 fun a => ∃ n, IntKind.i64.has n ∧ a = .int .i64 n := fun H enc r b0 v d p hv hd => by
  obtain ⟨a, ⟨n, h1, e⟩, h⟩ := (op_T3 w).arg1 (one_of Try.underlying3 rfl) H enc r b0 v d p hv hd
  cases e
  exact ⟨_, ⟨n, h1, rfl⟩, h⟩
def okE_int (x : Ety.T .int) : Prop := IntKind.i64.has x
def okE_byte (x : Ety.T .byte) : Prop := True
def okS_Cmd (x : Cmd) : Prop := IntKind.i64.has x.src ∧ IntKind.i64.has x.num ∧ IntKind.i64.has x.srv ∧ (x.args.length ≤ maxLen ∧ ∀ y ∈ x.args, okE_int y) ∧ (x.data.length ≤ maxLen ∧ ∀ y ∈ x.data, okE_byte y)
def okS_Stp (x : Stp) : Prop := IntKind.u8.has x.kind ∧ IntKind.i64.has x.now ∧ IntKind.i64.has x.n ∧ IntKind.i64.has x.group ∧ True ∧ okS_Cmd x.c
theorem op_T5 (w : World) : Opens Try.prog w 5 fun l => ∃ n, IntKind.u8.has n ∧ l = [.int .u8 n] := Opens.int Try.underlying5
theorem op_T4 (w : World) : Opens Try.prog w 4 fun l => ∃ b, l = [.bool b] := Opens.bool Try.underlying4
theorem op_T28 (w : World) : Opens Try.prog w 28 fun l => ∃ xs : List (Ety.T .int), xs.length ≤ maxLen ∧ (∀ x ∈ xs, okE_int x) ∧ l = [.ro .int xs] :=
  Opens.slice (e := .int) (ok := okE_int) Try.underlying28 (by kernel_rfl) (op_T3 w) fun l ⟨n, h, e⟩ => ⟨n, e.symm, h⟩
theorem op_T34 (w : World) : Opens Try.prog w 34 fun l => ∃ xs : List (Ety.T .byte), xs.length ≤ maxLen ∧ (∀ x ∈ xs, okE_byte x) ∧ l = [.ro .byte xs] :=
  Opens.slice (e := .byte) (ok := okE_byte) Try.underlying34 (by kernel_rfl) (op_T5 w) fun l ⟨n, h, e⟩ => ⟨UInt8.ofNat n.toNat, by rw [e]; exact byte_enc h, trivial⟩
theorem op_T36 (w : World) : Opens Try.prog w 36 fun l => ∃ x : Cmd, okS_Cmd x ∧ l = [.int .i64 x.src, .int .i64 x.num, .int .i64 x.srv, .ro .int x.args, .ro .byte x.data] := by
  refine (Opens.fields Try.underlying36 (Ss := [_, _, _, _, _]) ⟨op_T3 w, op_T3 w, op_T3 w, op_T28 w, op_T34 w, trivial⟩ (by kernel_rfl) (by kernel_rfl)).mono ?_
  rintro l ⟨ls, h1, h2, rfl⟩
  obtain ⟨a0, a1, a2, a3, a4, rfl⟩ : ∃ a0 a1 a2 a3 a4, ls = [a0, a1, a2, a3, a4] := by
    match ls, h1 with
    | [a0, a1, a2, a3, a4], _ => exact ⟨a0, a1, a2, a3, a4, rfl⟩
  obtain ⟨x0, h10, rfl⟩ := h2 0 _ _ rfl rfl
  obtain ⟨x1, h11, rfl⟩ := h2 1 _ _ rfl rfl
  obtain ⟨x2, h12, rfl⟩ := h2 2 _ _ rfl rfl
  obtain ⟨x3, h13, g13, rfl⟩ := h2 3 _ _ rfl rfl
  obtain ⟨x4, h14, g14, rfl⟩ := h2 4 _ _ rfl rfl
  exact ⟨⟨x0, x1, x2, x3, x4⟩, ⟨h10, h11, h12, ⟨h13, g13⟩, ⟨h14, g14⟩⟩, rfl⟩
theorem op_T38 (w : World) : Opens Try.prog w 38 fun l => ∃ x : Stp, okS_Stp x ∧ l = [.int .u8 x.kind, .int .i64 x.now, .int .i64 x.n, .int .i64 x.group, .bool x.on, .int .i64 x.c.src, .int .i64 x.c.num, .int .i64 x.c.srv, .ro .int x.c.args, .ro .byte x.c.data] := by
  refine (Opens.fields Try.underlying38 (Ss := [_, _, _, _, _, _]) ⟨op_T5 w, op_T3 w, op_T3 w, op_T3 w, op_T4 w, op_T36 w, trivial⟩ (by kernel_rfl) (by kernel_rfl)).mono ?_
  rintro l ⟨ls, h1, h2, rfl⟩
  obtain ⟨a0, a1, a2, a3, a4, a5, rfl⟩ : ∃ a0 a1 a2 a3 a4 a5, ls = [a0, a1, a2, a3, a4, a5] := by
    match ls, h1 with
    | [a0, a1, a2, a3, a4, a5], _ => exact ⟨a0, a1, a2, a3, a4, a5, rfl⟩
  obtain ⟨x0, h10, rfl⟩ := h2 0 _ _ rfl rfl
  obtain ⟨x1, h11, rfl⟩ := h2 1 _ _ rfl rfl
  obtain ⟨x2, h12, rfl⟩ := h2 2 _ _ rfl rfl
  obtain ⟨x3, h13, rfl⟩ := h2 3 _ _ rfl rfl
  obtain ⟨x4, rfl⟩ := h2 4 _ _ rfl rfl
  obtain ⟨x5, h15, rfl⟩ := h2 5 _ _ rfl rfl
  exact ⟨⟨x0, x1, x2, x3, x4, x5⟩, ⟨h10, h11, h12, h13, trivial, h15⟩, rfl⟩
def okE_stp (x : Ety.T .stp) : Prop := okS_Stp x
theorem op_T22 (w : World) : Opens Try.prog w 22 fun l => ∃ xs : List (Ety.T .stp), xs.length ≤ maxLen ∧ (∀ x ∈ xs, okE_stp x) ∧ l = [.ro .stp xs] :=
  Opens.slice (e := .stp) (ok := okE_stp) Try.underlying22 (by kernel_rfl) (op_T38 w) fun l ⟨x, h, e⟩ => ⟨x, e.symm, h⟩
theorem arg_T22 (w : World) : OpensV Try.prog w 22 fun a => ∃ xs : List (Ety.T .stp), xs.length ≤ maxLen ∧ (∀ x ∈ xs, okE_stp x) ∧ a = .ro .stp xs := fun H enc r b0 v d p hv hd => by
  obtain ⟨a, ⟨n, h1, h2, e⟩, h⟩ := (op_T22 w).arg1 (one_of Try.underlying22 rfl) H enc r b0 v d p hv hd
  cases e
  exact ⟨_, ⟨n, h1, h2, rfl⟩, h⟩
def okS_Ent (x : Ent) : Prop := IntKind.i64.has x.id ∧ IntKind.i64.has x.time ∧ IntKind.i64.has x.group ∧ okS_Cmd x.c
theorem op_T48 (w : World) : Opens Try.prog w 48 fun l => ∃ x : Ent, okS_Ent x ∧ l = [.int .i64 x.id, .int .i64 x.time, .int .i64 x.group, .int .i64 x.c.src, .int .i64 x.c.num, .int .i64 x.c.srv, .ro .int x.c.args, .ro .byte x.c.data] := by
  refine (Opens.fields Try.underlying48 (Ss := [_, _, _, _]) ⟨op_T3 w, op_T3 w, op_T3 w, op_T36 w, trivial⟩ (by kernel_rfl) (by kernel_rfl)).mono ?_
  rintro l ⟨ls, h1, h2, rfl⟩
  obtain ⟨a0, a1, a2, a3, rfl⟩ : ∃ a0 a1 a2 a3, ls = [a0, a1, a2, a3] := by
    match ls, h1 with
    | [a0, a1, a2, a3], _ => exact ⟨a0, a1, a2, a3, rfl⟩
  obtain ⟨x0, h10, rfl⟩ := h2 0 _ _ rfl rfl
  obtain ⟨x1, h11, rfl⟩ := h2 1 _ _ rfl rfl
  obtain ⟨x2, h12, rfl⟩ := h2 2 _ _ rfl rfl
  obtain ⟨x3, h13, rfl⟩ := h2 3 _ _ rfl rfl
  exact ⟨⟨x0, x1, x2, x3⟩, ⟨h10, h11, h12, h13⟩, rfl⟩
def okE_ent (x : Ety.T .ent) : Prop := okS_Ent x
theorem op_T27 (w : World) : Opens Try.prog w 27 fun l => ∃ xs : List (Ety.T .ent), xs.length ≤ maxLen ∧ (∀ x ∈ xs, okE_ent x) ∧ l = [.ro .ent xs] :=
  Opens.slice (e := .ent) (ok := okE_ent) Try.underlying27 (by kernel_rfl) (op_T48 w) fun l ⟨x, h, e⟩ => ⟨x, e.symm, h⟩
theorem arg_T27 (w : World) : OpensV Try.prog w 27 fun a => ∃ xs : List (Ety.T .ent), xs.length ≤ maxLen ∧ (∀ x ∈ xs, okE_ent x) ∧ a = .ro .ent xs := fun H enc r b0 v d p hv hd => by
  obtain ⟨a, ⟨n, h1, h2, e⟩, h⟩ := (op_T27 w).arg1 (one_of Try.underlying27 rfl) H enc r b0 v d p hv hd
  cases e
  exact ⟨_, ⟨n, h1, h2, rfl⟩, h⟩
theorem arg_T34 (w : World) : OpensV Try.prog w 34 fun a => ∃ xs : List (Ety.T .byte), xs.length ≤ maxLen ∧ (∀ x ∈ xs, okE_byte x) ∧ a = .ro .byte xs := fun H enc r b0 v d p hv hd => by
  obtain ⟨a, ⟨n, h1, h2, e⟩, h⟩ := (op_T34 w).arg1 (one_of Try.underlying34 rfl) H enc r b0 v d p hv hd
  cases e
  exact ⟨_, ⟨n, h1, h2, rfl⟩, h⟩
theorem op_T46 (w : World) : Opens Try.prog w 46 fun l => ∃ n, IntKind.u16.has n ∧ l = [.int .u16 n] := Opens.int Try.underlying46
def okE_u16 (x : Ety.T .u16) : Prop := IntKind.u16.has x
theorem op_T42 (w : World) : Opens Try.prog w 42 fun l => ∃ xs : List (Ety.T .u16), xs.length ≤ maxLen ∧ (∀ x ∈ xs, okE_u16 x) ∧ l = [.ro .u16 xs] :=
  Opens.slice (e := .u16) (ok := okE_u16) Try.underlying42 (by kernel_rfl) (op_T46 w) fun l ⟨n, h, e⟩ => ⟨n, e.symm, h⟩
theorem arg_T42 (w : World) : OpensV Try.prog w 42 fun a => ∃ xs : List (Ety.T .u16), xs.length ≤ maxLen ∧ (∀ x ∈ xs, okE_u16 x) ∧ a = .ro .u16 xs := fun H enc r b0 v d p hv hd => by
  obtain ⟨a, ⟨n, h1, h2, e⟩, h⟩ := (op_T42 w).arg1 (one_of Try.underlying42 rfl) H enc r b0 v d p hv hd
  cases e
  exact ⟨_, ⟨n, h1, h2, rfl⟩, h⟩
/-- a law that was walked -/
theorem law_true {g : FuncId} {la : List AV} {vs : List Value} {w : World} (H : DoesK Try.prog 0 g la [] (EndF 0 (.bool true) [])) (hb : brL [] [] la la) (hr : LRel (oldR w) [] la vs) : Calls Try.prog g vs.toArray w fun e w' => e = .returned (.bool true) ∧ Go.RowKit.Below w.heap.size w w' :=
  does_true (frame_pure H hb (.inr rfl) (fun _ => rfl) rfl) hr
end Go.V
