/-
  The laws of the schedule: ScheduleEncodes and ScheduleDecodes.
  The laws of the schedule: what is due comes in the order of its times, in plain Lean.
  The arguments of the statements of chapter 42 as abstract values.
-/
import Derived.Test.YtnhhgmoadpiklaaPart22
import Derived.OpenShut
import Derived.RowKit
import Derived.Carry
set_option linter.unusedVariables false
set_option linter.unusedSimpArgs false
set_option maxRecDepth 100000
set_option maxHeartbeats 8000000
namespace Go.V
open Go.Proofs
theorem lit_light {l : List Ent} {n : Int} (h : (l.all liteB && decide ((l.length : Int) ≤ n)) = true) : litE l ∧ (l.length : Int) ≤ n := by
  rw [Bool.and_eq_true] at h
  refine ⟨fun x hx => ?_, of_decide_eq_true h.2⟩
  have := List.all_eq_true.1 h.1 x hx
  unfold liteB at this
  rw [Bool.and_eq_true] at this
  have := of_decide_eq_true this.1
  omega
theorem lit_chk {l : List Ent} (h : chkE l 256 = 0) : litE l := fun x hx => by
  have := List.all_eq_true.1 ((chk_iff l 256).1 h).1 x hx
  exact valid_args ((entV_iff x).1 this).2
theorem encE_len {l : List Ent} (h : chkE l 256 = 0) : (encE l).length ≤ 1000000 := by
  obtain ⟨h1, _, h3⟩ := (chk_iff l 256).1 h
  have h2 := encXs_len h1
  have h4 := encI_le (l.length : Int) ⟨by omega, by omega⟩
  unfold encE
  rw [List.length_append]
  omega
theorem c_sdecS {h : List Ch} {K : KT} {t n : Nat} {l : List Ent} {b : List UInt8} (H : K (.tup [.ro .ent l, .int .i64 0]) (frHs t .byte b (h.set t .gone))) (o : hth h t = .rows .byte b) (e1 : decE b = some l) (s1 : n = b.length) (s2 : frObH t .byte b.length h) (s3 : b.length ≤ 1000000) : Does Try.prog 28 [.sl t .byte 0 n] h K := by
  subst s1
  refine Does.ghost (gh_frz (e := .byte) (xs := b) o ?_ s2) ?_
  · simp [frObL, frOb]
  · have e : frL t .byte b [.sl t .byte 0 b.length] = [.ro .byte b] := by simp [frL, frA]
    rw [e]
    refine c_sdec ?_ isRO_ro s3
    rw [e1]
    exact H
abbrev i_sdecS := Ctr.mk (i := 1) (g := 28) @c_sdecS
attribute [instance] i_sdecS
theorem b_encodes (l : List Ent) (hl : l.length ≤ 9223372036854775807) : DoesK Try.prog 0 8 [.ro .ent l] [] (EndF 0 (.bool true) []) := by
  refine DoesK.close ?_
  cases hs : (l.all liteB && decide ((l.length : Int) ≤ 300))
  · refine w_body (rs := [.tmp 2]) (tm := [.ro .ent l, .any, .any, .any, .any, .any, .any, .any, .any, .any, .any, .any, .any, .any, .any, .any, .any, .any, .any, .any, .any, .any, .any, .any, .any, .any, .any, .any, .any, .any, .any, .any, .any, .any, .any, .any, .any, .any, .any, .any, .any, .any, .any, .any, .any, .any, .any, .any, .any, .any, .any]) fn_8 rfl rfl rfl rfl fun R hR => ?_
    (have zx1 := @hs; all_goals (try ((first | (with_reducible refine wp_id ?_) | (with_reducible refine does_id ?_) | (with_reducible refine ops_id ?_)); refine walk ?_; (repeat' (first | exact trivial | with_reducible refine And.intro ?_ ?_)); all_goals (repeat (first | (with_reducible refine ImpB.mk fun hb => ?_) | (with_reducible refine ImpK.mk fun hK => ?_) | (with_reducible refine ImpF.mk fun hF => ?_) | (with_reducible refine ImpQ.mk fun hp => ?_) | (with_reducible refine AllE.mk fun p => ?_) | (with_reducible refine AllR.mk fun rest => ?_) | (with_reducible refine AllK.mk fun K => ?_))))); repeat' (with_reducible refine And.intro ?_ ?_))
    (focus (refine ⟨_, _, Gh.refl, [], rfl, ?_⟩; (refine ⟨?_, ?_, ?_⟩ <;> simp only [go_sem, List.range, List.range.loop, List.nodup_cons, List.nodup_nil, List.mem_cons, List.not_mem_nil, or_false, or_self, decide_true, decide_false, Int.reduceToNat, Nat.min_eq_left, Nat.min_eq_right, Int.reducePow, Nat.reducePow, Int.reduceLE, Int.reduceLT, Int.reduceMul, Int.reduceAdd, Int.reduceSub, Int.reduceNeg, Bool.not_true, Bool.not_false, Bool.not_not, ↓reduceIte, Nat.reduceAdd, Nat.reduceSub, Nat.reduceMul, Nat.reduceEqDiff, reduceCtorEq, Nat.reduceLT, Nat.reduceLeDiff, Nat.reduceGT]); (try any_goals (refine ⟨?_, ?_⟩)); (try any_goals (with_reducible rfl))))
  · obtain ⟨h1, h2⟩ := lit_light hs
    have hid : ∀ m : List UInt8, decide (m = m) = true := fun m => decide_eq_true rfl
    have hie : ∀ m : List Ent, decide (m = m) = true := fun m => decide_eq_true rfl
    by_cases hc : chkE l 256 = 0
    · have hd : decE (encE l) = some l := decE_iff.2 ⟨hc, rfl⟩
      have hle := encE_len hc
      obtain ⟨E, hE⟩ : ∃ E, encE l = E := ⟨_, rfl⟩
      rw [hE] at hd hle
      refine w_body (rs := [.tmp 2]) (tm := [.ro .ent l, .any, .any, .any, .any, .any, .any, .any, .any, .any, .any, .any, .any, .any, .any, .any, .any, .any, .any, .any, .any, .any, .any, .any, .any, .any, .any, .any, .any, .any, .any, .any, .any, .any, .any, .any, .any, .any, .any, .any, .any, .any, .any, .any, .any, .any, .any, .any, .any, .any, .any]) fn_8 rfl rfl rfl rfl fun R hR => ?_
      (have zx1 := @hs; have zx2 := @hid; have zx3 := @hie; have zx4 := @hE; all_goals (try ((first | (with_reducible refine wp_id ?_) | (with_reducible refine does_id ?_) | (with_reducible refine ops_id ?_)); refine walk ?_; (repeat' (first | exact trivial | with_reducible refine And.intro ?_ ?_)); all_goals (repeat (first | (with_reducible refine ImpB.mk fun hb => ?_) | (with_reducible refine ImpK.mk fun hK => ?_) | (with_reducible refine ImpF.mk fun hF => ?_) | (with_reducible refine ImpQ.mk fun hp => ?_) | (with_reducible refine AllE.mk fun p => ?_) | (with_reducible refine AllR.mk fun rest => ?_) | (with_reducible refine AllK.mk fun K => ?_))))); repeat' (with_reducible refine And.intro ?_ ?_))
      all_goals first | omega | assumption | (simp [frObH, frObC, frOb, frObL]; done) | ((focus (refine ⟨_, _, Gh.refl, [], rfl, ?_⟩; (refine ⟨?_, ?_, ?_⟩ <;> simp only [go_sem, List.range, List.range.loop, List.nodup_cons, List.nodup_nil, List.mem_cons, List.not_mem_nil, or_false, or_self, decide_true, decide_false, Int.reduceToNat, Nat.min_eq_left, Nat.min_eq_right, Int.reducePow, Nat.reducePow, Int.reduceLE, Int.reduceLT, Int.reduceMul, Int.reduceAdd, Int.reduceSub, Int.reduceNeg, Bool.not_true, Bool.not_false, Bool.not_not, ↓reduceIte, Nat.reduceAdd, Nat.reduceSub, Nat.reduceMul, Nat.reduceEqDiff, reduceCtorEq, Nat.reduceLT, Nat.reduceLeDiff, Nat.reduceGT]); (try any_goals (refine ⟨?_, ?_⟩)); (try any_goals (with_reducible rfl)))); done) | skip
    · have hn : decide (chkE l 256 = 0) = false := decide_eq_false hc
      refine w_body (rs := [.tmp 2]) (tm := [.ro .ent l, .any, .any, .any, .any, .any, .any, .any, .any, .any, .any, .any, .any, .any, .any, .any, .any, .any, .any, .any, .any, .any, .any, .any, .any, .any, .any, .any, .any, .any, .any, .any, .any, .any, .any, .any, .any, .any, .any, .any, .any, .any, .any, .any, .any, .any, .any, .any, .any, .any, .any]) fn_8 rfl rfl rfl rfl fun R hR => ?_
      (have zx1 := @hs; have zx2 := @hid; have zx3 := @hn; all_goals (try ((first | (with_reducible refine wp_id ?_) | (with_reducible refine does_id ?_) | (with_reducible refine ops_id ?_)); refine walk ?_; (repeat' (first | exact trivial | with_reducible refine And.intro ?_ ?_)); all_goals (repeat (first | (with_reducible refine ImpB.mk fun hb => ?_) | (with_reducible refine ImpK.mk fun hK => ?_) | (with_reducible refine ImpF.mk fun hF => ?_) | (with_reducible refine ImpQ.mk fun hp => ?_) | (with_reducible refine AllE.mk fun p => ?_) | (with_reducible refine AllR.mk fun rest => ?_) | (with_reducible refine AllK.mk fun K => ?_))))); repeat' (with_reducible refine And.intro ?_ ?_))
      all_goals first | omega | assumption | (exfalso; simp [hc] at hb; done) | ((focus (refine ⟨_, _, Gh.refl, [], rfl, ?_⟩; (refine ⟨?_, ?_, ?_⟩ <;> simp only [go_sem, List.range, List.range.loop, List.nodup_cons, List.nodup_nil, List.mem_cons, List.not_mem_nil, or_false, or_self, decide_true, decide_false, Int.reduceToNat, Nat.min_eq_left, Nat.min_eq_right, Int.reducePow, Nat.reducePow, Int.reduceLE, Int.reduceLT, Int.reduceMul, Int.reduceAdd, Int.reduceSub, Int.reduceNeg, Bool.not_true, Bool.not_false, Bool.not_not, ↓reduceIte, Nat.reduceAdd, Nat.reduceSub, Nat.reduceMul, Nat.reduceEqDiff, reduceCtorEq, Nat.reduceLT, Nat.reduceLeDiff, Nat.reduceGT]); (try any_goals (refine ⟨?_, ?_⟩)); (try any_goals (with_reducible rfl)))); done) | skip
theorem b_decodes (b : List UInt8) : DoesK Try.prog 0 9 [.ro .byte b] [] (EndF 0 (.bool true) []) := by
  refine DoesK.close ?_
  by_cases hb : b.length ≤ 3000
  · have hbd : decide ((3000 : Int) < b.length) = false := decide_eq_false (by omega)
    have hid : ∀ m : List UInt8, decide (m = m) = true := fun m => decide_eq_true rfl
    have hie : ∀ m : List Ent, decide (m = m) = true := fun m => decide_eq_true rfl
    cases hd : decE b with
    | none =>
      have hs : sdecA (decE b) = .tup [.ro .ent [], .int .i64 4] := by rw [hd]; rfl
      refine w_body (rs := [.tmp 2]) (tm := [.ro .byte b, .any, .any, .any, .any, .any, .any, .any, .any, .any, .any, .any, .any, .any, .any, .any, .any, .any, .any, .any, .any, .any, .any, .any, .any, .any, .any, .any, .any, .any, .any, .any, .any, .any, .any, .any, .any, .any, .any, .any, .any, .any, .any, .any, .any, .any, .any, .any, .any, .any, .any, .any]) fn_9 rfl rfl rfl rfl fun R hR => ?_
      (have zx1 := @hbd; have zx2 := @hs; have zx3 := @hie; all_goals (try ((first | (with_reducible refine wp_id ?_) | (with_reducible refine does_id ?_) | (with_reducible refine ops_id ?_)); refine walk ?_; (repeat' (first | exact trivial | with_reducible refine And.intro ?_ ?_)); all_goals (repeat (first | (with_reducible refine ImpB.mk fun hb => ?_) | (with_reducible refine ImpK.mk fun hK => ?_) | (with_reducible refine ImpF.mk fun hF => ?_) | (with_reducible refine ImpQ.mk fun hp => ?_) | (with_reducible refine AllE.mk fun p => ?_) | (with_reducible refine AllR.mk fun rest => ?_) | (with_reducible refine AllK.mk fun K => ?_))))); repeat' (with_reducible refine And.intro ?_ ?_))
      all_goals first | omega | assumption | (intro x hx; cases hx; done) | (exfalso; rename_i q1; exact absurd q1 (by decide)) | ((focus (refine ⟨_, _, Gh.refl, [], rfl, ?_⟩; (refine ⟨?_, ?_, ?_⟩ <;> simp only [go_sem, List.range, List.range.loop, List.nodup_cons, List.nodup_nil, List.mem_cons, List.not_mem_nil, or_false, or_self, decide_true, decide_false, Int.reduceToNat, Nat.min_eq_left, Nat.min_eq_right, Int.reducePow, Nat.reducePow, Int.reduceLE, Int.reduceLT, Int.reduceMul, Int.reduceAdd, Int.reduceSub, Int.reduceNeg, Bool.not_true, Bool.not_false, Bool.not_not, ↓reduceIte, Nat.reduceAdd, Nat.reduceSub, Nat.reduceMul, Nat.reduceEqDiff, reduceCtorEq, Nat.reduceLT, Nat.reduceLeDiff, Nat.reduceGT]); (try any_goals (refine ⟨?_, ?_⟩)); (try any_goals (with_reducible rfl)))); done) | skip
    | some l =>
      obtain ⟨h1, h2⟩ := decE_iff.1 hd
      have h3 := lit_chk h1
      have h4 := ((chk_iff l 256).1 h1).2.2
      have hs : sdecA (decE b) = .tup [.ro .ent l, .int .i64 0] := by rw [hd]; rfl
      refine w_body (rs := [.tmp 2]) (tm := [.ro .byte b, .any, .any, .any, .any, .any, .any, .any, .any, .any, .any, .any, .any, .any, .any, .any, .any, .any, .any, .any, .any, .any, .any, .any, .any, .any, .any, .any, .any, .any, .any, .any, .any, .any, .any, .any, .any, .any, .any, .any, .any, .any, .any, .any, .any, .any, .any, .any, .any, .any, .any, .any]) fn_9 rfl rfl rfl rfl fun R hR => ?_
      (have zx1 := @hbd; have zx2 := @hs; have zx3 := @hid; have zx4 := @hie; have zx5 := @h2; all_goals (try ((first | (with_reducible refine wp_id ?_) | (with_reducible refine does_id ?_) | (with_reducible refine ops_id ?_)); refine walk ?_; (repeat' (first | exact trivial | with_reducible refine And.intro ?_ ?_)); all_goals (repeat (first | (with_reducible refine ImpB.mk fun hb => ?_) | (with_reducible refine ImpK.mk fun hK => ?_) | (with_reducible refine ImpF.mk fun hF => ?_) | (with_reducible refine ImpQ.mk fun hp => ?_) | (with_reducible refine AllE.mk fun p => ?_) | (with_reducible refine AllR.mk fun rest => ?_) | (with_reducible refine AllK.mk fun K => ?_))))); repeat' (with_reducible refine And.intro ?_ ?_))
      all_goals first | omega | assumption | ((focus (refine ⟨_, _, Gh.refl, [], rfl, ?_⟩; (refine ⟨?_, ?_, ?_⟩ <;> simp only [go_sem, List.range, List.range.loop, List.nodup_cons, List.nodup_nil, List.mem_cons, List.not_mem_nil, or_false, or_self, decide_true, decide_false, Int.reduceToNat, Nat.min_eq_left, Nat.min_eq_right, Int.reducePow, Nat.reducePow, Int.reduceLE, Int.reduceLT, Int.reduceMul, Int.reduceAdd, Int.reduceSub, Int.reduceNeg, Bool.not_true, Bool.not_false, Bool.not_not, ↓reduceIte, Nat.reduceAdd, Nat.reduceSub, Nat.reduceMul, Nat.reduceEqDiff, reduceCtorEq, Nat.reduceLT, Nat.reduceLeDiff, Nat.reduceGT]); (try any_goals (refine ⟨?_, ?_⟩)); (try any_goals (with_reducible rfl)))); done) | skip
  · have hbd : decide ((3000 : Int) < b.length) = true := decide_eq_true (by omega)
    refine w_body (rs := [.tmp 2]) (tm := [.ro .byte b, .any, .any, .any, .any, .any, .any, .any, .any, .any, .any, .any, .any, .any, .any, .any, .any, .any, .any, .any, .any, .any, .any, .any, .any, .any, .any, .any, .any, .any, .any, .any, .any, .any, .any, .any, .any, .any, .any, .any, .any, .any, .any, .any, .any, .any, .any, .any, .any, .any, .any, .any]) fn_9 rfl rfl rfl rfl fun R hR => ?_
    (have zx1 := @hbd; all_goals (try ((first | (with_reducible refine wp_id ?_) | (with_reducible refine does_id ?_) | (with_reducible refine ops_id ?_)); refine walk ?_; (repeat' (first | exact trivial | with_reducible refine And.intro ?_ ?_)); all_goals (repeat (first | (with_reducible refine ImpB.mk fun hb => ?_) | (with_reducible refine ImpK.mk fun hK => ?_) | (with_reducible refine ImpF.mk fun hF => ?_) | (with_reducible refine ImpQ.mk fun hp => ?_) | (with_reducible refine AllE.mk fun p => ?_) | (with_reducible refine AllR.mk fun rest => ?_) | (with_reducible refine AllK.mk fun K => ?_))))); repeat' (with_reducible refine And.intro ?_ ?_))
    (focus (refine ⟨_, _, Gh.refl, [], rfl, ?_⟩; (refine ⟨?_, ?_, ?_⟩ <;> simp only [go_sem, List.range, List.range.loop, List.nodup_cons, List.nodup_nil, List.mem_cons, List.not_mem_nil, or_false, or_self, decide_true, decide_false, Int.reduceToNat, Nat.min_eq_left, Nat.min_eq_right, Int.reducePow, Nat.reducePow, Int.reduceLE, Int.reduceLT, Int.reduceMul, Int.reduceAdd, Int.reduceSub, Int.reduceNeg, Bool.not_true, Bool.not_false, Bool.not_not, ↓reduceIte, Nat.reduceAdd, Nat.reduceSub, Nat.reduceMul, Nat.reduceEqDiff, reduceCtorEq, Nat.reduceLT, Nat.reduceLeDiff, Nat.reduceGT]); (try any_goals (refine ⟨?_, ?_⟩)); (try any_goals (with_reducible rfl))))
end Go.V

set_option maxRecDepth 100000
set_option maxHeartbeats 4000000
namespace Go.V
open Go.Proofs
def ordE (ts : List Int) (j : Nat) : Ent := ⟨(j : Int) + 1, 1 + ts.getD j 0, ((j % 16 : Nat) : Int), ⟨0, j, 1, [], []⟩⟩
theorem png_valid : ∀ j : Nat, j < 100 → validC ⟨0, (j : Int), 1, [], []⟩ = true := by decide +kernel
structure Ord (ts : List Int) (k : Nat) (m : List Ent) : Prop where
  J : J42 256 0 ⟨0, (k : Int) + 1, off0, m, []⟩
  p : m.Perm ((List.range k).map (ordE ts))
theorem Ord.len {ts : List Int} {k : Nat} {m : List Ent} (h : Ord ts k m) : m.length = k := by
  have := h.p.length_eq
  rwa [List.length_map, List.length_range] at this
theorem Ord.err {ts : List Int} {k : Nat} {m : List Ent} (h : Ord ts k m) (hk : k < 100) (ht : ∀ j, 0 ≤ ts.getD j 0 ∧ ts.getD j 0 ≤ 65535) : insErr 256 0 ((k : Int) + 1) m.length (1 + ts.getD k 0) ((k % 16 : Nat) : Int) ⟨0, (k : Int), 1, [], []⟩ = 0 := by
  have h1 := ht k
  have h2 := png_valid k hk
  have h3 := h.len
  unfold insErr
  rw [h2, if_neg (by simp; omega), if_neg (by omega), if_neg (by omega)]
theorem Ord.step {ts : List Int} {k : Nat} {m : List Ent} (h : Ord ts k m) (hk : k < 100) (ht : ∀ j, 0 ≤ ts.getD j 0 ∧ ts.getD j 0 ≤ 65535) : Ord ts (k + 1) (srtE (m ++ [ordE ts k])) := by
  have he := h.err hk ht
  have hJ := h.J.ins 0 (1 + ts.getD k 0) ((k % 16 : Nat) : Int) ⟨0, (k : Int), 1, [], []⟩ ⟨by simp, by simp⟩
  have hp : passT 0 0 = 0 := by decide
  have hs : insS 256 ⟨0, (k : Int) + 1, off0, m, []⟩ 0 (1 + ts.getD k 0) ((k % 16 : Nat) : Int) ⟨0, (k : Int), 1, [], []⟩ = ⟨0, ((k + 1 : Nat) : Int) + 1, off0, srtE (m ++ [ordE ts k]), []⟩ := by
    unfold insS
    simp only [hp, he]
    rfl
  rw [hs] at hJ
  refine ⟨hJ, ?_⟩
  rw [List.range_succ, List.map_append]
  exact (srt_perm _).trans (h.p.append (List.Perm.refl _))
theorem Ord.get {ts : List Int} {N : Nat} {F : List Ent} (h : Ord ts N F) {i : Nat} (hi : i < N) : ∃ j, j < N ∧ F.getD i Ent.zero = ordE ts j := by
  have hl := h.len
  have hm : F.getD i Ent.zero ∈ F := by
    rw [List.getD_eq_getElem?_getD, List.getElem?_eq_getElem (by omega)]
    exact List.getElem_mem _
  have := h.p.mem_iff.1 hm
  obtain ⟨j, hj, e⟩ := List.mem_map.1 this
  exact ⟨j, List.mem_range.1 hj, e.symm⟩
theorem Ord.next {ts : List Int} {N : Nat} {F : List Ent} (h : Ord ts N F) {i : Nat} (hi : i + 1 < N) : (F.getD i Ent.zero).time < (F.getD (i + 1) Ent.zero).time ∨ ((F.getD i Ent.zero).time = (F.getD (i + 1) Ent.zero).time ∧ (F.getD i Ent.zero).id < (F.getD (i + 1) Ent.zero).id) := by
  have hl := h.len
  have h1 : befE (F[i + 1]'(by omega)) (F[i]'(by omega)) = false := List.pairwise_iff_getElem.1 h.J.srt i (i + 1) (by show i < F.length; omega) (by show i + 1 < F.length; omega) (by omega)
  have h2 := List.pairwise_iff_getElem.1 h.J.nd i (i + 1) (by rw [List.length_map]; show i < F.length; omega) (by rw [List.length_map]; show i + 1 < F.length; omega) (by omega)
  simp only [List.getElem_map] at h2
  have h2' : ¬ (F[i]'(by omega)).id = (F[i + 1]'(by omega)).id := h2
  have h3 := (bef_not _ _).1 h1
  have e1 : F.getD i Ent.zero = F[i]'(by omega) := by rw [List.getD_eq_getElem?_getD, List.getElem?_eq_getElem (by omega)]; rfl
  have e2 : F.getD (i + 1) Ent.zero = F[i + 1]'(by omega) := by rw [List.getD_eq_getElem?_getD, List.getElem?_eq_getElem (by omega)]; rfl
  rw [e1, e2]
  clear h2 e1 e2 h1
  omega
theorem Ord.due {ts : List Int} {N n : Nat} {F : List Ent} {now : Int} (h : Ord ts N F) (hN : N ≤ 100) (hn : n ≤ N) (h1 : 0 ≤ now ∧ now ≤ 1099511627776) : J42 256 0 ⟨now, (N : Int) + 1, off0, F.drop n, []⟩ where
  srt := h.J.srt.sublist (List.drop_sublist _ _)
  nd := h.J.nd.sublist ((List.drop_sublist _ _).map _)
  ids := fun x hx => h.J.ids x (List.mem_of_mem_drop hx)
  nx := h.J.nx
  val := fun x hx => h.J.val x (List.mem_of_mem_drop hx)
  now := h1
  sm := fun x hx => h.J.sm x (List.mem_of_mem_drop hx)
  len := by have := h.len; show ((F.drop n).length : Int) ≤ 256; rw [List.length_drop]; omega
  cp := h.J.cp
  ol := h.J.ol
  oo := h.J.oo
  fl := h.J.fl
end Go.V

set_option maxRecDepth 100000
namespace Go.V
open Go.Proofs
theorem byte_enc {n : Int} (h : IntKind.u8.has n) : Ety.enc .byte (UInt8.ofNat n.toNat) = [.int .u8 n] := by
  have h1 : 0 ≤ n ∧ n ≤ 255 := h
  have : ((UInt8.ofNat n.toNat).toNat : Int) = n := by simp; omega
  show [AV.int .u8 ((UInt8.ofNat n.toNat).toNat : Int)] = _
  rw [this]
theorem op_T3 (w : World) : Opens Try.prog w 3 fun l => ∃ n, IntKind.i64.has n ∧ l = [.int .i64 n] := Opens.int Try.underlying3
theorem arg_T3 (w : World) : OpensV Try.prog w 3 fun a => ∃ n, IntKind.i64.has n ∧ a = .int .i64 n := fun H enc r b0 v d p hv hd => by
  obtain ⟨a, ⟨n, h1, e⟩, h⟩ := (op_T3 w).arg1 (one_of Try.underlying3 rfl) H enc r b0 v d p hv hd
  cases e
  exact ⟨_, ⟨n, h1, rfl⟩, h⟩
def okE_int (x : Ety.T .int) : Prop := IntKind.i64.has x
def okE_byte (x : Ety.T .byte) : Prop := True
def okS_Cmd (x : Cmd) : Prop := IntKind.i64.has x.src ∧ IntKind.i64.has x.num ∧ IntKind.i64.has x.srv ∧ (x.args.length ≤ maxLen ∧ ∀ y ∈ x.args, okE_int y) ∧ (x.data.length ≤ maxLen ∧ ∀ y ∈ x.data, okE_byte y)
def okS_Stp (x : Stp) : Prop := IntKind.u8.has x.kind ∧ IntKind.i64.has x.now ∧ IntKind.i64.has x.n ∧ IntKind.i64.has x.group ∧ True ∧ okS_Cmd x.c
theorem op_T5 (w : World) : Opens Try.prog w 5 fun l => ∃ n, IntKind.u8.has n ∧ l = [.int .u8 n] := Opens.int Try.underlying5
theorem op_T4 (w : World) : Opens Try.prog w 4 fun l => ∃ b, l = [.bool b] := Opens.bool Try.underlying4
theorem op_T28 (w : World) : Opens Try.prog w 28 fun l => ∃ xs : List (Ety.T .int), xs.length ≤ maxLen ∧ (∀ x ∈ xs, okE_int x) ∧ l = [.ro .int xs] :=
  Opens.slice (e := .int) (ok := okE_int) Try.underlying28 (by kernel_rfl) (op_T3 w) fun l ⟨n, h, e⟩ => ⟨n, e.symm, h⟩
theorem op_T34 (w : World) : Opens Try.prog w 34 fun l => ∃ xs : List (Ety.T .byte), xs.length ≤ maxLen ∧ (∀ x ∈ xs, okE_byte x) ∧ l = [.ro .byte xs] :=
  Opens.slice (e := .byte) (ok := okE_byte) Try.underlying34 (by kernel_rfl) (op_T5 w) fun l ⟨n, h, e⟩ => ⟨UInt8.ofNat n.toNat, by rw [e]; exact byte_enc h, trivial⟩
theorem op_T36 (w : World) : Opens Try.prog w 36 fun l => ∃ x : Cmd, okS_Cmd x ∧ l = [.int .i64 x.src, .int .i64 x.num, .int .i64 x.srv, .ro .int x.args, .ro .byte x.data] := by
  refine (Opens.fields Try.underlying36 (Ss := [_, _, _, _, _]) ⟨op_T3 w, op_T3 w, op_T3 w, op_T28 w, op_T34 w, trivial⟩ (by kernel_rfl) (by kernel_rfl)).mono ?_
  rintro l ⟨ls, h1, h2, rfl⟩
  obtain ⟨a0, a1, a2, a3, a4, rfl⟩ : ∃ a0 a1 a2 a3 a4, ls = [a0, a1, a2, a3, a4] := by
    match ls, h1 with
    | [a0, a1, a2, a3, a4], _ => exact ⟨a0, a1, a2, a3, a4, rfl⟩
  obtain ⟨x0, h10, rfl⟩ := h2 0 _ _ rfl rfl
  obtain ⟨x1, h11, rfl⟩ := h2 1 _ _ rfl rfl
  obtain ⟨x2, h12, rfl⟩ := h2 2 _ _ rfl rfl
  obtain ⟨x3, h13, g13, rfl⟩ := h2 3 _ _ rfl rfl
  obtain ⟨x4, h14, g14, rfl⟩ := h2 4 _ _ rfl rfl
  exact ⟨⟨x0, x1, x2, x3, x4⟩, ⟨h10, h11, h12, ⟨h13, g13⟩, ⟨h14, g14⟩⟩, rfl⟩
theorem op_T38 (w : World) : Opens Try.prog w 38 fun l => ∃ x : Stp, okS_Stp x ∧ l = [.int .u8 x.kind, .int .i64 x.now, .int .i64 x.n, .int .i64 x.group, .bool x.on, .int .i64 x.c.src, .int .i64 x.c.num, .int .i64 x.c.srv, .ro .int x.c.args, .ro .byte x.c.data] := by
  refine (Opens.fields Try.underlying38 (Ss := [_, _, _, _, _, _]) ⟨op_T5 w, op_T3 w, op_T3 w, op_T3 w, op_T4 w, op_T36 w, trivial⟩ (by kernel_rfl) (by kernel_rfl)).mono ?_
  rintro l ⟨ls, h1, h2, rfl⟩
  obtain ⟨a0, a1, a2, a3, a4, a5, rfl⟩ : ∃ a0 a1 a2 a3 a4 a5, ls = [a0, a1, a2, a3, a4, a5] := by
    match ls, h1 with
    | [a0, a1, a2, a3, a4, a5], _ => exact ⟨a0, a1, a2, a3, a4, a5, rfl⟩
  obtain ⟨x0, h10, rfl⟩ := h2 0 _ _ rfl rfl
  obtain ⟨x1, h11, rfl⟩ := h2 1 _ _ rfl rfl
  obtain ⟨x2, h12, rfl⟩ := h2 2 _ _ rfl rfl
  obtain ⟨x3, h13, rfl⟩ := h2 3 _ _ rfl rfl
  obtain ⟨x4, rfl⟩ := h2 4 _ _ rfl rfl
  obtain ⟨x5, h15, rfl⟩ := h2 5 _ _ rfl rfl
  exact ⟨⟨x0, x1, x2, x3, x4, x5⟩, ⟨h10, h11, h12, h13, trivial, h15⟩, rfl⟩
def okE_stp (x : Ety.T .stp) : Prop := okS_Stp x
theorem op_T22 (w : World) : Opens Try.prog w 22 fun l => ∃ xs : List (Ety.T .stp), xs.length ≤ maxLen ∧ (∀ x ∈ xs, okE_stp x) ∧ l = [.ro .stp xs] :=
  Opens.slice (e := .stp) (ok := okE_stp) Try.underlying22 (by kernel_rfl) (op_T38 w) fun l ⟨x, h, e⟩ => ⟨x, e.symm, h⟩
theorem arg_T22 (w : World) : OpensV Try.prog w 22 fun a => ∃ xs : List (Ety.T .stp), xs.length ≤ maxLen ∧ (∀ x ∈ xs, okE_stp x) ∧ a = .ro .stp xs := fun H enc r b0 v d p hv hd => by
  obtain ⟨a, ⟨n, h1, h2, e⟩, h⟩ := (op_T22 w).arg1 (one_of Try.underlying22 rfl) H enc r b0 v d p hv hd
  cases e
  exact ⟨_, ⟨n, h1, h2, rfl⟩, h⟩
def okS_Ent (x : Ent) : Prop := IntKind.i64.has x.id ∧ IntKind.i64.has x.time ∧ IntKind.i64.has x.group ∧ okS_Cmd x.c
theorem op_T48 (w : World) : Opens Try.prog w 48 fun l => ∃ x : Ent, okS_Ent x ∧ l = [.int .i64 x.id, .int .i64 x.time, .int .i64 x.group, .int .i64 x.c.src, .int .i64 x.c.num, .int .i64 x.c.srv, .ro .int x.c.args, .ro .byte x.c.data] := by
  refine (Opens.fields Try.underlying48 (Ss := [_, _, _, _]) ⟨op_T3 w, op_T3 w, op_T3 w, op_T36 w, trivial⟩ (by kernel_rfl) (by kernel_rfl)).mono ?_
  rintro l ⟨ls, h1, h2, rfl⟩
  obtain ⟨a0, a1, a2, a3, rfl⟩ : ∃ a0 a1 a2 a3, ls = [a0, a1, a2, a3] := by
    match ls, h1 with
    | [a0, a1, a2, a3], _ => exact ⟨a0, a1, a2, a3, rfl⟩
  obtain ⟨x0, h10, rfl⟩ := h2 0 _ _ rfl rfl
  obtain ⟨x1, h11, rfl⟩ := h2 1 _ _ rfl rfl
  obtain ⟨x2, h12, rfl⟩ := h2 2 _ _ rfl rfl
  obtain ⟨x3, h13, rfl⟩ := h2 3 _ _ rfl rfl
  exact ⟨⟨x0, x1, x2, x3⟩, ⟨h10, h11, h12, h13⟩, rfl⟩
def okE_ent (x : Ety.T .ent) : Prop := okS_Ent x
theorem op_T27 (w : World) : Opens Try.prog w 27 fun l => ∃ xs : List (Ety.T .ent), xs.length ≤ maxLen ∧ (∀ x ∈ xs, okE_ent x) ∧ l = [.ro .ent xs] :=
  Opens.slice (e := .ent) (ok := okE_ent) Try.underlying27 (by kernel_rfl) (op_T48 w) fun l ⟨x, h, e⟩ => ⟨x, e.symm, h⟩
theorem arg_T27 (w : World) : OpensV Try.prog w 27 fun a => ∃ xs : List (Ety.T .ent), xs.length ≤ maxLen ∧ (∀ x ∈ xs, okE_ent x) ∧ a = .ro .ent xs := fun H enc r b0 v d p hv hd => by
  obtain ⟨a, ⟨n, h1, h2, e⟩, h⟩ := (op_T27 w).arg1 (one_of Try.underlying27 rfl) H enc r b0 v d p hv hd
  cases e
  exact ⟨_, ⟨n, h1, h2, rfl⟩, h⟩
theorem arg_T34 (w : World) : OpensV Try.prog w 34 fun a => ∃ xs : List (Ety.T .byte), xs.length ≤ maxLen ∧ (∀ x ∈ xs, okE_byte x) ∧ a = .ro .byte xs := fun H enc r b0 v d p hv hd => by
  obtain ⟨a, ⟨n, h1, h2, e⟩, h⟩ := (op_T34 w).arg1 (one_of Try.underlying34 rfl) H enc r b0 v d p hv hd
  cases e
  exact ⟨_, ⟨n, h1, h2, rfl⟩, h⟩
theorem op_T46 (w : World) : Opens Try.prog w 46 fun l => ∃ n, IntKind.u16.has n ∧ l = [.int .u16 n] := Opens.int Try.underlying46
def okE_u16 (x : Ety.T .u16) : Prop := IntKind.u16.has x
theorem op_T42 (w : World) : Opens Try.prog w 42 fun l => ∃ xs : List (Ety.T .u16), xs.length ≤ maxLen ∧ (∀ x ∈ xs, okE_u16 x) ∧ l = [.ro .u16 xs] :=
  Opens.slice (e := .u16) (ok := okE_u16) Try.underlying42 (by kernel_rfl) (op_T46 w) fun l ⟨n, h, e⟩ => ⟨n, e.symm, h⟩
theorem arg_T42 (w : World) : OpensV Try.prog w 42 fun a => ∃ xs : List (Ety.T .u16), xs.length ≤ maxLen ∧ (∀ x ∈ xs, okE_u16 x) ∧ a = .ro .u16 xs := fun H enc r b0 v d p hv hd => by
  obtain ⟨a, ⟨n, h1, h2, e⟩, h⟩ := (op_T42 w).arg1 (one_of Try.underlying42 rfl) H enc r b0 v d p hv hd
  cases e
  exact ⟨_, ⟨n, h1, h2, rfl⟩, h⟩
/-- a law that was walked -/
theorem law_true {g : FuncId} {la : List AV} {vs : List Value} {w : World} (H : DoesK Try.prog 0 g la [] (EndF 0 (.bool true) [])) (hb : brL [] [] la la) (hr : LRel (oldR w) [] la vs) : Calls Try.prog g vs.toArray w fun e w' => e = .returned (.bool true) ∧ Go.RowKit.Below w.heap.size w w' :=
  does_true (frame_pure H hb (.inr rfl) (fun _ => rfl) rfl) hr
end Go.V
