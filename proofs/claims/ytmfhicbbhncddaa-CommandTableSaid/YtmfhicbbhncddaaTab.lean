/-
  The command table, as the module and as the reference hold it.
-/
import Derived.Test.YtmfhicbbhncddaaOct
set_option linter.unusedVariables false
set_option linter.unusedSimpArgs false
set_option maxRecDepth 100000
set_option maxHeartbeats 1000000
namespace Go.V
open Go.Proofs
/-- the rows of the table: arguments, whether data follow, least and most mode -/
def rowsL : List (List Int) := [[0, 0, 1, 4], [1, 0, 1, 4], [2, 0, 1, 4], [2, 1, 1, 4], [1, 0, 1, 4], [2, 0, 1, 4], [2, 0, 1, 4], [2, 0, 1, 4], [1, 1, 2, 4], [1, 0, 2, 4], [2, 0, 2, 4], [2, 1, 2, 4], [1, 0, 2, 4], [2, 0, 2, 4], [2, 0, 2, 4], [2, 1, 2, 4], [1, 0, 3, 4], [1, 0, 1, 4], [2, 1, 1, 2], [2, 0, 1, 4], [2, 0, 1, 4], [1, 1, 2, 4], [0, 1, 2, 4], [1, 0, 1, 4], [2, 0, 1, 2], [3, 0, 2, 4], [2, 0, 2, 4], [0, 0, 1, 2]]
def namesL : List (List UInt8) := [[112, 105, 110, 103], [115, 101, 116, 109, 111, 100, 101], [115, 101, 116, 112, 97, 114, 97, 109], [104, 107, 100, 101, 102, 105, 110, 101], [104, 107, 100, 101, 108, 101, 116, 101], [104, 107, 101, 110, 97, 98, 108, 101], [109, 111, 110, 101, 110, 97, 98, 108, 101], [101, 118, 101, 110, 116, 101, 110, 97, 98, 108, 101], [97, 99, 116, 97, 100, 100], [97, 99, 116, 100, 101, 108, 101, 116, 101], [97, 99, 116, 101, 110, 97, 98, 108, 101], [115, 99, 104, 101, 100, 105, 110, 115, 101, 114, 116], [115, 99, 104, 101, 100, 100, 101, 108, 101, 116, 101], [115, 99, 104, 101, 100, 115, 104, 105, 102, 116], [115, 99, 104, 101, 100, 101, 110, 97, 98, 108, 101], [115, 101, 113, 108, 111, 97, 100], [115, 101, 113, 115, 116, 97, 114, 116], [115, 101, 113, 115, 116, 111, 112], [109, 101, 109, 108, 111, 97, 100], [109, 101, 109, 100, 117, 109, 112], [109, 101, 109, 99, 104, 101, 99, 107], [102, 105, 108, 101, 115, 101, 110, 100], [102, 105, 108, 101, 100, 101, 108, 101, 116, 101], [102, 105, 108, 101, 99, 111, 110, 116, 114, 111, 108], [117, 110, 105, 116, 115, 119, 105, 116, 99, 104], [114, 101, 99, 114, 101, 112, 108, 97, 121], [114, 101, 99, 100, 101, 108, 101, 116, 101], [114, 101, 98, 111, 111, 116]]
def rowL (s : Int) : List Int := if s < 1 ∨ 28 < s then [] else rowsL.getD (s.toNat - 1) []
def nameL (s : Int) : List UInt8 := if s < 1 ∨ 28 < s then [] else namesL.getD (s.toNat - 1) []
def argN (s : Int) (j : Nat) : Int := (rowL s).getD j 0
def rowC (s : Int) : List AV := [.str (nameL s), .int .i64 (argN s 0), .bool (argN s 1 == 1), .int .i64 (argN s 2), .int .i64 (argN s 3)]
def tabF : List AV := List.flatten [[.str [], .int .i64 0, .bool false, .int .i64 0, .int .i64 0], [.str [112, 105, 110, 103], .int .i64 0, .bool false, .int .i64 1, .int .i64 4], [.str [115, 101, 116, 109, 111, 100, 101], .int .i64 1, .bool false, .int .i64 1, .int .i64 4], [.str [115, 101, 116, 112, 97, 114, 97, 109], .int .i64 2, .bool false, .int .i64 1, .int .i64 4], [.str [104, 107, 100, 101, 102, 105, 110, 101], .int .i64 2, .bool true, .int .i64 1, .int .i64 4], [.str [104, 107, 100, 101, 108, 101, 116, 101], .int .i64 1, .bool false, .int .i64 1, .int .i64 4], [.str [104, 107, 101, 110, 97, 98, 108, 101], .int .i64 2, .bool false, .int .i64 1, .int .i64 4], [.str [109, 111, 110, 101, 110, 97, 98, 108, 101], .int .i64 2, .bool false, .int .i64 1, .int .i64 4], [.str [101, 118, 101, 110, 116, 101, 110, 97, 98, 108, 101], .int .i64 2, .bool false, .int .i64 1, .int .i64 4], [.str [97, 99, 116, 97, 100, 100], .int .i64 1, .bool true, .int .i64 2, .int .i64 4], [.str [97, 99, 116, 100, 101, 108, 101, 116, 101], .int .i64 1, .bool false, .int .i64 2, .int .i64 4], [.str [97, 99, 116, 101, 110, 97, 98, 108, 101], .int .i64 2, .bool false, .int .i64 2, .int .i64 4], [.str [115, 99, 104, 101, 100, 105, 110, 115, 101, 114, 116], .int .i64 2, .bool true, .int .i64 2, .int .i64 4], [.str [115, 99, 104, 101, 100, 100, 101, 108, 101, 116, 101], .int .i64 1, .bool false, .int .i64 2, .int .i64 4], [.str [115, 99, 104, 101, 100, 115, 104, 105, 102, 116], .int .i64 2, .bool false, .int .i64 2, .int .i64 4], [.str [115, 99, 104, 101, 100, 101, 110, 97, 98, 108, 101], .int .i64 2, .bool false, .int .i64 2, .int .i64 4], [.str [115, 101, 113, 108, 111, 97, 100], .int .i64 2, .bool true, .int .i64 2, .int .i64 4], [.str [115, 101, 113, 115, 116, 97, 114, 116], .int .i64 1, .bool false, .int .i64 3, .int .i64 4], [.str [115, 101, 113, 115, 116, 111, 112], .int .i64 1, .bool false, .int .i64 1, .int .i64 4], [.str [109, 101, 109, 108, 111, 97, 100], .int .i64 2, .bool true, .int .i64 1, .int .i64 2], [.str [109, 101, 109, 100, 117, 109, 112], .int .i64 2, .bool false, .int .i64 1, .int .i64 4], [.str [109, 101, 109, 99, 104, 101, 99, 107], .int .i64 2, .bool false, .int .i64 1, .int .i64 4], [.str [102, 105, 108, 101, 115, 101, 110, 100], .int .i64 1, .bool true, .int .i64 2, .int .i64 4], [.str [102, 105, 108, 101, 100, 101, 108, 101, 116, 101], .int .i64 0, .bool true, .int .i64 2, .int .i64 4], [.str [102, 105, 108, 101, 99, 111, 110, 116, 114, 111, 108], .int .i64 1, .bool false, .int .i64 1, .int .i64 4], [.str [117, 110, 105, 116, 115, 119, 105, 116, 99, 104], .int .i64 2, .bool false, .int .i64 1, .int .i64 2], [.str [114, 101, 99, 114, 101, 112, 108, 97, 121], .int .i64 3, .bool false, .int .i64 2, .int .i64 4], [.str [114, 101, 99, 100, 101, 108, 101, 116, 101], .int .i64 2, .bool false, .int .i64 2, .int .i64 4], [.str [114, 101, 98, 111, 111, 116], .int .i64 0, .bool false, .int .i64 1, .int .i64 2]]
theorem tab_len : tabF.length = 145 := rfl
theorem tab_row0 : AV.agg ((tabF.drop 0).take 5) = .agg (rowC 0) := by simp [tabF, rowC, nameL, argN, rowL, namesL, rowsL]
theorem tab_row1 : AV.agg ((tabF.drop 5).take 5) = .agg (rowC 1) := by simp [tabF, rowC, nameL, argN, rowL, namesL, rowsL]
theorem tab_row2 : AV.agg ((tabF.drop 10).take 5) = .agg (rowC 2) := by simp [tabF, rowC, nameL, argN, rowL, namesL, rowsL]
theorem tab_row3 : AV.agg ((tabF.drop 15).take 5) = .agg (rowC 3) := by simp [tabF, rowC, nameL, argN, rowL, namesL, rowsL]
theorem tab_row4 : AV.agg ((tabF.drop 20).take 5) = .agg (rowC 4) := by simp [tabF, rowC, nameL, argN, rowL, namesL, rowsL]
theorem tab_row5 : AV.agg ((tabF.drop 25).take 5) = .agg (rowC 5) := by simp [tabF, rowC, nameL, argN, rowL, namesL, rowsL]
theorem tab_row6 : AV.agg ((tabF.drop 30).take 5) = .agg (rowC 6) := by simp [tabF, rowC, nameL, argN, rowL, namesL, rowsL]
theorem tab_row7 : AV.agg ((tabF.drop 35).take 5) = .agg (rowC 7) := by simp [tabF, rowC, nameL, argN, rowL, namesL, rowsL]
theorem tab_row8 : AV.agg ((tabF.drop 40).take 5) = .agg (rowC 8) := by simp [tabF, rowC, nameL, argN, rowL, namesL, rowsL]
theorem tab_row9 : AV.agg ((tabF.drop 45).take 5) = .agg (rowC 9) := by simp [tabF, rowC, nameL, argN, rowL, namesL, rowsL]
theorem tab_row10 : AV.agg ((tabF.drop 50).take 5) = .agg (rowC 10) := by simp [tabF, rowC, nameL, argN, rowL, namesL, rowsL]
theorem tab_row11 : AV.agg ((tabF.drop 55).take 5) = .agg (rowC 11) := by simp [tabF, rowC, nameL, argN, rowL, namesL, rowsL]
theorem tab_row12 : AV.agg ((tabF.drop 60).take 5) = .agg (rowC 12) := by simp [tabF, rowC, nameL, argN, rowL, namesL, rowsL]
theorem tab_row13 : AV.agg ((tabF.drop 65).take 5) = .agg (rowC 13) := by simp [tabF, rowC, nameL, argN, rowL, namesL, rowsL]
theorem tab_row14 : AV.agg ((tabF.drop 70).take 5) = .agg (rowC 14) := by simp [tabF, rowC, nameL, argN, rowL, namesL, rowsL]
theorem tab_row15 : AV.agg ((tabF.drop 75).take 5) = .agg (rowC 15) := by simp [tabF, rowC, nameL, argN, rowL, namesL, rowsL]
theorem tab_row16 : AV.agg ((tabF.drop 80).take 5) = .agg (rowC 16) := by simp [tabF, rowC, nameL, argN, rowL, namesL, rowsL]
theorem tab_row17 : AV.agg ((tabF.drop 85).take 5) = .agg (rowC 17) := by simp [tabF, rowC, nameL, argN, rowL, namesL, rowsL]
theorem tab_row18 : AV.agg ((tabF.drop 90).take 5) = .agg (rowC 18) := by simp [tabF, rowC, nameL, argN, rowL, namesL, rowsL]
theorem tab_row19 : AV.agg ((tabF.drop 95).take 5) = .agg (rowC 19) := by simp [tabF, rowC, nameL, argN, rowL, namesL, rowsL]
theorem tab_row20 : AV.agg ((tabF.drop 100).take 5) = .agg (rowC 20) := by simp [tabF, rowC, nameL, argN, rowL, namesL, rowsL]
theorem tab_row21 : AV.agg ((tabF.drop 105).take 5) = .agg (rowC 21) := by simp [tabF, rowC, nameL, argN, rowL, namesL, rowsL]
theorem tab_row22 : AV.agg ((tabF.drop 110).take 5) = .agg (rowC 22) := by simp [tabF, rowC, nameL, argN, rowL, namesL, rowsL]
theorem tab_row23 : AV.agg ((tabF.drop 115).take 5) = .agg (rowC 23) := by simp [tabF, rowC, nameL, argN, rowL, namesL, rowsL]
theorem tab_row24 : AV.agg ((tabF.drop 120).take 5) = .agg (rowC 24) := by simp [tabF, rowC, nameL, argN, rowL, namesL, rowsL]
theorem tab_row25 : AV.agg ((tabF.drop 125).take 5) = .agg (rowC 25) := by simp [tabF, rowC, nameL, argN, rowL, namesL, rowsL]
theorem tab_row26 : AV.agg ((tabF.drop 130).take 5) = .agg (rowC 26) := by simp [tabF, rowC, nameL, argN, rowL, namesL, rowsL]
theorem tab_row27 : AV.agg ((tabF.drop 135).take 5) = .agg (rowC 27) := by simp [tabF, rowC, nameL, argN, rowL, namesL, rowsL]
theorem tab_row28 : AV.agg ((tabF.drop 140).take 5) = .agg (rowC 28) := by simp [tabF, rowC, nameL, argN, rowL, namesL, rowsL]
theorem tab_row (n : Nat) (hn : n < 29) : partA Try.prog 50 tabF (n * szT Try.prog 50) = .agg (rowC n) := by
  rw [partA, kd_50, sz_50]
  dsimp only
  match n with
  | 0 => exact tab_row0
  | 1 => exact tab_row1
  | 2 => exact tab_row2
  | 3 => exact tab_row3
  | 4 => exact tab_row4
  | 5 => exact tab_row5
  | 6 => exact tab_row6
  | 7 => exact tab_row7
  | 8 => exact tab_row8
  | 9 => exact tab_row9
  | 10 => exact tab_row10
  | 11 => exact tab_row11
  | 12 => exact tab_row12
  | 13 => exact tab_row13
  | 14 => exact tab_row14
  | 15 => exact tab_row15
  | 16 => exact tab_row16
  | 17 => exact tab_row17
  | 18 => exact tab_row18
  | 19 => exact tab_row19
  | 20 => exact tab_row20
  | 21 => exact tab_row21
  | 22 => exact tab_row22
  | 23 => exact tab_row23
  | 24 => exact tab_row24
  | 25 => exact tab_row25
  | 26 => exact tab_row26
  | 27 => exact tab_row27
  | 28 => exact tab_row28
  | n + 29 => omega
theorem allN_i {n : Nat} {F : Nat → Prop} (h : ∀ j, j < n → F j) : allN n F := by
  induction n with
  | zero => trivial
  | succ n ih => exact ⟨ih fun j hj => h j (by omega), h n (by omega)⟩
theorem allN_e {n : Nat} {F : Nat → Prop} (h : allN n F) : ∀ j, j < n → F j := by
  induction n with
  | zero => intro j hj; omega
  | succ n ih =>
    intro j hj
    rcases Nat.lt_or_ge j n with h1 | h1
    · exact ih h.1 j h1
    · have : j = n := by omega
      subst this
      exact h.2
theorem idx_tab {i : Int} {K : AV → Prop} : idxK Try.prog (.array 29 50) (.agg tabF) (.int .i64 i) K = ((0 ≤ i ∧ i < 29) ∧ K (.agg (rowC i))) := by
  have e : ∀ j, j < 29 → partA Try.prog 50 tabF (j * szT Try.prog 50) = .agg (rowC j) := tab_row
  unfold idxK
  apply propext
  constructor
  · rintro ⟨h1, _, h3⟩
    refine ⟨h1, ?_⟩
    have := allN_e h3 i.toNat (by omega) (by omega)
    rw [e _ (by omega)] at this
    rw [show ((i.toNat : Nat) : Int) = i by omega] at this
    exact this
  · rintro ⟨h1, h2⟩
    refine ⟨h1, by rw [tab_len, sz_50], allN_i fun j hj hi => ?_⟩
    rw [e j hj, ← hi]
    exact h2
theorem b_row (s : Int) : DoesK Try.prog 0 31 [.int .i64 s] [] (EndF 0 (.ro .int (rowL s)) []) := by
  refine DoesK.close ?_
  refine w_body (rs := [.tmp 2]) (tm := [.int .i64 s, .any, .any, .any, .any, .any, .any, .any, .any, .any, .any, .any, .any, .any, .any, .any, .any, .any, .any, .any, .any, .any, .any, .any, .any, .any, .any, .any, .any, .any, .any, .any, .any, .any, .any, .any, .any, .any, .any, .any, .any, .any, .any, .any, .any, .any]) fn_31 rfl rfl rfl rfl fun R hR => ?_
  (all_goals (try ((first | (with_reducible refine wp_id ?_) | (with_reducible refine does_id ?_)); refine walk ?_; (repeat' (first | exact trivial | with_reducible refine And.intro ?_ ?_)); all_goals (repeat (first | (with_reducible refine ImpB.mk fun hb => ?_) | (with_reducible refine ImpK.mk fun hK => ?_) | (with_reducible refine ImpF.mk fun hF => ?_) | (with_reducible refine AllK.mk fun K => ?_))))); repeat' (with_reducible refine And.intro ?_ ?_))
  (all_goals (repeat (first | (clear hK; clear K) | (clear hE; clear E) | (clear hF; clear F) | (clear hR; clear R))); all_goals (try simp only [decide_eq_true_eq, decide_eq_false_iff_not, Bool.not_eq_true', Bool.not_eq_false', Bool.not_eq_true, Bool.not_eq_false, decide_not, decide_true, decide_false, Bool.decide_and, Bool.and_eq_true, Bool.or_eq_true, Bool.and_eq_false_imp, Decidable.not_not] at *); all_goals (try omega); all_goals (try (first | exact u8w_lo _ | exact u8w_hi _ | exact (bits8 _ _ _).1 | exact (bits8 _ _ _).2 | exact Int.natCast_nonneg _ | exact u8_ltI _)))
  all_goals try (rw [rowL, if_pos (by omega)])
  · (focus (refine ⟨_, _, Gh.refl, [], rfl, ?_⟩; (refine ⟨?_, ?_, ?_⟩ <;> simp only [go_sem, List.range, List.range.loop, List.nodup_cons, List.nodup_nil, List.mem_cons, List.not_mem_nil, or_false, or_self, Int.reduceToNat, Nat.min_eq_left, Nat.min_eq_right, Int.reducePow, Nat.reducePow, Int.reduceLE, Int.reduceLT, Int.reduceMul, Int.reduceAdd, Int.reduceSub, Int.reduceNeg, Bool.not_true, Bool.not_false, Bool.not_not, ↓reduceIte, Nat.reduceAdd, Nat.reduceSub, Nat.reduceMul, Nat.reduceEqDiff, reduceCtorEq, Nat.reduceLT, Nat.reduceLeDiff, Nat.reduceGT]); (try any_goals (refine ⟨?_, ?_⟩)); (try any_goals (with_reducible rfl))))
  · (focus (refine ⟨_, _, Gh.refl, [], rfl, ?_⟩; (refine ⟨?_, ?_, ?_⟩ <;> simp only [go_sem, List.range, List.range.loop, List.nodup_cons, List.nodup_nil, List.mem_cons, List.not_mem_nil, or_false, or_self, Int.reduceToNat, Nat.min_eq_left, Nat.min_eq_right, Int.reducePow, Nat.reducePow, Int.reduceLE, Int.reduceLT, Int.reduceMul, Int.reduceAdd, Int.reduceSub, Int.reduceNeg, Bool.not_true, Bool.not_false, Bool.not_not, ↓reduceIte, Nat.reduceAdd, Nat.reduceSub, Nat.reduceMul, Nat.reduceEqDiff, reduceCtorEq, Nat.reduceLT, Nat.reduceLeDiff, Nat.reduceGT]); (try any_goals (refine ⟨?_, ?_⟩)); (try any_goals (with_reducible rfl))))
  all_goals have hw : IntKind.i64.wrap (s - 1) = s - 1 := wrap_i64 _ (by omega) (by omega)
  all_goals rw [hw]
  · omega
  · omega
  · omega
  · rw [rowL, if_neg (by omega), show s.toNat - 1 = (s - 1).toNat from by omega]
    (focus (refine ⟨_, _, Gh.refl, [], rfl, ?_⟩; (refine ⟨?_, ?_, ?_⟩ <;> simp only [go_sem, List.range, List.range.loop, List.nodup_cons, List.nodup_nil, List.mem_cons, List.not_mem_nil, or_false, or_self, Int.reduceToNat, Nat.min_eq_left, Nat.min_eq_right, Int.reducePow, Nat.reducePow, Int.reduceLE, Int.reduceLT, Int.reduceMul, Int.reduceAdd, Int.reduceSub, Int.reduceNeg, Bool.not_true, Bool.not_false, Bool.not_not, ↓reduceIte, Nat.reduceAdd, Nat.reduceSub, Nat.reduceMul, Nat.reduceEqDiff, reduceCtorEq, Nat.reduceLT, Nat.reduceLeDiff, Nat.reduceGT]); (try any_goals (refine ⟨?_, ?_⟩)); (try any_goals (with_reducible rfl))))
    rfl
theorem c_row {h : List Ch} {K : KT} {s : Int} (H : K (.ro .int (rowL s)) h) : Does Try.prog 31 [.int .i64 s] h K :=
  frame_pure (b_row s) (br_cons br_int br_nil) (.inl rfl) (fun _ => rfl) H
abbrev i_row := Ctr.mk (i := 0) (g := 31) @c_row
attribute [instance] i_row
theorem b_names : DoesK Try.prog 0 45 [] [] (EndF 0 (.ro .str namesL) []) := by
  refine DoesK.close ?_
  refine w_body (rs := [.tmp 0]) (tm := [.any, .any]) fn_45 rfl rfl rfl rfl fun R hR => ?_
  (all_goals (try ((first | (with_reducible refine wp_id ?_) | (with_reducible refine does_id ?_)); refine walk ?_; (repeat' (first | exact trivial | with_reducible refine And.intro ?_ ?_)); all_goals (repeat (first | (with_reducible refine ImpB.mk fun hb => ?_) | (with_reducible refine ImpK.mk fun hK => ?_) | (with_reducible refine ImpF.mk fun hF => ?_) | (with_reducible refine AllK.mk fun K => ?_))))); repeat' (with_reducible refine And.intro ?_ ?_))
  (all_goals (repeat (first | (clear hK; clear K) | (clear hE; clear E) | (clear hF; clear F) | (clear hR; clear R))); all_goals (try simp only [decide_eq_true_eq, decide_eq_false_iff_not, Bool.not_eq_true', Bool.not_eq_false', Bool.not_eq_true, Bool.not_eq_false, decide_not, decide_true, decide_false, Bool.decide_and, Bool.and_eq_true, Bool.or_eq_true, Bool.and_eq_false_imp, Decidable.not_not] at *); all_goals (try omega); all_goals (try (first | exact u8w_lo _ | exact u8w_hi _ | exact (bits8 _ _ _).1 | exact (bits8 _ _ _).2 | exact Int.natCast_nonneg _ | exact u8_ltI _)))
  refine ⟨_, _, gh_frz (t := 0) (e := .str) (xs := namesL) rfl ?f1 ?f2, [], rfl, ?ft⟩
  case ft =>
    (refine ⟨?_, ?_, ?_⟩ <;> simp only [go_sem, List.range, List.range.loop, List.nodup_cons, List.nodup_nil, List.mem_cons, List.not_mem_nil, or_false, or_self, Int.reduceToNat, Nat.min_eq_left, Nat.min_eq_right, Int.reducePow, Nat.reducePow, Int.reduceLE, Int.reduceLT, Int.reduceMul, Int.reduceAdd, Int.reduceSub, Int.reduceNeg, Bool.not_true, Bool.not_false, Bool.not_not, ↓reduceIte, Nat.reduceAdd, Nat.reduceSub, Nat.reduceMul, Nat.reduceEqDiff, reduceCtorEq, Nat.reduceLT, Nat.reduceLeDiff, Nat.reduceGT])
    rfl
  case f1 =>
    simp only [go_sem, Int.reduceToNat, Nat.min_eq_left, Nat.min_eq_right, Int.reducePow, Nat.reducePow, Int.reduceLE, Int.reduceLT, Int.reduceMul, Int.reduceAdd, Int.reduceSub, Int.reduceNeg, Bool.not_true, Bool.not_false, Bool.not_not, ↓reduceIte, Nat.reduceAdd, Nat.reduceSub, Nat.reduceMul, Nat.reduceEqDiff, reduceCtorEq, Nat.reduceLT, Nat.reduceLeDiff, Nat.reduceGT]
    exact Nat.le_refl _
  case f2 => simp only [go_sem, Int.reduceToNat, Nat.min_eq_left, Nat.min_eq_right, Int.reducePow, Nat.reducePow, Int.reduceLE, Int.reduceLT, Int.reduceMul, Int.reduceAdd, Int.reduceSub, Int.reduceNeg, Bool.not_true, Bool.not_false, Bool.not_not, ↓reduceIte, Nat.reduceAdd, Nat.reduceSub, Nat.reduceMul, Nat.reduceEqDiff, reduceCtorEq, Nat.reduceLT, Nat.reduceLeDiff, Nat.reduceGT]
theorem c_names {h : List Ch} {K : KT} (H : K (.ro .str namesL) h) : Does Try.prog 45 [] h K :=
  frame_pure b_names br_nil (.inl rfl) (fun _ => rfl) H
abbrev i_names := Ctr.mk (i := 0) (g := 45) @c_names
attribute [instance] i_names
theorem b_table : DoesK Try.prog 0 44 [] [] (EndF 0 (.agg tabF) []) := by
  refine DoesK.close ?_
  refine w_body (rs := [.cell 0 67]) (tm := [.any, .any, .any, .any, .any, .any, .any, .any, .any, .any, .any, .any, .any, .any, .any, .any, .any, .any, .any, .any, .any, .any, .any, .any, .any, .any, .any, .any, .any, .any]) fn_44 rfl rfl rfl rfl fun R hR => ?_
  (all_goals (try ((first | (with_reducible refine wp_id ?_) | (with_reducible refine does_id ?_)); refine walk ?_; (repeat' (first | exact trivial | with_reducible refine And.intro ?_ ?_)); all_goals (repeat (first | (with_reducible refine ImpB.mk fun hb => ?_) | (with_reducible refine ImpK.mk fun hK => ?_) | (with_reducible refine ImpF.mk fun hF => ?_) | (with_reducible refine AllK.mk fun K => ?_))))); repeat' (with_reducible refine And.intro ?_ ?_))
  (all_goals (repeat (first | (clear hK; clear K) | (clear hE; clear E) | (clear hF; clear F) | (clear hR; clear R))); all_goals (try simp only [decide_eq_true_eq, decide_eq_false_iff_not, Bool.not_eq_true', Bool.not_eq_false', Bool.not_eq_true, Bool.not_eq_false, decide_not, decide_true, decide_false, Bool.decide_and, Bool.and_eq_true, Bool.or_eq_true, Bool.and_eq_false_imp, Decidable.not_not] at *); all_goals (try omega); all_goals (try (first | exact u8w_lo _ | exact u8w_hi _ | exact (bits8 _ _ _).1 | exact (bits8 _ _ _).2 | exact Int.natCast_nonneg _ | exact u8_ltI _)))
  simp only [tabF, List.flatten_cons, List.flatten_nil, List.append_nil, List.cons_append, List.nil_append]
  (focus (refine ⟨_, _, Gh.refl, [], rfl, ?_⟩; (refine ⟨?_, ?_, ?_⟩ <;> simp only [go_sem, List.range, List.range.loop, List.nodup_cons, List.nodup_nil, List.mem_cons, List.not_mem_nil, or_false, or_self, Int.reduceToNat, Nat.min_eq_left, Nat.min_eq_right, Int.reducePow, Nat.reducePow, Int.reduceLE, Int.reduceLT, Int.reduceMul, Int.reduceAdd, Int.reduceSub, Int.reduceNeg, Bool.not_true, Bool.not_false, Bool.not_not, ↓reduceIte, Nat.reduceAdd, Nat.reduceSub, Nat.reduceMul, Nat.reduceEqDiff, reduceCtorEq, Nat.reduceLT, Nat.reduceLeDiff, Nat.reduceGT]); (try any_goals (refine ⟨?_, ?_⟩)); (try any_goals (with_reducible rfl))))
theorem c_table {h : List Ch} {K : KT} (H : K (.agg tabF) h) : Does Try.prog 44 [] h K :=
  frame_pure b_table br_nil (.inl rfl) (fun _ => rfl) H
abbrev i_table := Ctr.mk (i := 0) (g := 44) @c_table
attribute [instance] i_table
theorem fit_tab : fitL [] tabF tabF = True := by
  apply eq_true
  simp only [tabF, List.flatten_cons, List.flatten_nil, List.append_nil, List.cons_append, List.nil_append, go_sem]
attribute [go_sem] fit_tab
attribute [irreducible] tabF
attribute [-go_sem] idxK
attribute [go_sem] idx_tab
attribute [go_sem] rowC
def okS (s : Int) : Bool := decide (1 ≤ s ∧ s ≤ 28)
theorem okS_f {s : Int} (h : s < 1 ∨ 28 < s) : okS s = false := by simp [okS]; omega
theorem okS_t {s : Int} (h : ¬ (s < 1 ∨ 28 < s)) : okS s = true := by simp [okS]; omega
theorem nameL_out {s : Int} (h : s < 1 ∨ 28 < s) : nameL s = [] := by rw [nameL, if_pos h]
theorem argN_out {s : Int} {j : Nat} (h : s < 1 ∨ 28 < s) : argN s j = 0 := by simp only [argN, rowL, if_pos h]; rfl
theorem b_find (s : Int) : DoesK Try.prog 0 28 [.int .i64 s] [] (EndF 0 (.tup [.agg (rowC s), .bool (okS s)]) []) := by
  refine DoesK.close ?_
  refine w_body (rs := [.cell 2 50, .tmp 3]) (tm := [.int .i64 s, .any, .any, .any, .any, .any, .any, .any, .any, .any, .any, .any, .any, .any]) fn_28 rfl rfl rfl rfl fun R hR => ?_
  (all_goals (try ((first | (with_reducible refine wp_id ?_) | (with_reducible refine does_id ?_)); refine walk ?_; (repeat' (first | exact trivial | with_reducible refine And.intro ?_ ?_)); all_goals (repeat (first | (with_reducible refine ImpB.mk fun hb => ?_) | (with_reducible refine ImpK.mk fun hK => ?_) | (with_reducible refine ImpF.mk fun hF => ?_) | (with_reducible refine AllK.mk fun K => ?_))))); repeat' (with_reducible refine And.intro ?_ ?_))
  (all_goals (repeat (first | (clear hK; clear K) | (clear hE; clear E) | (clear hF; clear F) | (clear hR; clear R))); all_goals (try simp only [decide_eq_true_eq, decide_eq_false_iff_not, Bool.not_eq_true', Bool.not_eq_false', Bool.not_eq_true, Bool.not_eq_false, decide_not, decide_true, decide_false, Bool.decide_and, Bool.and_eq_true, Bool.or_eq_true, Bool.and_eq_false_imp, Decidable.not_not] at *); all_goals (try omega); all_goals (try (first | exact u8w_lo _ | exact u8w_hi _ | exact (bits8 _ _ _).1 | exact (bits8 _ _ _).2 | exact Int.natCast_nonneg _ | exact u8_ltI _)))
  · rw [okS_f (by omega), nameL_out (by omega), argN_out (by omega), argN_out (by omega), argN_out (by omega), argN_out (by omega)]
    (focus (refine ⟨_, _, Gh.refl, [], rfl, ?_⟩; (refine ⟨?_, ?_, ?_⟩ <;> simp only [go_sem, List.range, List.range.loop, List.nodup_cons, List.nodup_nil, List.mem_cons, List.not_mem_nil, or_false, or_self, Int.reduceToNat, Nat.min_eq_left, Nat.min_eq_right, Int.reducePow, Nat.reducePow, Int.reduceLE, Int.reduceLT, Int.reduceMul, Int.reduceAdd, Int.reduceSub, Int.reduceNeg, Bool.not_true, Bool.not_false, Bool.not_not, ↓reduceIte, Nat.reduceAdd, Nat.reduceSub, Nat.reduceMul, Nat.reduceEqDiff, reduceCtorEq, Nat.reduceLT, Nat.reduceLeDiff, Nat.reduceGT]); (try any_goals (refine ⟨?_, ?_⟩)); (try any_goals (with_reducible rfl))))
    all_goals rfl
  · rw [okS_f (by omega), nameL_out (by omega), argN_out (by omega), argN_out (by omega), argN_out (by omega), argN_out (by omega)]
    (focus (refine ⟨_, _, Gh.refl, [], rfl, ?_⟩; (refine ⟨?_, ?_, ?_⟩ <;> simp only [go_sem, List.range, List.range.loop, List.nodup_cons, List.nodup_nil, List.mem_cons, List.not_mem_nil, or_false, or_self, Int.reduceToNat, Nat.min_eq_left, Nat.min_eq_right, Int.reducePow, Nat.reducePow, Int.reduceLE, Int.reduceLT, Int.reduceMul, Int.reduceAdd, Int.reduceSub, Int.reduceNeg, Bool.not_true, Bool.not_false, Bool.not_not, ↓reduceIte, Nat.reduceAdd, Nat.reduceSub, Nat.reduceMul, Nat.reduceEqDiff, reduceCtorEq, Nat.reduceLT, Nat.reduceLeDiff, Nat.reduceGT]); (try any_goals (refine ⟨?_, ?_⟩)); (try any_goals (with_reducible rfl))))
    all_goals rfl
  · rw [okS_t (by omega)]
    (focus (refine ⟨_, _, Gh.refl, [], rfl, ?_⟩; (refine ⟨?_, ?_, ?_⟩ <;> simp only [go_sem, List.range, List.range.loop, List.nodup_cons, List.nodup_nil, List.mem_cons, List.not_mem_nil, or_false, or_self, Int.reduceToNat, Nat.min_eq_left, Nat.min_eq_right, Int.reducePow, Nat.reducePow, Int.reduceLE, Int.reduceLT, Int.reduceMul, Int.reduceAdd, Int.reduceSub, Int.reduceNeg, Bool.not_true, Bool.not_false, Bool.not_not, ↓reduceIte, Nat.reduceAdd, Nat.reduceSub, Nat.reduceMul, Nat.reduceEqDiff, reduceCtorEq, Nat.reduceLT, Nat.reduceLeDiff, Nat.reduceGT]); (try any_goals (refine ⟨?_, ?_⟩)); (try any_goals (with_reducible rfl))))
theorem c_find {h : List Ch} {K : KT} {s : Int} (H : K (.tup [.agg (rowC s), .bool (okS s)]) h) : Does Try.prog 28 [.int .i64 s] h K :=
  frame_pure (b_find s) (br_cons br_int br_nil) (.inl rfl) (fun _ => rfl) H
abbrev i_find := Ctr.mk (i := 0) (g := 28) @c_find
attribute [instance] i_find
def permB (s m : Int) : Bool := okS s && decide (argN s 2 ≤ m) && decide (m ≤ argN s 3)
theorem b_permitted (s m : Int) : DoesK Try.prog 0 17 [.int .i64 s, .int .i64 m] [] (EndF 0 (.bool (permB s m)) []) := by
  refine DoesK.close ?_
  refine w_body (rs := [.tmp 4]) (tm := [.int .i64 s, .int .i64 m, .any, .any, .any, .any, .any, .any, .any, .any, .any, .any, .any, .any, .any, .any, .any, .any, .any, .any, .any, .any, .any, .any, .any]) fn_17 rfl rfl rfl rfl fun R hR => ?_
  (all_goals (try ((first | (with_reducible refine wp_id ?_) | (with_reducible refine does_id ?_)); refine walk ?_; (repeat' (first | exact trivial | with_reducible refine And.intro ?_ ?_)); all_goals (repeat (first | (with_reducible refine ImpB.mk fun hb => ?_) | (with_reducible refine ImpK.mk fun hK => ?_) | (with_reducible refine ImpF.mk fun hF => ?_) | (with_reducible refine AllK.mk fun K => ?_))))); repeat' (with_reducible refine And.intro ?_ ?_))
  (all_goals (repeat (first | (clear hK; clear K) | (clear hE; clear E) | (clear hF; clear F) | (clear hR; clear R))); all_goals (try simp only [decide_eq_true_eq, decide_eq_false_iff_not, Bool.not_eq_true', Bool.not_eq_false', Bool.not_eq_true, Bool.not_eq_false, decide_not, decide_true, decide_false, Bool.decide_and, Bool.and_eq_true, Bool.or_eq_true, Bool.and_eq_false_imp, Decidable.not_not] at *); all_goals (try omega); all_goals (try (first | exact u8w_lo _ | exact u8w_hi _ | exact (bits8 _ _ _).1 | exact (bits8 _ _ _).2 | exact Int.natCast_nonneg _ | exact u8_ltI _)))
  all_goals
    (focus (refine ⟨_, _, Gh.refl, [], rfl, ?_⟩; (refine ⟨?_, ?_, ?_⟩ <;> simp only [go_sem, List.range, List.range.loop, List.nodup_cons, List.nodup_nil, List.mem_cons, List.not_mem_nil, or_false, or_self, Int.reduceToNat, Nat.min_eq_left, Nat.min_eq_right, Int.reducePow, Nat.reducePow, Int.reduceLE, Int.reduceLT, Int.reduceMul, Int.reduceAdd, Int.reduceSub, Int.reduceNeg, Bool.not_true, Bool.not_false, Bool.not_not, ↓reduceIte, Nat.reduceAdd, Nat.reduceSub, Nat.reduceMul, Nat.reduceEqDiff, reduceCtorEq, Nat.reduceLT, Nat.reduceLeDiff, Nat.reduceGT]); (try any_goals (refine ⟨?_, ?_⟩)); (try any_goals (with_reducible rfl))))
    simp [permB, *]
theorem c_permitted {h : List Ch} {K : KT} {s m : Int} (H : K (.bool (permB s m)) h) : Does Try.prog 17 [.int .i64 s, .int .i64 m] h K :=
  frame_pure (b_permitted s m) (br_cons br_int (br_cons br_int br_nil)) (.inl rfl) (fun _ => rfl) H
abbrev i_permitted := Ctr.mk (i := 0) (g := 17) @c_permitted
attribute [instance] i_permitted
theorem b_name (s : Int) : DoesK Try.prog 0 19 [.int .i64 s] [] (EndF 0 (.str (nameL s)) []) := by
  refine DoesK.close ?_
  refine w_body (rs := [.tmp 2]) (tm := [.int .i64 s, .any, .any, .any, .any, .any, .any, .any, .any, .any, .any, .any]) fn_19 rfl rfl rfl rfl fun R hR => ?_
  (all_goals (try ((first | (with_reducible refine wp_id ?_) | (with_reducible refine does_id ?_)); refine walk ?_; (repeat' (first | exact trivial | with_reducible refine And.intro ?_ ?_)); all_goals (repeat (first | (with_reducible refine ImpB.mk fun hb => ?_) | (with_reducible refine ImpK.mk fun hK => ?_) | (with_reducible refine ImpF.mk fun hF => ?_) | (with_reducible refine AllK.mk fun K => ?_))))); repeat' (with_reducible refine And.intro ?_ ?_))
  (all_goals (repeat (first | (clear hK; clear K) | (clear hE; clear E) | (clear hF; clear F) | (clear hR; clear R))); all_goals (try simp only [decide_eq_true_eq, decide_eq_false_iff_not, Bool.not_eq_true', Bool.not_eq_false', Bool.not_eq_true, Bool.not_eq_false, decide_not, decide_true, decide_false, Bool.decide_and, Bool.and_eq_true, Bool.or_eq_true, Bool.and_eq_false_imp, Decidable.not_not] at *); all_goals (try omega); all_goals (try (first | exact u8w_lo _ | exact u8w_hi _ | exact (bits8 _ _ _).1 | exact (bits8 _ _ _).2 | exact Int.natCast_nonneg _ | exact u8_ltI _)))
  (focus (refine ⟨_, _, Gh.refl, [], rfl, ?_⟩; (refine ⟨?_, ?_, ?_⟩ <;> simp only [go_sem, List.range, List.range.loop, List.nodup_cons, List.nodup_nil, List.mem_cons, List.not_mem_nil, or_false, or_self, Int.reduceToNat, Nat.min_eq_left, Nat.min_eq_right, Int.reducePow, Nat.reducePow, Int.reduceLE, Int.reduceLT, Int.reduceMul, Int.reduceAdd, Int.reduceSub, Int.reduceNeg, Bool.not_true, Bool.not_false, Bool.not_not, ↓reduceIte, Nat.reduceAdd, Nat.reduceSub, Nat.reduceMul, Nat.reduceEqDiff, reduceCtorEq, Nat.reduceLT, Nat.reduceLeDiff, Nat.reduceGT]); (try any_goals (refine ⟨?_, ?_⟩)); (try any_goals (with_reducible rfl))))
theorem c_name {h : List Ch} {K : KT} {s : Int} (H : K (.str (nameL s)) h) : Does Try.prog 19 [.int .i64 s] h K :=
  frame_pure (b_name s) (br_cons br_int br_nil) (.inl rfl) (fun _ => rfl) H
abbrev i_name := Ctr.mk (i := 0) (g := 19) @c_name
attribute [instance] i_name
theorem b_cargs (s : Int) : DoesK Try.prog 0 20 [.int .i64 s] [] (EndF 0 (.tup [.int .i64 (argN s 0), .bool (argN s 1 == 1)]) []) := by
  refine DoesK.close ?_
  refine w_body (rs := [.tmp 2, .tmp 3]) (tm := [.int .i64 s, .any, .any, .any, .any, .any, .any, .any, .any, .any, .any, .any, .any, .any, .any]) fn_20 rfl rfl rfl rfl fun R hR => ?_
  (all_goals (try ((first | (with_reducible refine wp_id ?_) | (with_reducible refine does_id ?_)); refine walk ?_; (repeat' (first | exact trivial | with_reducible refine And.intro ?_ ?_)); all_goals (repeat (first | (with_reducible refine ImpB.mk fun hb => ?_) | (with_reducible refine ImpK.mk fun hK => ?_) | (with_reducible refine ImpF.mk fun hF => ?_) | (with_reducible refine AllK.mk fun K => ?_))))); repeat' (with_reducible refine And.intro ?_ ?_))
  (all_goals (repeat (first | (clear hK; clear K) | (clear hE; clear E) | (clear hF; clear F) | (clear hR; clear R))); all_goals (try simp only [decide_eq_true_eq, decide_eq_false_iff_not, Bool.not_eq_true', Bool.not_eq_false', Bool.not_eq_true, Bool.not_eq_false, decide_not, decide_true, decide_false, Bool.decide_and, Bool.and_eq_true, Bool.or_eq_true, Bool.and_eq_false_imp, Decidable.not_not] at *); all_goals (try omega); all_goals (try (first | exact u8w_lo _ | exact u8w_hi _ | exact (bits8 _ _ _).1 | exact (bits8 _ _ _).2 | exact Int.natCast_nonneg _ | exact u8_ltI _)))
  (focus (refine ⟨_, _, Gh.refl, [], rfl, ?_⟩; (refine ⟨?_, ?_, ?_⟩ <;> simp only [go_sem, List.range, List.range.loop, List.nodup_cons, List.nodup_nil, List.mem_cons, List.not_mem_nil, or_false, or_self, Int.reduceToNat, Nat.min_eq_left, Nat.min_eq_right, Int.reducePow, Nat.reducePow, Int.reduceLE, Int.reduceLT, Int.reduceMul, Int.reduceAdd, Int.reduceSub, Int.reduceNeg, Bool.not_true, Bool.not_false, Bool.not_not, ↓reduceIte, Nat.reduceAdd, Nat.reduceSub, Nat.reduceMul, Nat.reduceEqDiff, reduceCtorEq, Nat.reduceLT, Nat.reduceLeDiff, Nat.reduceGT]); (try any_goals (refine ⟨?_, ?_⟩)); (try any_goals (with_reducible rfl))))
theorem c_cargs {h : List Ch} {K : KT} {s : Int} (H : K (.tup [.int .i64 (argN s 0), .bool (argN s 1 == 1)]) h) : Does Try.prog 20 [.int .i64 s] h K :=
  frame_pure (b_cargs s) (br_cons br_int br_nil) (.inl rfl) (fun _ => rfl) H
abbrev i_cargs := Ctr.mk (i := 0) (g := 20) @c_cargs
attribute [instance] i_cargs
/-- the number of a name in a list, from k on; 0: it is not there -/
def fnd (nm : List UInt8) : List (List UInt8) → Nat → Int
  | [], _ => 0
  | x :: xs, k => if x = nm then k + 1 else fnd nm xs (k + 1)
def svcN (nm : List UInt8) : Int := fnd nm namesL 0
theorem namesL_len : namesL.length = 28 := rfl
theorem fnd_step (nm : List UInt8) (k : Nat) (hk : k < 28) : fnd nm (namesL.drop k) k = if namesL.getD k [] = nm then (k : Int) + 1 else fnd nm (namesL.drop (k + 1)) (k + 1) := by
  have hl : k < namesL.length := hk
  rw [List.drop_eq_getElem_cons hl, fnd]
  simp only [List.getD_eq_getElem?_getD, List.getElem?_eq_getElem hl, Option.getD_some]
theorem fnd_end (nm : List UInt8) (k : Nat) (hk : 28 ≤ k) : fnd nm (namesL.drop k) k = 0 := by
  rw [List.drop_eq_nil_of_le (by rw [namesL_len]; exact hk)]
  rfl
theorem nameL_at (i : Nat) (h1 : 1 ≤ i) (h2 : i ≤ 28) : nameL i = namesL.getD (i - 1) [] := by
  rw [nameL, if_neg (by omega)]
  rfl
theorem b_svc (nm : List UInt8) : DoesK Try.prog 0 18 [.str nm] [] (EndF 0 (.int .i64 (svcN nm)) []) := by
  refine DoesK.close ?_
  refine w_body (rs := [.tmp 2]) (tm := [.str nm, .any, .any, .any, .any, .any, .any, .any, .any, .any, .any, .any, .any, .any, .any, .any, .any, .any, .any, .any]) fn_18 rfl rfl rfl rfl fun R hR => ?_
  (all_goals (try ((first | (with_reducible refine wp_id ?_) | (with_reducible refine does_id ?_)); refine walk ?_; (repeat' (first | exact trivial | with_reducible refine And.intro ?_ ?_)); all_goals (repeat (first | (with_reducible refine ImpB.mk fun hb => ?_) | (with_reducible refine ImpK.mk fun hK => ?_) | (with_reducible refine ImpF.mk fun hF => ?_) | (with_reducible refine AllK.mk fun K => ?_))))); repeat' (with_reducible refine And.intro ?_ ?_))
  any_goals (refine w_loop (A := Nat) (fun k => svcN nm = fnd nm (namesL.drop (k - 1)) (k - 1) ∧ k ≤ 29) (fun k => 29 - k) (fun k => [(6, .int .i64 k), (5, .agg tabF)]) (fun _ => []) (0) (ws := ?ws1) (tk := ?tk1) ?hw1 ?ht1 ?hi ?h0 ?H1; (case hw1 => simp only [go_sem, Int.reduceToNat, Nat.min_eq_left, Nat.min_eq_right, Int.reducePow, Nat.reducePow, Int.reduceLE, Int.reduceLT, Int.reduceMul, Int.reduceAdd, Int.reduceSub, Int.reduceNeg, Bool.not_true, Bool.not_false, Bool.not_not, ↓reduceIte, Nat.reduceAdd, Nat.reduceSub, Nat.reduceMul, Nat.reduceEqDiff, reduceCtorEq, Nat.reduceLT, Nat.reduceLeDiff, Nat.reduceGT]; exact rfl); (case ht1 => simp only [go_sem, Int.reduceToNat, Nat.min_eq_left, Nat.min_eq_right, Int.reducePow, Nat.reducePow, Int.reduceLE, Int.reduceLT, Int.reduceMul, Int.reduceAdd, Int.reduceSub, Int.reduceNeg, Bool.not_true, Bool.not_false, Bool.not_not, ↓reduceIte, Nat.reduceAdd, Nat.reduceSub, Nat.reduceMul, Nat.reduceEqDiff, reduceCtorEq, Nat.reduceLT, Nat.reduceLeDiff, Nat.reduceGT]; exact rfl); (case' H1 => rintro k E t hx hE ht; simp only [go_sem] at ht; subst ht; simp only [go_sem]; try dsimp only at hx))
  (all_goals (try ((first | (with_reducible refine wp_id ?_) | (with_reducible refine does_id ?_)); refine walk ?_; (repeat' (first | exact trivial | with_reducible refine And.intro ?_ ?_)); all_goals (repeat (first | (with_reducible refine ImpB.mk fun hb => ?_) | (with_reducible refine ImpK.mk fun hK => ?_) | (with_reducible refine ImpF.mk fun hF => ?_) | (with_reducible refine AllK.mk fun K => ?_))))); repeat' (with_reducible refine And.intro ?_ ?_))
  (all_goals (repeat (first | (clear hK; clear K) | (clear hE; clear E) | (clear hF; clear F) | (clear hR; clear R))); all_goals (try simp only [decide_eq_true_eq, decide_eq_false_iff_not, Bool.not_eq_true', Bool.not_eq_false', Bool.not_eq_true, Bool.not_eq_false, decide_not, decide_true, decide_false, Bool.decide_and, Bool.and_eq_true, Bool.or_eq_true, Bool.and_eq_false_imp, Decidable.not_not] at *); all_goals (try omega); all_goals (try (first | exact u8w_lo _ | exact u8w_hi _ | exact (bits8 _ _ _).1 | exact (bits8 _ _ _).2 | exact Int.natCast_nonneg _ | exact u8_ltI _)))
  · have hx1 := hx.1
    rw [fnd_step _ _ (by omega), if_pos (by rw [← nameL_at _ (by omega) (by omega)]; assumption)] at hx1
    rw [hx1, show ((k - 1 : Nat) : Int) + 1 = k by omega]
    (focus (refine ⟨_, _, Gh.refl, [], rfl, ?_⟩; (refine ⟨?_, ?_, ?_⟩ <;> simp only [go_sem, List.range, List.range.loop, List.nodup_cons, List.nodup_nil, List.mem_cons, List.not_mem_nil, or_false, or_self, Int.reduceToNat, Nat.min_eq_left, Nat.min_eq_right, Int.reducePow, Nat.reducePow, Int.reduceLE, Int.reduceLT, Int.reduceMul, Int.reduceAdd, Int.reduceSub, Int.reduceNeg, Bool.not_true, Bool.not_false, Bool.not_not, ↓reduceIte, Nat.reduceAdd, Nat.reduceSub, Nat.reduceMul, Nat.reduceEqDiff, reduceCtorEq, Nat.reduceLT, Nat.reduceLeDiff, Nat.reduceGT]); (try any_goals (refine ⟨?_, ?_⟩)); (try any_goals (with_reducible rfl))))
  · have hx1 := hx.1
    rw [fnd_step _ _ (by omega), if_neg (by rw [← nameL_at _ (by omega) (by omega)]; assumption)] at hx1
    refine ⟨k + 1, ⟨⟨?_, by first | omega | (dsimp only; omega)⟩, by first | omega | (dsimp only; omega)⟩, ?_⟩
    · rw [hx1, show k + 1 - 1 = k - 1 + 1 by omega]
    (focus (refine ⟨_, _, Gh.refl, [], rfl, ?_⟩; (refine ⟨?_, ?_, ?_⟩ <;> simp only [go_sem, List.range, List.range.loop, List.nodup_cons, List.nodup_nil, List.mem_cons, List.not_mem_nil, or_false, or_self, Int.reduceToNat, Nat.min_eq_left, Nat.min_eq_right, Int.reducePow, Nat.reducePow, Int.reduceLE, Int.reduceLT, Int.reduceMul, Int.reduceAdd, Int.reduceSub, Int.reduceNeg, Bool.not_true, Bool.not_false, Bool.not_not, ↓reduceIte, Nat.reduceAdd, Nat.reduceSub, Nat.reduceMul, Nat.reduceEqDiff, reduceCtorEq, Nat.reduceLT, Nat.reduceLeDiff, Nat.reduceGT]); (try any_goals (refine ⟨?_, ?_⟩)); (try any_goals (with_reducible rfl))))
    all_goals (first | with_reducible rfl | omega | ((simp (disch := omega) only [wrap_i64]); first | done | omega) | (simp only [List.append_assoc, List.cons_append, List.nil_append]; done))
  · have hk : k = 0 := by omega
    subst hk
    refine ⟨0 + 1, ⟨⟨hx.1, by first | omega | (dsimp only; omega)⟩, by first | omega | (dsimp only; omega)⟩, ?_⟩
    (focus (refine ⟨_, _, Gh.refl, [], rfl, ?_⟩; (refine ⟨?_, ?_, ?_⟩ <;> simp only [go_sem, List.range, List.range.loop, List.nodup_cons, List.nodup_nil, List.mem_cons, List.not_mem_nil, or_false, or_self, Int.reduceToNat, Nat.min_eq_left, Nat.min_eq_right, Int.reducePow, Nat.reducePow, Int.reduceLE, Int.reduceLT, Int.reduceMul, Int.reduceAdd, Int.reduceSub, Int.reduceNeg, Bool.not_true, Bool.not_false, Bool.not_not, ↓reduceIte, Nat.reduceAdd, Nat.reduceSub, Nat.reduceMul, Nat.reduceEqDiff, reduceCtorEq, Nat.reduceLT, Nat.reduceLeDiff, Nat.reduceGT]); (try any_goals (refine ⟨?_, ?_⟩)); (try any_goals (with_reducible rfl))))
    all_goals (first | with_reducible rfl | omega | ((simp (disch := omega) only [wrap_i64]); first | done | omega) | (simp only [List.append_assoc, List.cons_append, List.nil_append]; done))
  · rw [hx.1, fnd_end _ _ (by omega)]
    (focus (refine ⟨_, _, Gh.refl, [], rfl, ?_⟩; (refine ⟨?_, ?_, ?_⟩ <;> simp only [go_sem, List.range, List.range.loop, List.nodup_cons, List.nodup_nil, List.mem_cons, List.not_mem_nil, or_false, or_self, Int.reduceToNat, Nat.min_eq_left, Nat.min_eq_right, Int.reducePow, Nat.reducePow, Int.reduceLE, Int.reduceLT, Int.reduceMul, Int.reduceAdd, Int.reduceSub, Int.reduceNeg, Bool.not_true, Bool.not_false, Bool.not_not, ↓reduceIte, Nat.reduceAdd, Nat.reduceSub, Nat.reduceMul, Nat.reduceEqDiff, reduceCtorEq, Nat.reduceLT, Nat.reduceLeDiff, Nat.reduceGT]); (try any_goals (refine ⟨?_, ?_⟩)); (try any_goals (with_reducible rfl))))
  · rfl
  · (focus (refine ⟨_, _, Gh.refl, [], rfl, ?_⟩; (refine ⟨?_, ?_, ?_⟩ <;> simp only [go_sem, List.range, List.range.loop, List.nodup_cons, List.nodup_nil, List.mem_cons, List.not_mem_nil, or_false, or_self, Int.reduceToNat, Nat.min_eq_left, Nat.min_eq_right, Int.reducePow, Nat.reducePow, Int.reduceLE, Int.reduceLT, Int.reduceMul, Int.reduceAdd, Int.reduceSub, Int.reduceNeg, Bool.not_true, Bool.not_false, Bool.not_not, ↓reduceIte, Nat.reduceAdd, Nat.reduceSub, Nat.reduceMul, Nat.reduceEqDiff, reduceCtorEq, Nat.reduceLT, Nat.reduceLeDiff, Nat.reduceGT]); (try any_goals (refine ⟨?_, ?_⟩)); (try any_goals (with_reducible rfl))))
theorem b_rsvc (nm : List UInt8) : DoesK Try.prog 0 24 [.str nm] [] (EndF 0 (.int .i64 (svcN nm)) []) := by
  refine DoesK.close ?_
  refine w_body (rs := [.tmp 2]) (tm := [.str nm, .any, .any, .any, .any, .any, .any, .any, .any, .any, .any, .any, .any, .any, .any, .any, .any, .any, .any, .any]) fn_24 rfl rfl rfl rfl fun R hR => ?_
  (all_goals (try ((first | (with_reducible refine wp_id ?_) | (with_reducible refine does_id ?_)); refine walk ?_; (repeat' (first | exact trivial | with_reducible refine And.intro ?_ ?_)); all_goals (repeat (first | (with_reducible refine ImpB.mk fun hb => ?_) | (with_reducible refine ImpK.mk fun hK => ?_) | (with_reducible refine ImpF.mk fun hF => ?_) | (with_reducible refine AllK.mk fun K => ?_))))); repeat' (with_reducible refine And.intro ?_ ?_))
  any_goals (refine w_loop (A := Nat) (fun k => svcN nm = fnd nm (namesL.drop k) k ∧ k ≤ 28) (fun k => 28 - k) (fun k => [(4, .int .i64 k), (3, .ro .str namesL)]) (fun _ => []) (0) (ws := ?ws2) (tk := ?tk2) ?hw2 ?ht2 ?hi ?h0 ?H2; (case hw2 => simp only [go_sem, Int.reduceToNat, Nat.min_eq_left, Nat.min_eq_right, Int.reducePow, Nat.reducePow, Int.reduceLE, Int.reduceLT, Int.reduceMul, Int.reduceAdd, Int.reduceSub, Int.reduceNeg, Bool.not_true, Bool.not_false, Bool.not_not, ↓reduceIte, Nat.reduceAdd, Nat.reduceSub, Nat.reduceMul, Nat.reduceEqDiff, reduceCtorEq, Nat.reduceLT, Nat.reduceLeDiff, Nat.reduceGT]; exact rfl); (case ht2 => simp only [go_sem, Int.reduceToNat, Nat.min_eq_left, Nat.min_eq_right, Int.reducePow, Nat.reducePow, Int.reduceLE, Int.reduceLT, Int.reduceMul, Int.reduceAdd, Int.reduceSub, Int.reduceNeg, Bool.not_true, Bool.not_false, Bool.not_not, ↓reduceIte, Nat.reduceAdd, Nat.reduceSub, Nat.reduceMul, Nat.reduceEqDiff, reduceCtorEq, Nat.reduceLT, Nat.reduceLeDiff, Nat.reduceGT]; exact rfl); (case' H2 => rintro k E t hx hE ht; simp only [go_sem] at ht; subst ht; simp only [go_sem]; try dsimp only at hx))
  (all_goals (try ((first | (with_reducible refine wp_id ?_) | (with_reducible refine does_id ?_)); refine walk ?_; (repeat' (first | exact trivial | with_reducible refine And.intro ?_ ?_)); all_goals (repeat (first | (with_reducible refine ImpB.mk fun hb => ?_) | (with_reducible refine ImpK.mk fun hK => ?_) | (with_reducible refine ImpF.mk fun hF => ?_) | (with_reducible refine AllK.mk fun K => ?_))))); repeat' (with_reducible refine And.intro ?_ ?_))
  (all_goals (repeat (first | (clear hK; clear K) | (clear hE; clear E) | (clear hF; clear F) | (clear hR; clear R))); all_goals (try simp only [decide_eq_true_eq, decide_eq_false_iff_not, Bool.not_eq_true', Bool.not_eq_false', Bool.not_eq_true, Bool.not_eq_false, decide_not, decide_true, decide_false, Bool.decide_and, Bool.and_eq_true, Bool.or_eq_true, Bool.and_eq_false_imp, Decidable.not_not] at *); all_goals (try omega); all_goals (try (first | exact u8w_lo _ | exact u8w_hi _ | exact (bits8 _ _ _).1 | exact (bits8 _ _ _).2 | exact Int.natCast_nonneg _ | exact u8_ltI _)))
  all_goals try simp only [namesL_len] at *
  · have hx1 := hx.1
    rw [fnd_step _ _ (by omega), if_pos (by assumption)] at hx1
    rw [hx1]
    (focus (refine ⟨_, _, Gh.refl, [], rfl, ?_⟩; (refine ⟨?_, ?_, ?_⟩ <;> simp only [go_sem, List.range, List.range.loop, List.nodup_cons, List.nodup_nil, List.mem_cons, List.not_mem_nil, or_false, or_self, Int.reduceToNat, Nat.min_eq_left, Nat.min_eq_right, Int.reducePow, Nat.reducePow, Int.reduceLE, Int.reduceLT, Int.reduceMul, Int.reduceAdd, Int.reduceSub, Int.reduceNeg, Bool.not_true, Bool.not_false, Bool.not_not, ↓reduceIte, Nat.reduceAdd, Nat.reduceSub, Nat.reduceMul, Nat.reduceEqDiff, reduceCtorEq, Nat.reduceLT, Nat.reduceLeDiff, Nat.reduceGT]); (try any_goals (refine ⟨?_, ?_⟩)); (try any_goals (with_reducible rfl))))
    all_goals (first | with_reducible rfl | omega | ((simp (disch := omega) only [wrap_i64]); first | done | omega) | (simp only [List.append_assoc, List.cons_append, List.nil_append]; done))
  · have hx1 := hx.1
    rw [fnd_step _ _ (by omega), if_neg (by assumption)] at hx1
    refine ⟨k + 1, ⟨⟨hx1, by first | omega | (dsimp only; omega)⟩, by first | omega | (dsimp only; omega)⟩, ?_⟩
    (focus (refine ⟨_, _, Gh.refl, [], rfl, ?_⟩; (refine ⟨?_, ?_, ?_⟩ <;> simp only [go_sem, List.range, List.range.loop, List.nodup_cons, List.nodup_nil, List.mem_cons, List.not_mem_nil, or_false, or_self, Int.reduceToNat, Nat.min_eq_left, Nat.min_eq_right, Int.reducePow, Nat.reducePow, Int.reduceLE, Int.reduceLT, Int.reduceMul, Int.reduceAdd, Int.reduceSub, Int.reduceNeg, Bool.not_true, Bool.not_false, Bool.not_not, ↓reduceIte, Nat.reduceAdd, Nat.reduceSub, Nat.reduceMul, Nat.reduceEqDiff, reduceCtorEq, Nat.reduceLT, Nat.reduceLeDiff, Nat.reduceGT]); (try any_goals (refine ⟨?_, ?_⟩)); (try any_goals (with_reducible rfl))))
    all_goals (first | with_reducible rfl | omega | ((simp (disch := omega) only [wrap_i64]); first | done | omega) | (simp only [List.append_assoc, List.cons_append, List.nil_append]; done))
  · rw [hx.1, fnd_end _ _ (by omega)]
    (focus (refine ⟨_, _, Gh.refl, [], rfl, ?_⟩; (refine ⟨?_, ?_, ?_⟩ <;> simp only [go_sem, List.range, List.range.loop, List.nodup_cons, List.nodup_nil, List.mem_cons, List.not_mem_nil, or_false, or_self, Int.reduceToNat, Nat.min_eq_left, Nat.min_eq_right, Int.reducePow, Nat.reducePow, Int.reduceLE, Int.reduceLT, Int.reduceMul, Int.reduceAdd, Int.reduceSub, Int.reduceNeg, Bool.not_true, Bool.not_false, Bool.not_not, ↓reduceIte, Nat.reduceAdd, Nat.reduceSub, Nat.reduceMul, Nat.reduceEqDiff, reduceCtorEq, Nat.reduceLT, Nat.reduceLeDiff, Nat.reduceGT]); (try any_goals (refine ⟨?_, ?_⟩)); (try any_goals (with_reducible rfl))))
  · rfl
  · (focus (refine ⟨_, _, Gh.refl, [], rfl, ?_⟩; (refine ⟨?_, ?_, ?_⟩ <;> simp only [go_sem, List.range, List.range.loop, List.nodup_cons, List.nodup_nil, List.mem_cons, List.not_mem_nil, or_false, or_self, Int.reduceToNat, Nat.min_eq_left, Nat.min_eq_right, Int.reducePow, Nat.reducePow, Int.reduceLE, Int.reduceLT, Int.reduceMul, Int.reduceAdd, Int.reduceSub, Int.reduceNeg, Bool.not_true, Bool.not_false, Bool.not_not, ↓reduceIte, Nat.reduceAdd, Nat.reduceSub, Nat.reduceMul, Nat.reduceEqDiff, reduceCtorEq, Nat.reduceLT, Nat.reduceLeDiff, Nat.reduceGT]); (try any_goals (refine ⟨?_, ?_⟩)); (try any_goals (with_reducible rfl))))
theorem rowL_len (s : Int) : (rowL s).length = 0 ∧ (s < 1 ∨ 28 < s) ∨ (rowL s).length = 4 ∧ ¬ (s < 1 ∨ 28 < s) := by
  by_cases h : s < 1 ∨ 28 < s
  · left
    rw [rowL, if_pos h]
    exact ⟨rfl, h⟩
  · right
    refine ⟨?_, h⟩
    rw [rowL, if_neg h]
    have e : rowsL.length = 28 := rfl
    have k : ∀ x ∈ rowsL, x.length = 4 := by decide
    have hl : s.toNat - 1 < rowsL.length := by omega
    rw [List.getD_eq_getElem?_getD, List.getElem?_eq_getElem hl, Option.getD_some]
    exact k _ (List.getElem_mem hl)
theorem b_rname (s : Int) : DoesK Try.prog 0 23 [.int .i64 s] [] (EndF 0 (.str (nameL s)) []) := by
  refine DoesK.close ?_
  have hl := rowL_len s
  refine w_body (rs := [.tmp 2]) (tm := [.int .i64 s, .any, .any, .any, .any, .any, .any, .any, .any, .any, .any, .any]) fn_23 rfl rfl rfl rfl fun R hR => ?_
  (all_goals (try ((first | (with_reducible refine wp_id ?_) | (with_reducible refine does_id ?_)); refine walk ?_; (repeat' (first | exact trivial | with_reducible refine And.intro ?_ ?_)); all_goals (repeat (first | (with_reducible refine ImpB.mk fun hb => ?_) | (with_reducible refine ImpK.mk fun hK => ?_) | (with_reducible refine ImpF.mk fun hF => ?_) | (with_reducible refine AllK.mk fun K => ?_))))); repeat' (with_reducible refine And.intro ?_ ?_))
  (all_goals (repeat (first | (clear hK; clear K) | (clear hE; clear E) | (clear hF; clear F) | (clear hR; clear R))); all_goals (try simp only [decide_eq_true_eq, decide_eq_false_iff_not, Bool.not_eq_true', Bool.not_eq_false', Bool.not_eq_true, Bool.not_eq_false, decide_not, decide_true, decide_false, Bool.decide_and, Bool.and_eq_true, Bool.or_eq_true, Bool.and_eq_false_imp, Decidable.not_not] at *); all_goals (try omega); all_goals (try (first | exact u8w_lo _ | exact u8w_hi _ | exact (bits8 _ _ _).1 | exact (bits8 _ _ _).2 | exact Int.natCast_nonneg _ | exact u8_ltI _)))
  · rw [nameL_out (by omega)]
    (focus (refine ⟨_, _, Gh.refl, [], rfl, ?_⟩; (refine ⟨?_, ?_, ?_⟩ <;> simp only [go_sem, List.range, List.range.loop, List.nodup_cons, List.nodup_nil, List.mem_cons, List.not_mem_nil, or_false, or_self, Int.reduceToNat, Nat.min_eq_left, Nat.min_eq_right, Int.reducePow, Nat.reducePow, Int.reduceLE, Int.reduceLT, Int.reduceMul, Int.reduceAdd, Int.reduceSub, Int.reduceNeg, Bool.not_true, Bool.not_false, Bool.not_not, ↓reduceIte, Nat.reduceAdd, Nat.reduceSub, Nat.reduceMul, Nat.reduceEqDiff, reduceCtorEq, Nat.reduceLT, Nat.reduceLeDiff, Nat.reduceGT]); (try any_goals (refine ⟨?_, ?_⟩)); (try any_goals (with_reducible rfl))))
  all_goals have hw : IntKind.i64.wrap (s - 1) = s - 1 := wrap_i64 _ (by omega) (by omega)
  all_goals rw [hw]
  · omega
  · rw [namesL_len]; omega
  · rw [nameL, if_neg (by omega), show s.toNat - 1 = (s - 1).toNat by omega]
    (focus (refine ⟨_, _, Gh.refl, [], rfl, ?_⟩; (refine ⟨?_, ?_, ?_⟩ <;> simp only [go_sem, List.range, List.range.loop, List.nodup_cons, List.nodup_nil, List.mem_cons, List.not_mem_nil, or_false, or_self, Int.reduceToNat, Nat.min_eq_left, Nat.min_eq_right, Int.reducePow, Nat.reducePow, Int.reduceLE, Int.reduceLT, Int.reduceMul, Int.reduceAdd, Int.reduceSub, Int.reduceNeg, Bool.not_true, Bool.not_false, Bool.not_not, ↓reduceIte, Nat.reduceAdd, Nat.reduceSub, Nat.reduceMul, Nat.reduceEqDiff, reduceCtorEq, Nat.reduceLT, Nat.reduceLeDiff, Nat.reduceGT]); (try any_goals (refine ⟨?_, ?_⟩)); (try any_goals (with_reducible rfl))))
theorem b_rargs (s : Int) : DoesK Try.prog 0 21 [.int .i64 s] [] (EndF 0 (.tup [.int .i64 (argN s 0), .bool (argN s 1 == 1)]) []) := by
  refine DoesK.close ?_
  have hl := rowL_len s
  refine w_body (rs := [.tmp 2, .tmp 3]) (tm := [.int .i64 s, .any, .any, .any, .any, .any, .any, .any, .any, .any, .any, .any, .any, .any, .any, .any, .any]) fn_21 rfl rfl rfl rfl fun R hR => ?_
  (all_goals (try ((first | (with_reducible refine wp_id ?_) | (with_reducible refine does_id ?_)); refine walk ?_; (repeat' (first | exact trivial | with_reducible refine And.intro ?_ ?_)); all_goals (repeat (first | (with_reducible refine ImpB.mk fun hb => ?_) | (with_reducible refine ImpK.mk fun hK => ?_) | (with_reducible refine ImpF.mk fun hF => ?_) | (with_reducible refine AllK.mk fun K => ?_))))); repeat' (with_reducible refine And.intro ?_ ?_))
  (all_goals (repeat (first | (clear hK; clear K) | (clear hE; clear E) | (clear hF; clear F) | (clear hR; clear R))); all_goals (try simp only [decide_eq_true_eq, decide_eq_false_iff_not, Bool.not_eq_true', Bool.not_eq_false', Bool.not_eq_true, Bool.not_eq_false, decide_not, decide_true, decide_false, Bool.decide_and, Bool.and_eq_true, Bool.or_eq_true, Bool.and_eq_false_imp, Decidable.not_not] at *); all_goals (try omega); all_goals (try (first | exact u8w_lo _ | exact u8w_hi _ | exact (bits8 _ _ _).1 | exact (bits8 _ _ _).2 | exact Int.natCast_nonneg _ | exact u8_ltI _)))
  · rw [argN_out (by omega), argN_out (by omega)]
    (focus (refine ⟨_, _, Gh.refl, [], rfl, ?_⟩; (refine ⟨?_, ?_, ?_⟩ <;> simp only [go_sem, List.range, List.range.loop, List.nodup_cons, List.nodup_nil, List.mem_cons, List.not_mem_nil, or_false, or_self, Int.reduceToNat, Nat.min_eq_left, Nat.min_eq_right, Int.reducePow, Nat.reducePow, Int.reduceLE, Int.reduceLT, Int.reduceMul, Int.reduceAdd, Int.reduceSub, Int.reduceNeg, Bool.not_true, Bool.not_false, Bool.not_not, ↓reduceIte, Nat.reduceAdd, Nat.reduceSub, Nat.reduceMul, Nat.reduceEqDiff, reduceCtorEq, Nat.reduceLT, Nat.reduceLeDiff, Nat.reduceGT]); (try any_goals (refine ⟨?_, ?_⟩)); (try any_goals (with_reducible rfl))))
    all_goals rfl
  · (focus (refine ⟨_, _, Gh.refl, [], rfl, ?_⟩; (refine ⟨?_, ?_, ?_⟩ <;> simp only [go_sem, List.range, List.range.loop, List.nodup_cons, List.nodup_nil, List.mem_cons, List.not_mem_nil, or_false, or_self, Int.reduceToNat, Nat.min_eq_left, Nat.min_eq_right, Int.reducePow, Nat.reducePow, Int.reduceLE, Int.reduceLT, Int.reduceMul, Int.reduceAdd, Int.reduceSub, Int.reduceNeg, Bool.not_true, Bool.not_false, Bool.not_not, ↓reduceIte, Nat.reduceAdd, Nat.reduceSub, Nat.reduceMul, Nat.reduceEqDiff, reduceCtorEq, Nat.reduceLT, Nat.reduceLeDiff, Nat.reduceGT]); (try any_goals (refine ⟨?_, ?_⟩)); (try any_goals (with_reducible rfl))))
    all_goals rfl
theorem b_rperm (s m : Int) : DoesK Try.prog 0 22 [.int .i64 s, .int .i64 m] [] (EndF 0 (.bool (permB s m)) []) := by
  refine DoesK.close ?_
  have hl := rowL_len s
  refine w_body (rs := [.tmp 4]) (tm := [.int .i64 s, .int .i64 m, .any, .any, .any, .any, .any, .any, .any, .any, .any, .any, .any, .any, .any, .any, .any, .any, .any, .any, .any, .any, .any, .any, .any]) fn_22 rfl rfl rfl rfl fun R hR => ?_
  (all_goals (try ((first | (with_reducible refine wp_id ?_) | (with_reducible refine does_id ?_)); refine walk ?_; (repeat' (first | exact trivial | with_reducible refine And.intro ?_ ?_)); all_goals (repeat (first | (with_reducible refine ImpB.mk fun hb => ?_) | (with_reducible refine ImpK.mk fun hK => ?_) | (with_reducible refine ImpF.mk fun hF => ?_) | (with_reducible refine AllK.mk fun K => ?_))))); repeat' (with_reducible refine And.intro ?_ ?_))
  (all_goals (repeat (first | (clear hK; clear K) | (clear hE; clear E) | (clear hF; clear F) | (clear hR; clear R))); all_goals (try simp only [decide_eq_true_eq, decide_eq_false_iff_not, Bool.not_eq_true', Bool.not_eq_false', Bool.not_eq_true, Bool.not_eq_false, decide_not, decide_true, decide_false, Bool.decide_and, Bool.and_eq_true, Bool.or_eq_true, Bool.and_eq_false_imp, Decidable.not_not] at *); all_goals (try omega); all_goals (try (first | exact u8w_lo _ | exact u8w_hi _ | exact (bits8 _ _ _).1 | exact (bits8 _ _ _).2 | exact Int.natCast_nonneg _ | exact u8_ltI _)))
  · have : okS s = true := okS_t (by omega)
    (focus (refine ⟨_, _, Gh.refl, [], rfl, ?_⟩; (refine ⟨?_, ?_, ?_⟩ <;> simp only [go_sem, List.range, List.range.loop, List.nodup_cons, List.nodup_nil, List.mem_cons, List.not_mem_nil, or_false, or_self, Int.reduceToNat, Nat.min_eq_left, Nat.min_eq_right, Int.reducePow, Nat.reducePow, Int.reduceLE, Int.reduceLT, Int.reduceMul, Int.reduceAdd, Int.reduceSub, Int.reduceNeg, Bool.not_true, Bool.not_false, Bool.not_not, ↓reduceIte, Nat.reduceAdd, Nat.reduceSub, Nat.reduceMul, Nat.reduceEqDiff, reduceCtorEq, Nat.reduceLT, Nat.reduceLeDiff, Nat.reduceGT]); (try any_goals (refine ⟨?_, ?_⟩)); (try any_goals (with_reducible rfl))))
    simp only [argN, permB, *]
    simp
  · have : okS s = true := okS_t (by omega)
    (focus (refine ⟨_, _, Gh.refl, [], rfl, ?_⟩; (refine ⟨?_, ?_, ?_⟩ <;> simp only [go_sem, List.range, List.range.loop, List.nodup_cons, List.nodup_nil, List.mem_cons, List.not_mem_nil, or_false, or_self, Int.reduceToNat, Nat.min_eq_left, Nat.min_eq_right, Int.reducePow, Nat.reducePow, Int.reduceLE, Int.reduceLT, Int.reduceMul, Int.reduceAdd, Int.reduceSub, Int.reduceNeg, Bool.not_true, Bool.not_false, Bool.not_not, ↓reduceIte, Nat.reduceAdd, Nat.reduceSub, Nat.reduceMul, Nat.reduceEqDiff, reduceCtorEq, Nat.reduceLT, Nat.reduceLeDiff, Nat.reduceGT]); (try any_goals (refine ⟨?_, ?_⟩)); (try any_goals (with_reducible rfl))))
    simp only [argN, permB, *]
    simp
  · have : okS s = false := okS_f (by omega)
    (focus (refine ⟨_, _, Gh.refl, [], rfl, ?_⟩; (refine ⟨?_, ?_, ?_⟩ <;> simp only [go_sem, List.range, List.range.loop, List.nodup_cons, List.nodup_nil, List.mem_cons, List.not_mem_nil, or_false, or_self, Int.reduceToNat, Nat.min_eq_left, Nat.min_eq_right, Int.reducePow, Nat.reducePow, Int.reduceLE, Int.reduceLT, Int.reduceMul, Int.reduceAdd, Int.reduceSub, Int.reduceNeg, Bool.not_true, Bool.not_false, Bool.not_not, ↓reduceIte, Nat.reduceAdd, Nat.reduceSub, Nat.reduceMul, Nat.reduceEqDiff, reduceCtorEq, Nat.reduceLT, Nat.reduceLeDiff, Nat.reduceGT]); (try any_goals (refine ⟨?_, ?_⟩)); (try any_goals (with_reducible rfl))))
    simp [permB, *]
theorem c_svc {h : List Ch} {K : KT} {nm : List UInt8} (H : K (.int .i64 (svcN nm)) h) : Does Try.prog 18 [.str nm] h K :=
  frame_pure (b_svc nm) (br_cons br_str br_nil) (.inl rfl) (fun _ => rfl) H
abbrev i_svc := Ctr.mk (i := 0) (g := 18) @c_svc
attribute [instance] i_svc
theorem c_rsvc {h : List Ch} {K : KT} {nm : List UInt8} (H : K (.int .i64 (svcN nm)) h) : Does Try.prog 24 [.str nm] h K :=
  frame_pure (b_rsvc nm) (br_cons br_str br_nil) (.inl rfl) (fun _ => rfl) H
abbrev i_rsvc := Ctr.mk (i := 0) (g := 24) @c_rsvc
attribute [instance] i_rsvc
theorem c_rname {h : List Ch} {K : KT} {s : Int} (H : K (.str (nameL s)) h) : Does Try.prog 23 [.int .i64 s] h K :=
  frame_pure (b_rname s) (br_cons br_int br_nil) (.inl rfl) (fun _ => rfl) H
abbrev i_rname := Ctr.mk (i := 0) (g := 23) @c_rname
attribute [instance] i_rname
theorem c_rargs {h : List Ch} {K : KT} {s : Int} (H : K (.tup [.int .i64 (argN s 0), .bool (argN s 1 == 1)]) h) : Does Try.prog 21 [.int .i64 s] h K :=
  frame_pure (b_rargs s) (br_cons br_int br_nil) (.inl rfl) (fun _ => rfl) H
abbrev i_rargs := Ctr.mk (i := 0) (g := 21) @c_rargs
attribute [instance] i_rargs
theorem c_rperm {h : List Ch} {K : KT} {s m : Int} (H : K (.bool (permB s m)) h) : Does Try.prog 22 [.int .i64 s, .int .i64 m] h K :=
  frame_pure (b_rperm s m) (br_cons br_int (br_cons br_int br_nil)) (.inl rfl) (fun _ => rfl) H
abbrev i_rperm := Ctr.mk (i := 0) (g := 22) @c_rperm
attribute [instance] i_rperm
end Go.V
