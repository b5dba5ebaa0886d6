/-
  The command table, as the module and as the reference hold it.
  Commands as bytes: what encoding and decoding say, and that they are inverse.
  command and ref39: Valid, Encode.
  command and ref39: Encode, Same.
  command: Decode.
  ref39: Decode; the laws' helpers.
  ref39: Decode.
  Steps of sequences: which are valid, and their encodings.
  Steps of sequences: how they are read; what is read is what was encoded.
-/
import Derived.Test.YtpnfoffggcfhfaaPart12
set_option linter.unusedVariables false
set_option linter.unusedSimpArgs false
set_option maxRecDepth 100000
set_option maxHeartbeats 1000000
namespace Go.V
open Go.Proofs
/-- the rows of the table: arguments, whether data follow, least and most mode -/
def rowsL : List (List Int) := [[0, 0, 1, 4], [1, 0, 1, 4], [2, 0, 1, 4], [2, 1, 1, 4], [1, 0, 1, 4], [2, 0, 1, 4], [2, 0, 1, 4], [2, 0, 1, 4], [1, 1, 2, 4], [1, 0, 2, 4], [2, 0, 2, 4], [2, 1, 2, 4], [1, 0, 2, 4], [2, 0, 2, 4], [2, 0, 2, 4], [2, 1, 2, 4], [1, 0, 3, 4], [1, 0, 1, 4], [2, 1, 1, 2], [2, 0, 1, 4], [2, 0, 1, 4], [1, 1, 2, 4], [0, 1, 2, 4], [1, 0, 1, 4], [2, 0, 1, 2], [3, 0, 2, 4], [2, 0, 2, 4], [0, 0, 1, 2]]
def namesL : List (List UInt8) := [[112, 105, 110, 103], [115, 101, 116, 109, 111, 100, 101], [115, 101, 116, 112, 97, 114, 97, 109], [104, 107, 100, 101, 102, 105, 110, 101], [104, 107, 100, 101, 108, 101, 116, 101], [104, 107, 101, 110, 97, 98, 108, 101], [109, 111, 110, 101, 110, 97, 98, 108, 101], [101, 118, 101, 110, 116, 101, 110, 97, 98, 108, 101], [97, 99, 116, 97, 100, 100], [97, 99, 116, 100, 101, 108, 101, 116, 101], [97, 99, 116, 101, 110, 97, 98, 108, 101], [115, 99, 104, 101, 100, 105, 110, 115, 101, 114, 116], [115, 99, 104, 101, 100, 100, 101, 108, 101, 116, 101], [115, 99, 104, 101, 100, 115, 104, 105, 102, 116], [115, 99, 104, 101, 100, 101, 110, 97, 98, 108, 101], [115, 101, 113, 108, 111, 97, 100], [115, 101, 113, 115, 116, 97, 114, 116], [115, 101, 113, 115, 116, 111, 112], [109, 101, 109, 108, 111, 97, 100], [109, 101, 109, 100, 117, 109, 112], [109, 101, 109, 99, 104, 101, 99, 107], [102, 105, 108, 101, 115, 101, 110, 100], [102, 105, 108, 101, 100, 101, 108, 101, 116, 101], [102, 105, 108, 101, 99, 111, 110, 116, 114, 111, 108], [117, 110, 105, 116, 115, 119, 105, 116, 99, 104], [114, 101, 99, 114, 101, 112, 108, 97, 121], [114, 101, 99, 100, 101, 108, 101, 116, 101], [114, 101, 98, 111, 111, 116]]
def rowL (s : Int) : List Int := if s < 1 ∨ 28 < s then [] else rowsL.getD (s.toNat - 1) []
def nameL (s : Int) : List UInt8 := if s < 1 ∨ 28 < s then [] else namesL.getD (s.toNat - 1) []
def argN (s : Int) (j : Nat) : Int := (rowL s).getD j 0
def rowC (s : Int) : List AV := [.str (nameL s), .int .i64 (argN s 0), .bool (argN s 1 == 1), .int .i64 (argN s 2), .int .i64 (argN s 3)]
def tabF : List AV := List.flatten [[.str [], .int .i64 0, .bool false, .int .i64 0, .int .i64 0], [.str [112, 105, 110, 103], .int .i64 0, .bool false, .int .i64 1, .int .i64 4], [.str [115, 101, 116, 109, 111, 100, 101], .int .i64 1, .bool false, .int .i64 1, .int .i64 4], [.str [115, 101, 116, 112, 97, 114, 97, 109], .int .i64 2, .bool false, .int .i64 1, .int .i64 4], [.str [104, 107, 100, 101, 102, 105, 110, 101], .int .i64 2, .bool true, .int .i64 1, .int .i64 4], [.str [104, 107, 100, 101, 108, 101, 116, 101], .int .i64 1, .bool false, .int .i64 1, .int .i64 4], [.str [104, 107, 101, 110, 97, 98, 108, 101], .int .i64 2, .bool false, .int .i64 1, .int .i64 4], [.str [109, 111, 110, 101, 110, 97, 98, 108, 101], .int .i64 2, .bool false, .int .i64 1, .int .i64 4], [.str [101, 118, 101, 110, 116, 101, 110, 97, 98, 108, 101], .int .i64 2, .bool false, .int .i64 1, .int .i64 4], [.str [97, 99, 116, 97, 100, 100], .int .i64 1, .bool true, .int .i64 2, .int .i64 4], [.str [97, 99, 116, 100, 101, 108, 101, 116, 101], .int .i64 1, .bool false, .int .i64 2, .int .i64 4], [.str [97, 99, 116, 101, 110, 97, 98, 108, 101], .int .i64 2, .bool false, .int .i64 2, .int .i64 4], [.str [115, 99, 104, 101, 100, 105, 110, 115, 101, 114, 116], .int .i64 2, .bool true, .int .i64 2, .int .i64 4], [.str [115, 99, 104, 101, 100, 100, 101, 108, 101, 116, 101], .int .i64 1, .bool false, .int .i64 2, .int .i64 4], [.str [115, 99, 104, 101, 100, 115, 104, 105, 102, 116], .int .i64 2, .bool false, .int .i64 2, .int .i64 4], [.str [115, 99, 104, 101, 100, 101, 110, 97, 98, 108, 101], .int .i64 2, .bool false, .int .i64 2, .int .i64 4], [.str [115, 101, 113, 108, 111, 97, 100], .int .i64 2, .bool true, .int .i64 2, .int .i64 4], [.str [115, 101, 113, 115, 116, 97, 114, 116], .int .i64 1, .bool false, .int .i64 3, .int .i64 4], [.str [115, 101, 113, 115, 116, 111, 112], .int .i64 1, .bool false, .int .i64 1, .int .i64 4], [.str [109, 101, 109, 108, 111, 97, 100], .int .i64 2, .bool true, .int .i64 1, .int .i64 2], [.str [109, 101, 109, 100, 117, 109, 112], .int .i64 2, .bool false, .int .i64 1, .int .i64 4], [.str [109, 101, 109, 99, 104, 101, 99, 107], .int .i64 2, .bool false, .int .i64 1, .int .i64 4], [.str [102, 105, 108, 101, 115, 101, 110, 100], .int .i64 1, .bool true, .int .i64 2, .int .i64 4], [.str [102, 105, 108, 101, 100, 101, 108, 101, 116, 101], .int .i64 0, .bool true, .int .i64 2, .int .i64 4], [.str [102, 105, 108, 101, 99, 111, 110, 116, 114, 111, 108], .int .i64 1, .bool false, .int .i64 1, .int .i64 4], [.str [117, 110, 105, 116, 115, 119, 105, 116, 99, 104], .int .i64 2, .bool false, .int .i64 1, .int .i64 2], [.str [114, 101, 99, 114, 101, 112, 108, 97, 121], .int .i64 3, .bool false, .int .i64 2, .int .i64 4], [.str [114, 101, 99, 100, 101, 108, 101, 116, 101], .int .i64 2, .bool false, .int .i64 2, .int .i64 4], [.str [114, 101, 98, 111, 111, 116], .int .i64 0, .bool false, .int .i64 1, .int .i64 2]]
theorem tab_len : tabF.length = 145 := rfl
theorem tab_row0 : AV.agg ((tabF.drop 0).take 5) = .agg (rowC 0) := by simp [tabF, rowC, nameL, argN, rowL, namesL, rowsL]
theorem tab_row1 : AV.agg ((tabF.drop 5).take 5) = .agg (rowC 1) := by simp [tabF, rowC, nameL, argN, rowL, namesL, rowsL]
theorem tab_row2 : AV.agg ((tabF.drop 10).take 5) = .agg (rowC 2) := by simp [tabF, rowC, nameL, argN, rowL, namesL, rowsL]
theorem tab_row3 : AV.agg ((tabF.drop 15).take 5) = .agg (rowC 3) := by simp [tabF, rowC, nameL, argN, rowL, namesL, rowsL]
theorem tab_row4 : AV.agg ((tabF.drop 20).take 5) = .agg (rowC 4) := by simp [tabF, rowC, nameL, argN, rowL, namesL, rowsL]
theorem tab_row5 : AV.agg ((tabF.drop 25).take 5) = .agg (rowC 5) := by simp [tabF, rowC, nameL, argN, rowL, namesL, rowsL]
theorem tab_row6 : AV.agg ((tabF.drop 30).take 5) = .agg (rowC 6) := by simp [tabF, rowC, nameL, argN, rowL, namesL, rowsL]
theorem tab_row7 : AV.agg ((tabF.drop 35).take 5) = .agg (rowC 7) := by simp [tabF, rowC, nameL, argN, rowL, namesL, rowsL]
theorem tab_row8 : AV.agg ((tabF.drop 40).take 5) = .agg (rowC 8) := by simp [tabF, rowC, nameL, argN, rowL, namesL, rowsL]
theorem tab_row9 : AV.agg ((tabF.drop 45).take 5) = .agg (rowC 9) := by simp [tabF, rowC, nameL, argN, rowL, namesL, rowsL]
theorem tab_row10 : AV.agg ((tabF.drop 50).take 5) = .agg (rowC 10) := by simp [tabF, rowC, nameL, argN, rowL, namesL, rowsL]
theorem tab_row11 : AV.agg ((tabF.drop 55).take 5) = .agg (rowC 11) := by simp [tabF, rowC, nameL, argN, rowL, namesL, rowsL]
theorem tab_row12 : AV.agg ((tabF.drop 60).take 5) = .agg (rowC 12) := by simp [tabF, rowC, nameL, argN, rowL, namesL, rowsL]
theorem tab_row13 : AV.agg ((tabF.drop 65).take 5) = .agg (rowC 13) := by simp [tabF, rowC, nameL, argN, rowL, namesL, rowsL]
theorem tab_row14 : AV.agg ((tabF.drop 70).take 5) = .agg (rowC 14) := by simp [tabF, rowC, nameL, argN, rowL, namesL, rowsL]
theorem tab_row15 : AV.agg ((tabF.drop 75).take 5) = .agg (rowC 15) := by simp [tabF, rowC, nameL, argN, rowL, namesL, rowsL]
theorem tab_row16 : AV.agg ((tabF.drop 80).take 5) = .agg (rowC 16) := by simp [tabF, rowC, nameL, argN, rowL, namesL, rowsL]
theorem tab_row17 : AV.agg ((tabF.drop 85).take 5) = .agg (rowC 17) := by simp [tabF, rowC, nameL, argN, rowL, namesL, rowsL]
theorem tab_row18 : AV.agg ((tabF.drop 90).take 5) = .agg (rowC 18) := by simp [tabF, rowC, nameL, argN, rowL, namesL, rowsL]
theorem tab_row19 : AV.agg ((tabF.drop 95).take 5) = .agg (rowC 19) := by simp [tabF, rowC, nameL, argN, rowL, namesL, rowsL]
theorem tab_row20 : AV.agg ((tabF.drop 100).take 5) = .agg (rowC 20) := by simp [tabF, rowC, nameL, argN, rowL, namesL, rowsL]
theorem tab_row21 : AV.agg ((tabF.drop 105).take 5) = .agg (rowC 21) := by simp [tabF, rowC, nameL, argN, rowL, namesL, rowsL]
theorem tab_row22 : AV.agg ((tabF.drop 110).take 5) = .agg (rowC 22) := by simp [tabF, rowC, nameL, argN, rowL, namesL, rowsL]
theorem tab_row23 : AV.agg ((tabF.drop 115).take 5) = .agg (rowC 23) := by simp [tabF, rowC, nameL, argN, rowL, namesL, rowsL]
theorem tab_row24 : AV.agg ((tabF.drop 120).take 5) = .agg (rowC 24) := by simp [tabF, rowC, nameL, argN, rowL, namesL, rowsL]
theorem tab_row25 : AV.agg ((tabF.drop 125).take 5) = .agg (rowC 25) := by simp [tabF, rowC, nameL, argN, rowL, namesL, rowsL]
theorem tab_row26 : AV.agg ((tabF.drop 130).take 5) = .agg (rowC 26) := by simp [tabF, rowC, nameL, argN, rowL, namesL, rowsL]
theorem tab_row27 : AV.agg ((tabF.drop 135).take 5) = .agg (rowC 27) := by simp [tabF, rowC, nameL, argN, rowL, namesL, rowsL]
theorem tab_row28 : AV.agg ((tabF.drop 140).take 5) = .agg (rowC 28) := by simp [tabF, rowC, nameL, argN, rowL, namesL, rowsL]
theorem tab_row (n : Nat) (hn : n < 29) : partA Try.prog 110 tabF (n * szT Try.prog 110) = .agg (rowC n) := by
  rw [partA, kd_110, sz_110]
  dsimp only
  match n with
  | 0 => exact tab_row0
  | 1 => exact tab_row1
  | 2 => exact tab_row2
  | 3 => exact tab_row3
  | 4 => exact tab_row4
  | 5 => exact tab_row5
  | 6 => exact tab_row6
  | 7 => exact tab_row7
  | 8 => exact tab_row8
  | 9 => exact tab_row9
  | 10 => exact tab_row10
  | 11 => exact tab_row11
  | 12 => exact tab_row12
  | 13 => exact tab_row13
  | 14 => exact tab_row14
  | 15 => exact tab_row15
  | 16 => exact tab_row16
  | 17 => exact tab_row17
  | 18 => exact tab_row18
  | 19 => exact tab_row19
  | 20 => exact tab_row20
  | 21 => exact tab_row21
  | 22 => exact tab_row22
  | 23 => exact tab_row23
  | 24 => exact tab_row24
  | 25 => exact tab_row25
  | 26 => exact tab_row26
  | 27 => exact tab_row27
  | 28 => exact tab_row28
  | n + 29 => omega
theorem allN_i {n : Nat} {F : Nat → Prop} (h : ∀ j, j < n → F j) : allN n F := by
  induction n with
  | zero => trivial
  | succ n ih => exact ⟨ih fun j hj => h j (by omega), h n (by omega)⟩
theorem allN_e {n : Nat} {F : Nat → Prop} (h : allN n F) : ∀ j, j < n → F j := by
  induction n with
  | zero => intro j hj; omega
  | succ n ih =>
    intro j hj
    rcases Nat.lt_or_ge j n with h1 | h1
    · exact ih h.1 j h1
    · have : j = n := by omega
      subst this
      exact h.2
theorem idx_tab {i : Int} {K : AV → Prop} : idxK Try.prog (.array 29 110) (.agg tabF) (.int .i64 i) K = ((0 ≤ i ∧ i < 29) ∧ K (.agg (rowC i))) := by
  have e : ∀ j, j < 29 → partA Try.prog 110 tabF (j * szT Try.prog 110) = .agg (rowC j) := tab_row
  unfold idxK
  apply propext
  constructor
  · rintro ⟨h1, _, h3⟩
    refine ⟨h1, ?_⟩
    have := allN_e h3 i.toNat (by omega) (by omega)
    rw [e _ (by omega)] at this
    rw [show ((i.toNat : Nat) : Int) = i by omega] at this
    exact this
  · rintro ⟨h1, h2⟩
    refine ⟨h1, by rw [tab_len, sz_110], allN_i fun j hj hi => ?_⟩
    rw [e j hj, ← hi]
    exact h2
theorem b_table : DoesK Try.prog 0 87 [] [] (EndF 0 (.agg tabF) []) := by
  refine DoesK.close ?_
  refine w_body (rs := [.cell 0 129]) (tm := [.any, .any, .any, .any, .any, .any, .any, .any, .any, .any, .any, .any, .any, .any, .any, .any, .any, .any, .any, .any, .any, .any, .any, .any, .any, .any, .any, .any, .any, .any]) fn_87 rfl rfl rfl rfl fun R hR => ?_
  (all_goals (try ((first | (with_reducible refine wp_id ?_) | (with_reducible refine does_id ?_) | (with_reducible refine ops_id ?_)); refine walk ?_; (repeat' (first | exact trivial | with_reducible refine And.intro ?_ ?_)); all_goals (repeat (first | (with_reducible refine ImpB.mk fun hb => ?_) | (with_reducible refine ImpK.mk fun hK => ?_) | (with_reducible refine ImpF.mk fun hF => ?_) | (with_reducible refine ImpQ.mk fun hp => ?_) | (with_reducible refine AllE.mk fun p => ?_) | (with_reducible refine AllR.mk fun rest => ?_) | (with_reducible refine AllK.mk fun K => ?_))))); repeat' (with_reducible refine And.intro ?_ ?_))
  (all_goals (repeat (first | (clear hK; clear K) | (clear hE; clear E) | (clear hF; clear F) | (clear hR; clear R))); all_goals (try simp only [decide_eq_true_eq, decide_eq_false_iff_not, Bool.not_eq_true', Bool.not_eq_false', Bool.not_eq_true, Bool.not_eq_false, decide_not, decide_true, decide_false, Bool.decide_and, Bool.and_eq_true, Bool.or_eq_true, Bool.and_eq_false_imp, Decidable.not_not] at *); all_goals (try omega); all_goals (try (first | exact u8w_lo _ | exact u8w_hi _ | exact (bits8 _ _ _).1 | exact (bits8 _ _ _).2 | exact Int.natCast_nonneg _ | exact u8_ltI _)))
  simp only [tabF, List.flatten_cons, List.flatten_nil, List.append_nil, List.cons_append, List.nil_append]
  (focus (refine ⟨_, _, Gh.refl, [], rfl, ?_⟩; (refine fitq ?_ ?_ ?_ <;> try exact trivial); (try any_goals (refine ⟨?_, ?_⟩)); (try any_goals (with_reducible rfl))))
theorem c_table {h : List Ch} {K : KT} (H : K (.agg tabF) h) : Does Try.prog 87 [] h K :=
  frame_pure b_table br_nil (.inl rfl) (fun _ => rfl) H
abbrev i_table := Ctr.mk (i := 0) (g := 87) @c_table
attribute [instance] i_table
theorem fit_tab : fitL [] tabF tabF = True := by
  apply eq_true
  simp only [tabF, List.flatten_cons, List.flatten_nil, List.append_nil, List.cons_append, List.nil_append, go_sem]
attribute [go_sem] fit_tab
attribute [irreducible] tabF
attribute [-go_sem] idxK
attribute [go_sem] idx_tab
attribute [go_sem] rowC
def okS (s : Int) : Bool := decide (1 ≤ s ∧ s ≤ 28)
theorem okS_f {s : Int} (h : s < 1 ∨ 28 < s) : okS s = false := by simp [okS]; omega
theorem okS_t {s : Int} (h : ¬ (s < 1 ∨ 28 < s)) : okS s = true := by simp [okS]; omega
theorem nameL_out {s : Int} (h : s < 1 ∨ 28 < s) : nameL s = [] := by rw [nameL, if_pos h]
theorem argN_out {s : Int} {j : Nat} (h : s < 1 ∨ 28 < s) : argN s j = 0 := by simp only [argN, rowL, if_pos h]; rfl
theorem b_find (s : Int) : DoesK Try.prog 0 63 [.int .i64 s] [] (EndF 0 (.tup [.agg (rowC s), .bool (okS s)]) []) := by
  refine DoesK.close ?_
  refine w_body (rs := [.cell 2 110, .tmp 3]) (tm := [.int .i64 s, .any, .any, .any, .any, .any, .any, .any, .any, .any, .any, .any, .any, .any]) fn_63 rfl rfl rfl rfl fun R hR => ?_
  (all_goals (try ((first | (with_reducible refine wp_id ?_) | (with_reducible refine does_id ?_) | (with_reducible refine ops_id ?_)); refine walk ?_; (repeat' (first | exact trivial | with_reducible refine And.intro ?_ ?_)); all_goals (repeat (first | (with_reducible refine ImpB.mk fun hb => ?_) | (with_reducible refine ImpK.mk fun hK => ?_) | (with_reducible refine ImpF.mk fun hF => ?_) | (with_reducible refine ImpQ.mk fun hp => ?_) | (with_reducible refine AllE.mk fun p => ?_) | (with_reducible refine AllR.mk fun rest => ?_) | (with_reducible refine AllK.mk fun K => ?_))))); repeat' (with_reducible refine And.intro ?_ ?_))
  (all_goals (repeat (first | (clear hK; clear K) | (clear hE; clear E) | (clear hF; clear F) | (clear hR; clear R))); all_goals (try simp only [decide_eq_true_eq, decide_eq_false_iff_not, Bool.not_eq_true', Bool.not_eq_false', Bool.not_eq_true, Bool.not_eq_false, decide_not, decide_true, decide_false, Bool.decide_and, Bool.and_eq_true, Bool.or_eq_true, Bool.and_eq_false_imp, Decidable.not_not] at *); all_goals (try omega); all_goals (try (first | exact u8w_lo _ | exact u8w_hi _ | exact (bits8 _ _ _).1 | exact (bits8 _ _ _).2 | exact Int.natCast_nonneg _ | exact u8_ltI _)))
  · rw [okS_f (by omega), nameL_out (by omega), argN_out (by omega), argN_out (by omega), argN_out (by omega), argN_out (by omega)]
    (focus (refine ⟨_, _, Gh.refl, [], rfl, ?_⟩; (refine fitq ?_ ?_ ?_ <;> try exact trivial); (try any_goals (refine ⟨?_, ?_⟩)); (try any_goals (with_reducible rfl))))
    all_goals rfl
  · rw [okS_f (by omega), nameL_out (by omega), argN_out (by omega), argN_out (by omega), argN_out (by omega), argN_out (by omega)]
    (focus (refine ⟨_, _, Gh.refl, [], rfl, ?_⟩; (refine fitq ?_ ?_ ?_ <;> try exact trivial); (try any_goals (refine ⟨?_, ?_⟩)); (try any_goals (with_reducible rfl))))
    all_goals rfl
  · rw [okS_t (by omega)]
    (focus (refine ⟨_, _, Gh.refl, [], rfl, ?_⟩; (refine fitq ?_ ?_ ?_ <;> try exact trivial); (try any_goals (refine ⟨?_, ?_⟩)); (try any_goals (with_reducible rfl))))
theorem c_find {h : List Ch} {K : KT} {s : Int} (H : K (.tup [.agg (rowC s), .bool (okS s)]) h) : Does Try.prog 63 [.int .i64 s] h K :=
  frame_pure (b_find s) (br_cons br_int br_nil) (.inl rfl) (fun _ => rfl) H
abbrev i_find := Ctr.mk (i := 0) (g := 63) @c_find
attribute [instance] i_find
end Go.V

set_option maxRecDepth 100000
namespace Go.V
open Go.Proofs
def intsR (r : Option (List UInt8)) : Nat → List Int × Option (List UInt8)
  | 0 => ([], r)
  | k + 1 => ((intsR r k).1 ++ [(intR (intsR r k).2).1], (intR (intsR r k).2).2)
theorem intsR_len (r : Option (List UInt8)) (k : Nat) : (intsR r k).1.length = k := by
  induction k with
  | zero => rfl
  | succ k ih => simp [intsR, ih]
def dataS (s : Int) : Bool := argN s 1 == 1
/-- a command that may be sent -/
def validC (c : Cmd) : Bool := okS c.srv && decide (0 ≤ c.src) && decide (c.src ≤ 15) && decide (0 ≤ c.num) && decide (c.num ≤ 65535) && decide ((c.args.length : Int) = argN c.srv 0)
  && c.args.all (fun a => decide (-1099511627776 ≤ a) && decide (a ≤ 1099511627776))
  && (if dataS c.srv = true then decide (1 ≤ c.data.length) && decide (c.data.length ≤ 512) else decide (c.data.length = 0))
def encC (c : Cmd) : List UInt8 := be c.src.toNat 1 ++ be c.num.toNat 2 ++ be c.srv.toNat 1 ++ c.args.flatMap encI ++ (if dataS c.srv = true then encI c.data.length ++ c.data else [])
theorem validC_iff (c : Cmd) : validC c = true ↔ okS c.srv = true ∧ 0 ≤ c.src ∧ c.src ≤ 15 ∧ 0 ≤ c.num ∧ c.num ≤ 65535 ∧ (c.args.length : Int) = argN c.srv 0
  ∧ (∀ a ∈ c.args, -1099511627776 ≤ a ∧ a ≤ 1099511627776) ∧ (if dataS c.srv = true then 1 ≤ c.data.length ∧ c.data.length ≤ 512 else c.data.length = 0) := by
  unfold validC
  split <;> simp [and_assoc]
theorem okS_iff (s : Int) : okS s = true ↔ 1 ≤ s ∧ s ≤ 28 := by simp [okS]
theorem arg0_le (s : Int) : argN s 0 ≤ 3 := by
  have k : ∀ x ∈ rowsL, x.getD 0 0 ≤ 3 := by decide
  unfold argN rowL
  split
  · decide
  · rw [List.getD_eq_getElem?_getD (l := rowsL)]
    cases e : rowsL[s.toNat - 1]? with
    | none => decide
    | some x => exact k x (List.mem_of_getElem? e)
theorem encs_len : ∀ zs : List Int, (∀ a ∈ zs, -1099511627776 ≤ a ∧ a ≤ 1099511627776) → (zs.flatMap encI).length ≤ 10 * zs.length := by
  intro zs
  induction zs with
  | nil => intro _; simp
  | cons a zs ih =>
    intro ha
    have := ih fun x hx => ha x (List.mem_cons_of_mem _ hx)
    have h0 := ha a (List.mem_cons_self ..)
    have := encI_le a (by constructor <;> omega)
    simp only [List.flatMap_cons, List.length_append, List.length_cons]
    omega
theorem encC_len {c : Cmd} (h : validC c = true) : (encC c).length ≤ 600 := by
  rw [validC_iff] at h
  obtain ⟨h1, h2, h3, h4, h5, h6, h7, h8⟩ := h
  have hal := arg0_le c.srv
  have hf := encs_len
  have := hf c.args h7
  have := encI_le c.data.length (by split at h8 <;> constructor <;> omega)
  unfold encC
  simp only [List.length_append, be_len]
  split at h8 <;> rename_i hd
  · rw [if_pos hd]
    simp only [List.length_append]
    omega
  · rw [if_neg hd]
    simp only [List.length_nil]
    omega
end Go.V

set_option maxRecDepth 100000
set_option maxHeartbeats 1000000
namespace Go.V
open Go.Proofs
theorem c_wbytes {h : List Ch} {K : KT} {t : Nat} {xs : List UInt8} (H : K (.sl h.length .byte 0 xs.length) (h ++ [.rows .byte xs])) (o : hth h t = .pack (Wr xs)) (s1 : xs.length ≤ 1099511627776) : Does Try.prog 40 [.ptr t 0] h K :=
  frame_obj (ret' := .sl h.length .byte 0 xs.length) (b_wbytes xs s1) o (by simp) (fitC_pack _) (br_cons (br_ptr rfl) br_nil) (.inl rfl) (fun _ => rfl) (fun _ => rfl) rfl (by rw [set_hth o (by simp)]; exact H)
abbrev i_wbytes := Ctr.mk (i := 0) (g := 40) @c_wbytes
attribute [instance] i_wbytes
def Cmd.av (c : Cmd) : AV := .agg c.cells
theorem vF {c : Cmd} (h : validC c = true → False) : validC c = false := by
  cases e : validC c
  · rfl
  · exact (h e).elim
def inB (a : Int) : Prop := -1099511627776 ≤ a ∧ a ≤ 1099511627776
theorem take_all {l : List Int} {k : Nat} (h : ∀ a ∈ l.take k, inB a) (hk : k < l.length) (hx : inB (l.getD k 0)) : ∀ a ∈ l.take (k + 1), inB a := by
  rw [List.take_succ_eq_append_getElem hk]
  intro a ha
  rcases List.mem_append.1 ha with h1 | h1
  · exact h a h1
  · rw [List.mem_singleton] at h1
    rw [h1]
    rw [List.getD_eq_getElem?_getD, List.getElem?_eq_getElem hk] at hx
    exact hx
theorem not_all {l : List Int} {k : Nat} (hk : k < l.length) (hx : ¬ inB (l.getD k 0)) (h : ∀ a ∈ l, -1099511627776 ≤ a ∧ a ≤ 1099511627776) : False := by
  rw [List.getD_eq_getElem?_getD, List.getElem?_eq_getElem hk] at hx
  exact hx (h _ (List.getElem_mem hk))
theorem vF1 {c : Cmd} (h : ¬ (okS c.srv = true ∧ 0 ≤ c.src ∧ c.src ≤ 15 ∧ 0 ≤ c.num ∧ c.num ≤ 65535 ∧ (c.args.length : Int) = argN c.srv 0)) : validC c = false :=
  vF fun e => by
    rw [validC_iff] at e
    exact h ⟨e.1, e.2.1, e.2.2.1, e.2.2.2.1, e.2.2.2.2.1, e.2.2.2.2.2.1⟩
theorem vF2 {c : Cmd} {k : Nat} (hk : k < c.args.length) (hx : ¬ inB (c.args.getD k 0)) : validC c = false :=
  vF fun e => by
    rw [validC_iff] at e
    exact not_all hk hx e.2.2.2.2.2.2.1
theorem vT {c : Cmd} (h : okS c.srv = true ∧ 0 ≤ c.src ∧ c.src ≤ 15 ∧ 0 ≤ c.num ∧ c.num ≤ 65535 ∧ (c.args.length : Int) = argN c.srv 0) (h7 : ∀ a ∈ c.args, inB a) : validC c = if dataS c.srv = true then decide (1 ≤ c.data.length) && decide (c.data.length ≤ 512) else decide (c.data.length = 0) := by
  obtain ⟨h1, h2, h3, h4, h5, h6⟩ := h
  have h8 : c.args.all (fun a => decide (-1099511627776 ≤ a) && decide (a ≤ 1099511627776)) = true := by
    rw [List.all_eq_true]
    intro a ha
    have := h7 a ha
    simp only [Bool.and_eq_true, decide_eq_true_eq]
    exact this
  simp only [validC, h1, h2, h3, h4, h5, h6, h8, decide_true, Bool.true_and]
theorem b_valid (c : Cmd) (hl : c.args.length ≤ 1099511627776) : DoesK Try.prog 0 62 [.agg [.int .i64 c.src, .int .i64 c.num, .int .i64 c.srv, .ro .int c.args, .ro .byte c.data]] [] (EndF 0 (.bool (validC c)) []) := by
  refine DoesK.close ?_
  refine w_body (rs := [.tmp 2]) (tm := [.agg [.int .i64 c.src, .int .i64 c.num, .int .i64 c.srv, .ro .int c.args, .ro .byte c.data], .any, .any, .any, .any, .any, .any, .any, .any, .any, .any, .any, .any, .any, .any, .any, .any, .any, .any, .any, .any, .any, .any, .any, .any, .any, .any, .any, .any, .any, .any, .any, .any, .any, .any, .any, .any, .any, .any, .any, .any, .any, .any, .any, .any, .any, .any, .any, .any, .any, .any, .any, .any, .any, .any, .any, .any, .any, .any, .any, .any, .any, .any, .any, .any, .any, .any, .any, .any, .any, .any, .any, .any]) fn_62 rfl rfl rfl rfl fun R hR => ?_
  (all_goals (try ((first | (with_reducible refine wp_id ?_) | (with_reducible refine does_id ?_) | (with_reducible refine ops_id ?_)); refine walk ?_; (repeat' (first | exact trivial | with_reducible refine And.intro ?_ ?_)); all_goals (repeat (first | (with_reducible refine ImpB.mk fun hb => ?_) | (with_reducible refine ImpK.mk fun hK => ?_) | (with_reducible refine ImpF.mk fun hF => ?_) | (with_reducible refine ImpQ.mk fun hp => ?_) | (with_reducible refine AllE.mk fun p => ?_) | (with_reducible refine AllR.mk fun rest => ?_) | (with_reducible refine AllK.mk fun K => ?_))))); repeat' (with_reducible refine And.intro ?_ ?_))
  any_goals ((try (refine w_seq fun K hK => ?_)); (try (refine w_block ?_)); refine w_loop (A := Nat) (fun k => (∀ a ∈ c.args.take k, inB a) ∧ k ≤ c.args.length) (fun k => c.args.length - k) (fun k => [(46, .int .i64 k)]) (fun _ => []) (0) (ws := ?ws1) (tk := ?tk1) ?hw1 ?ht1 ?hi ?h0 ?LH1; (case hw1 => simp only [go_sem, decide_true, decide_false, Int.reduceToNat, Nat.min_eq_left, Nat.min_eq_right, Int.reducePow, Nat.reducePow, Int.reduceLE, Int.reduceLT, Int.reduceMul, Int.reduceAdd, Int.reduceSub, Int.reduceNeg, Bool.not_true, Bool.not_false, Bool.not_not, ↓reduceIte, Nat.reduceAdd, Nat.reduceSub, Nat.reduceMul, Nat.reduceEqDiff, reduceCtorEq, Nat.reduceLT, Nat.reduceLeDiff, Nat.reduceGT]; exact rfl); (case ht1 => simp only [go_sem, decide_true, decide_false, Int.reduceToNat, Nat.min_eq_left, Nat.min_eq_right, Int.reducePow, Nat.reducePow, Int.reduceLE, Int.reduceLT, Int.reduceMul, Int.reduceAdd, Int.reduceSub, Int.reduceNeg, Bool.not_true, Bool.not_false, Bool.not_not, ↓reduceIte, Nat.reduceAdd, Nat.reduceSub, Nat.reduceMul, Nat.reduceEqDiff, reduceCtorEq, Nat.reduceLT, Nat.reduceLeDiff, Nat.reduceGT]; exact rfl); (case' LH1 => rintro k E t hx hE ht; simp only [go_sem] at ht; subst ht; simp only [go_sem]; try dsimp only at hx))
  (all_goals (try ((first | (with_reducible refine wp_id ?_) | (with_reducible refine does_id ?_) | (with_reducible refine ops_id ?_)); refine walk ?_; (repeat' (first | exact trivial | with_reducible refine And.intro ?_ ?_)); all_goals (repeat (first | (with_reducible refine ImpB.mk fun hb => ?_) | (with_reducible refine ImpK.mk fun hK => ?_) | (with_reducible refine ImpF.mk fun hF => ?_) | (with_reducible refine ImpQ.mk fun hp => ?_) | (with_reducible refine AllE.mk fun p => ?_) | (with_reducible refine AllR.mk fun rest => ?_) | (with_reducible refine AllK.mk fun K => ?_))))); repeat' (with_reducible refine And.intro ?_ ?_))
  (all_goals (repeat (first | (clear hK; clear K) | (clear hE; clear E) | (clear hF; clear F) | (clear hR; clear R))); all_goals (try simp only [decide_eq_true_eq, decide_eq_false_iff_not, Bool.not_eq_true', Bool.not_eq_false', Bool.not_eq_true, Bool.not_eq_false, decide_not, decide_true, decide_false, Bool.decide_and, Bool.and_eq_true, Bool.or_eq_true, Bool.and_eq_false_imp, Decidable.not_not] at *); all_goals (try omega); all_goals (try (first | exact u8w_lo _ | exact u8w_hi _ | exact (bits8 _ _ _).1 | exact (bits8 _ _ _).2 | exact Int.natCast_nonneg _ | exact u8_ltI _)))
  · rw [vF1 (by simp [*])]
    (focus (refine ⟨_, _, Gh.refl, [], rfl, ?_⟩; (refine fitq ?_ ?_ ?_ <;> try exact trivial); (try any_goals (refine ⟨?_, ?_⟩)); (try any_goals (with_reducible rfl))))
  · rw [vF1 (by omega)]
    (focus (refine ⟨_, _, Gh.refl, [], rfl, ?_⟩; (refine fitq ?_ ?_ ?_ <;> try exact trivial); (try any_goals (refine ⟨?_, ?_⟩)); (try any_goals (with_reducible rfl))))
  · rw [vF1 (by omega)]
    (focus (refine ⟨_, _, Gh.refl, [], rfl, ?_⟩; (refine fitq ?_ ?_ ?_ <;> try exact trivial); (try any_goals (refine ⟨?_, ?_⟩)); (try any_goals (with_reducible rfl))))
  · rw [vF1 (by omega)]
    (focus (refine ⟨_, _, Gh.refl, [], rfl, ?_⟩; (refine fitq ?_ ?_ ?_ <;> try exact trivial); (try any_goals (refine ⟨?_, ?_⟩)); (try any_goals (with_reducible rfl))))
  · rw [vF1 (by omega)]
    (focus (refine ⟨_, _, Gh.refl, [], rfl, ?_⟩; (refine fitq ?_ ?_ ?_ <;> try exact trivial); (try any_goals (refine ⟨?_, ?_⟩)); (try any_goals (with_reducible rfl))))
  · rw [vF1 (by omega)]
    (focus (refine ⟨_, _, Gh.refl, [], rfl, ?_⟩; (refine fitq ?_ ?_ ?_ <;> try exact trivial); (try any_goals (refine ⟨?_, ?_⟩)); (try any_goals (with_reducible rfl))))
  · rw [vF2 (k := k) (by omega) (by unfold inB; omega)]
    (focus (refine ⟨_, _, Gh.refl, [], rfl, ?_⟩; (refine fitq ?_ ?_ ?_ <;> try exact trivial); (try any_goals (refine ⟨?_, ?_⟩)); (try any_goals (with_reducible rfl))))
  · rw [vF2 (k := k) (by omega) (by unfold inB; omega)]
    (focus (refine ⟨_, _, Gh.refl, [], rfl, ?_⟩; (refine fitq ?_ ?_ ?_ <;> try exact trivial); (try any_goals (refine ⟨?_, ?_⟩)); (try any_goals (with_reducible rfl))))
  · refine ⟨k + 1, ⟨⟨take_all hx.1 (by omega) ⟨by omega, by omega⟩, by first | omega | (dsimp only; omega)⟩, by first | omega | (dsimp only; omega)⟩, ?_⟩
    (focus (refine ⟨_, _, Gh.refl, [0, 1], rfl, ?_⟩; (refine fitq ?_ ?_ ?_ <;> try exact trivial); (try any_goals (refine ⟨?_, ?_⟩)); (try any_goals (with_reducible rfl))))
    all_goals (first | with_reducible rfl | omega | ((simp (disch := omega) only [wrap_i64]); first | done | omega) | (simp only [List.append_assoc, List.cons_append, List.nil_append]; done))
  · have ha : ∀ a ∈ c.args, inB a := by have := hx.1; rwa [List.take_of_length_le (by omega)] at this
    rw [vT ⟨by assumption, by omega, by omega, by omega, by omega, by omega⟩ ha, if_pos (by unfold dataS; assumption)]
    (focus (refine ⟨_, _, Gh.refl, [], rfl, ?_⟩; (refine fitq ?_ ?_ ?_ <;> try exact trivial); (try any_goals (refine ⟨?_, ?_⟩)); (try any_goals (with_reducible rfl))))
    all_goals first | (simp; done) | (simp; omega; done) | (rw [Bool.eq_iff_iff]; simp only [Bool.and_eq_true, decide_eq_true_eq]; omega)
  · have ha : ∀ a ∈ c.args, inB a := by have := hx.1; rwa [List.take_of_length_le (by omega)] at this
    rw [vT ⟨by assumption, by omega, by omega, by omega, by omega, by omega⟩ ha, if_pos (by unfold dataS; assumption)]
    (focus (refine ⟨_, _, Gh.refl, [], rfl, ?_⟩; (refine fitq ?_ ?_ ?_ <;> try exact trivial); (try any_goals (refine ⟨?_, ?_⟩)); (try any_goals (with_reducible rfl))))
    all_goals first | (simp; done) | (simp; omega; done) | (rw [Bool.eq_iff_iff]; simp only [Bool.and_eq_true, decide_eq_true_eq]; omega)
  · have ha : ∀ a ∈ c.args, inB a := by have := hx.1; rwa [List.take_of_length_le (by omega)] at this
    rw [vT ⟨by assumption, by omega, by omega, by omega, by omega, by omega⟩ ha, if_neg (by rw [dataS]; simp_all)]
    (focus (refine ⟨_, _, Gh.refl, [], rfl, ?_⟩; (refine fitq ?_ ?_ ?_ <;> try exact trivial); (try any_goals (refine ⟨?_, ?_⟩)); (try any_goals (with_reducible rfl))))
    all_goals first | (simp; done) | (simp; omega; done) | (rw [Bool.eq_iff_iff]; simp only [Bool.and_eq_true, decide_eq_true_eq]; omega)
  · simp
  · (focus (refine ⟨_, _, Gh.refl, [0, 1], rfl, ?_⟩; (refine fitq ?_ ?_ ?_ <;> try exact trivial); (try any_goals (refine ⟨?_, ?_⟩)); (try any_goals (with_reducible rfl))))
theorem br_cmd {h : List Ch} {x y z : Int} {args : List Int} {data : List UInt8} {a d : AV} (b1 : brA [] h (.ro .int args) a) (b2 : brA [] h (.ro .byte data) d) : brL [] h [.agg [.int .i64 x, .int .i64 y, .int .i64 z, .ro .int args, .ro .byte data]] [.agg [.int .i64 x, .int .i64 y, .int .i64 z, a, d]] :=
  br_cons (br_agg (br_cons br_int (br_cons br_int (br_cons br_int (br_cons b1 (br_cons b2 br_nil)))))) br_nil
theorem c_valid {h : List Ch} {K : KT} {x y z : Int} {args : List Int} {data : List UInt8} {a d : AV} (H : K (.bool (validC ⟨x, y, z, args, data⟩)) h) (b1 : brA [] h (.ro .int args) a) (b2 : brA [] h (.ro .byte data) d) (s1 : args.length ≤ 1099511627776) : Does Try.prog 62 [.agg [.int .i64 x, .int .i64 y, .int .i64 z, a, d]] h K :=
  frame_pure (b_valid ⟨x, y, z, args, data⟩ s1) (br_cmd b1 b2) (.inr rfl) (fun _ => rfl) H
abbrev i_valid := Ctr.mk (i := 0) (g := 62) @c_valid
attribute [instance] i_valid
end Go.V

set_option maxRecDepth 100000
set_option maxHeartbeats 1000000
namespace Go.V
open Go.Proofs
attribute [-go_sem] Wr
theorem b_encT (c : Cmd) (hv : validC ⟨c.src, c.num, c.srv, c.args, c.data⟩ = true) : DoesK Try.prog 0 38 [.agg [.int .i64 c.src, .int .i64 c.num, .int .i64 c.srv, .ro .int c.args, .ro .byte c.data]] [] (EndF 0 (.tup [.sl 0 .byte 0 (encC c).length, .int .i64 0]) [.rows .byte (encC c)]) := by
  refine DoesK.close ?_
  obtain ⟨h1, h2, h3, h4, h5, h6, h7, h8⟩ := (validC_iff c).1 hv
  rw [okS_iff] at h1
  have w1 : IntKind.u64.wrap c.src = (c.src.toNat : Int) := by rw [wrap_u64]; omega
  have w2 : IntKind.u64.wrap c.num = (c.num.toNat : Int) := by rw [wrap_u64]; omega
  have w3 : IntKind.u64.wrap c.srv = (c.srv.toNat : Int) := by rw [wrap_u64]; omega
  have ha3 := arg0_le c.srv
  have hlen : ∀ k, ((c.args.take k).flatMap encI).length ≤ 30 := fun k => by
    have h9 := encs_len (c.args.take k) fun a ha => h7 a (List.mem_of_mem_take ha)
    have h10 : (c.args.take k).length ≤ c.args.length := by rw [List.length_take]; omega
    omega
  have hi : ∀ k, I64 (c.args.getD k 0) := fun k => by
    rw [List.getD_eq_getElem?_getD]
    cases e : c.args[k]? with
    | none => constructor <;> decide
    | some x =>
      have := h7 x (List.mem_of_getElem? e)
      rw [Option.getD_some]
      constructor <;> omega
  have hl : c.args.length ≤ 1099511627776 := by omega
  have hd : c.data.length ≤ 512 := by split at h8 <;> omega
  have hel := encI_le c.data.length (by constructor <;> omega)
  refine w_body (rs := [.tmp 2, .tmp 3]) (tm := [.agg [.int .i64 c.src, .int .i64 c.num, .int .i64 c.srv, .ro .int c.args, .ro .byte c.data], .any, .any, .any, .any, .any, .any, .any, .any, .any, .any, .any, .any, .any, .any, .any, .any, .any, .any, .any, .any, .any, .any, .any, .any, .any, .any, .any, .any, .any, .any, .any, .any, .any, .any, .any, .any, .any, .any, .any, .any, .any, .any, .any, .any, .any, .any, .any, .any, .any, .any]) fn_38 rfl rfl rfl rfl fun R hR => ?_
  (have zx1 := @hv; have zx2 := @w1; have zx3 := @w2; have zx4 := @w3; all_goals (try ((first | (with_reducible refine wp_id ?_) | (with_reducible refine does_id ?_) | (with_reducible refine ops_id ?_)); refine walk ?_; (repeat' (first | exact trivial | with_reducible refine And.intro ?_ ?_)); all_goals (repeat (first | (with_reducible refine ImpB.mk fun hb => ?_) | (with_reducible refine ImpK.mk fun hK => ?_) | (with_reducible refine ImpF.mk fun hF => ?_) | (with_reducible refine ImpQ.mk fun hp => ?_) | (with_reducible refine AllE.mk fun p => ?_) | (with_reducible refine AllR.mk fun rest => ?_) | (with_reducible refine AllK.mk fun K => ?_))))); repeat' (with_reducible refine And.intro ?_ ?_))
  any_goals ((try (refine w_seq fun K hK => ?_)); (try (refine w_block ?_)); refine w_loop (A := Nat) (fun k => k ≤ c.args.length) (fun k => c.args.length - k) (fun k => [(29, .int .i64 k)]) (fun k => [(1, .pack (Wr (be c.src.toNat 1 ++ be c.num.toNat 2 ++ be c.srv.toNat 1 ++ (c.args.take k).flatMap encI)))]) (0) (ws := ?ws1) (tk := ?tk1) ?hw1 ?ht1 ?hi ?h0 ?LH1; (case hw1 => simp only [go_sem, decide_true, decide_false, Int.reduceToNat, Nat.min_eq_left, Nat.min_eq_right, Int.reducePow, Nat.reducePow, Int.reduceLE, Int.reduceLT, Int.reduceMul, Int.reduceAdd, Int.reduceSub, Int.reduceNeg, Bool.not_true, Bool.not_false, Bool.not_not, ↓reduceIte, Nat.reduceAdd, Nat.reduceSub, Nat.reduceMul, Nat.reduceEqDiff, reduceCtorEq, Nat.reduceLT, Nat.reduceLeDiff, Nat.reduceGT]; exact rfl); (case ht1 => simp only [go_sem, decide_true, decide_false, Int.reduceToNat, Nat.min_eq_left, Nat.min_eq_right, Int.reducePow, Nat.reducePow, Int.reduceLE, Int.reduceLT, Int.reduceMul, Int.reduceAdd, Int.reduceSub, Int.reduceNeg, Bool.not_true, Bool.not_false, Bool.not_not, ↓reduceIte, Nat.reduceAdd, Nat.reduceSub, Nat.reduceMul, Nat.reduceEqDiff, reduceCtorEq, Nat.reduceLT, Nat.reduceLeDiff, Nat.reduceGT]; exact rfl); (case' LH1 => rintro k E t hx hE ht; simp only [go_sem] at ht; subst ht; simp only [go_sem]; try dsimp only at hx))
  (have zx1 := @hv; all_goals (try ((first | (with_reducible refine wp_id ?_) | (with_reducible refine does_id ?_) | (with_reducible refine ops_id ?_)); refine walk ?_; (repeat' (first | exact trivial | with_reducible refine And.intro ?_ ?_)); all_goals (repeat (first | (with_reducible refine ImpB.mk fun hb => ?_) | (with_reducible refine ImpK.mk fun hK => ?_) | (with_reducible refine ImpF.mk fun hF => ?_) | (with_reducible refine ImpQ.mk fun hp => ?_) | (with_reducible refine AllE.mk fun p => ?_) | (with_reducible refine AllR.mk fun rest => ?_) | (with_reducible refine AllK.mk fun K => ?_))))); repeat' (with_reducible refine And.intro ?_ ?_))
  (all_goals (repeat (first | (clear hK; clear K) | (clear hE; clear E) | (clear hF; clear F) | (clear hR; clear R))); all_goals (try simp only [decide_eq_true_eq, decide_eq_false_iff_not, Bool.not_eq_true', Bool.not_eq_false', Bool.not_eq_true, Bool.not_eq_false, decide_not, decide_true, decide_false, Bool.decide_and, Bool.and_eq_true, Bool.or_eq_true, Bool.and_eq_false_imp, Decidable.not_not] at *); all_goals (try omega); all_goals (try (first | exact u8w_lo _ | exact u8w_hi _ | exact (bits8 _ _ _).1 | exact (bits8 _ _ _).2 | exact Int.natCast_nonneg _ | exact u8_ltI _)))
  all_goals first
    | exact hi k
    | omega
    | (have h11 := hlen k; simp only [List.length_append, be_len]; omega)
    | skip
  · refine ⟨k + 1, ⟨by first | omega | (dsimp only; omega), by first | omega | (dsimp only; omega)⟩, ?_⟩
    (focus (refine ⟨_, _, Gh.refl, [0, 1], rfl, ?_⟩; (refine fitq ?_ ?_ ?_ <;> try exact trivial); (try any_goals (refine ⟨?_, ?_⟩)); (try any_goals (with_reducible rfl))))
    all_goals first | (first | with_reducible rfl | omega | ((simp (disch := omega) only [wrap_i64]); first | done | omega) | (simp only [List.append_assoc, List.cons_append, List.nil_append]; done)) | skip
    rw [List.append_assoc _ (List.flatMap encI _)]
    congr 1
    have hk : k < c.args.length := by omega
    rw [List.take_succ_eq_append_getElem hk, List.flatMap_append, List.getD_eq_getElem?_getD, List.getElem?_eq_getElem hk]
    simp
  · have hk : c.args.take k = c.args := List.take_of_length_le (by omega)
    rw [hk, encC, if_pos (by unfold dataS; assumption)]
    (focus (refine ⟨_, _, Gh.refl, [3], rfl, ?_⟩; (refine fitq ?_ ?_ ?_ <;> try exact trivial); (try any_goals (refine ⟨?_, ?_⟩)); (try any_goals (with_reducible rfl))))
    all_goals simp [List.append_assoc, be_len, Nat.add_assoc]
  · have hk : c.args.take k = c.args := List.take_of_length_le (by omega)
    rw [hk, encC, if_neg (by unfold dataS; simp [*]), List.append_nil]
    (focus (refine ⟨_, _, Gh.refl, [3], rfl, ?_⟩; (refine fitq ?_ ?_ ?_ <;> try exact trivial); (try any_goals (refine ⟨?_, ?_⟩)); (try any_goals (with_reducible rfl))))
    all_goals simp [List.append_assoc, be_len, Nat.add_assoc]
  · (focus (refine ⟨_, _, Gh.refl, [0, 1], rfl, ?_⟩; (refine fitq ?_ ?_ ?_ <;> try exact trivial); (try any_goals (refine ⟨?_, ?_⟩)); (try any_goals (with_reducible rfl))))
    simp
  all_goals (simp only [List.length_append, be_len]; omega)
theorem c_encT {h : List Ch} {K : KT} {x y z : Int} {args : List Int} {data : List UInt8} {a d : AV} (H : K (.tup [.sl h.length .byte 0 (encC ⟨x, y, z, args, data⟩).length, .int .i64 0]) (h ++ [.rows .byte (encC ⟨x, y, z, args, data⟩)])) (b1 : brA [] h (.ro .int args) a) (b2 : brA [] h (.ro .byte data) d) (e1 : validC ⟨x, y, z, args, data⟩ = true) : Does Try.prog 38 [.agg [.int .i64 x, .int .i64 y, .int .i64 z, a, d]] h K :=
  frame_new (ret' := .tup [.sl h.length .byte 0 (encC ⟨x, y, z, args, data⟩).length, .int .i64 0]) (b_encT ⟨x, y, z, args, data⟩ e1) (br_cmd b1 b2) (.inr rfl) (fun _ => rfl) rfl H
abbrev i_encT := Ctr.mk (i := 1) (g := 38) @c_encT
attribute [instance] i_encT
theorem getD_ext {l m : List Int} (hl : l.length = m.length) (h : ∀ j, j < l.length → l.getD j 0 = m.getD j 0) : l = m := by
  apply List.ext_getElem hl
  intro j h1 h2
  have := h j h1
  rwa [List.getD_eq_getElem?_getD, List.getD_eq_getElem?_getD, List.getElem?_eq_getElem h1, List.getElem?_eq_getElem h2, Option.getD_some, Option.getD_some] at this
theorem b_rsame (c d : Cmd) (hl : c.args.length ≤ 1099511627776) : DoesK Try.prog 0 25 [.agg [.int .i64 c.src, .int .i64 c.num, .int .i64 c.srv, .ro .int c.args, .ro .byte c.data], .agg [.int .i64 d.src, .int .i64 d.num, .int .i64 d.srv, .ro .int d.args, .ro .byte d.data]] [] (EndF 0 (.bool (decide (c = d))) []) := by
  refine DoesK.close ?_
  refine w_body (rs := [.tmp 4]) (tm := [.agg [.int .i64 c.src, .int .i64 c.num, .int .i64 c.srv, .ro .int c.args, .ro .byte c.data], .agg [.int .i64 d.src, .int .i64 d.num, .int .i64 d.srv, .ro .int d.args, .ro .byte d.data], .any, .any, .any, .any, .any, .any, .any, .any, .any, .any, .any, .any, .any, .any, .any, .any, .any, .any, .any, .any, .any, .any, .any, .any, .any, .any, .any, .any, .any, .any, .any, .any, .any, .any, .any, .any, .any, .any, .any, .any, .any, .any, .any, .any, .any, .any, .any, .any, .any, .any, .any, .any, .any, .any, .any, .any, .any, .any, .any]) fn_25 rfl rfl rfl rfl fun R hR => ?_
  (all_goals (try ((first | (with_reducible refine wp_id ?_) | (with_reducible refine does_id ?_) | (with_reducible refine ops_id ?_)); refine walk ?_; (repeat' (first | exact trivial | with_reducible refine And.intro ?_ ?_)); all_goals (repeat (first | (with_reducible refine ImpB.mk fun hb => ?_) | (with_reducible refine ImpK.mk fun hK => ?_) | (with_reducible refine ImpF.mk fun hF => ?_) | (with_reducible refine ImpQ.mk fun hp => ?_) | (with_reducible refine AllE.mk fun p => ?_) | (with_reducible refine AllR.mk fun rest => ?_) | (with_reducible refine AllK.mk fun K => ?_))))); repeat' (with_reducible refine And.intro ?_ ?_))
  any_goals ((try (refine w_seq fun K hK => ?_)); (try (refine w_block ?_)); refine w_loop (A := Nat) (fun k => (∀ j, j < k → c.args.getD j 0 = d.args.getD j 0) ∧ k ≤ c.args.length) (fun k => c.args.length - k) (fun k => [(5, .int .i64 k)]) (fun _ => []) (0) (ws := ?ws2) (tk := ?tk2) ?hw2 ?ht2 ?hi ?h0 ?LH2; (case hw2 => simp only [go_sem, decide_true, decide_false, Int.reduceToNat, Nat.min_eq_left, Nat.min_eq_right, Int.reducePow, Nat.reducePow, Int.reduceLE, Int.reduceLT, Int.reduceMul, Int.reduceAdd, Int.reduceSub, Int.reduceNeg, Bool.not_true, Bool.not_false, Bool.not_not, ↓reduceIte, Nat.reduceAdd, Nat.reduceSub, Nat.reduceMul, Nat.reduceEqDiff, reduceCtorEq, Nat.reduceLT, Nat.reduceLeDiff, Nat.reduceGT]; exact rfl); (case ht2 => simp only [go_sem, decide_true, decide_false, Int.reduceToNat, Nat.min_eq_left, Nat.min_eq_right, Int.reducePow, Nat.reducePow, Int.reduceLE, Int.reduceLT, Int.reduceMul, Int.reduceAdd, Int.reduceSub, Int.reduceNeg, Bool.not_true, Bool.not_false, Bool.not_not, ↓reduceIte, Nat.reduceAdd, Nat.reduceSub, Nat.reduceMul, Nat.reduceEqDiff, reduceCtorEq, Nat.reduceLT, Nat.reduceLeDiff, Nat.reduceGT]; exact rfl); (case' LH2 => rintro k E t hx hE ht; simp only [go_sem] at ht; subst ht; simp only [go_sem]; try dsimp only at hx))
  (all_goals (try ((first | (with_reducible refine wp_id ?_) | (with_reducible refine does_id ?_) | (with_reducible refine ops_id ?_)); refine walk ?_; (repeat' (first | exact trivial | with_reducible refine And.intro ?_ ?_)); all_goals (repeat (first | (with_reducible refine ImpB.mk fun hb => ?_) | (with_reducible refine ImpK.mk fun hK => ?_) | (with_reducible refine ImpF.mk fun hF => ?_) | (with_reducible refine ImpQ.mk fun hp => ?_) | (with_reducible refine AllE.mk fun p => ?_) | (with_reducible refine AllR.mk fun rest => ?_) | (with_reducible refine AllK.mk fun K => ?_))))); repeat' (with_reducible refine And.intro ?_ ?_))
  (all_goals (repeat (first | (clear hK; clear K) | (clear hE; clear E) | (clear hF; clear F) | (clear hR; clear R))); all_goals (try simp only [decide_eq_true_eq, decide_eq_false_iff_not, Bool.not_eq_true', Bool.not_eq_false', Bool.not_eq_true, Bool.not_eq_false, decide_not, decide_true, decide_false, Bool.decide_and, Bool.and_eq_true, Bool.or_eq_true, Bool.and_eq_false_imp, Decidable.not_not] at *); all_goals (try omega); all_goals (try (first | exact u8w_lo _ | exact u8w_hi _ | exact (bits8 _ _ _).1 | exact (bits8 _ _ _).2 | exact Int.natCast_nonneg _ | exact u8_ltI _)))
  all_goals try (rw [show decide (c = d) = false from by rw [decide_eq_false_iff_not]; intro e; subst e; first | omega | (simp_all; done)]; (focus (refine ⟨_, _, Gh.refl, [], rfl, ?_⟩; (refine fitq ?_ ?_ ?_ <;> try exact trivial); (try any_goals (refine ⟨?_, ?_⟩)); (try any_goals (with_reducible rfl)))); done)
  · refine ⟨k + 1, ⟨⟨fun j hj => ?_, by first | omega | (dsimp only; omega)⟩, by first | omega | (dsimp only; omega)⟩, ?_⟩
    · by_cases hjk : j = k
      · subst hjk; assumption
      · exact hx.1 j (by omega)
    (focus (refine ⟨_, _, Gh.refl, [0, 1], rfl, ?_⟩; (refine fitq ?_ ?_ ?_ <;> try exact trivial); (try any_goals (refine ⟨?_, ?_⟩)); (try any_goals (with_reducible rfl))))
    all_goals (first | with_reducible rfl | omega | ((simp (disch := omega) only [wrap_i64]); first | done | omega) | (simp only [List.append_assoc, List.cons_append, List.nil_append]; done))
  · rw [show decide (c = d) = true from by
      rw [decide_eq_true_iff]
      obtain ⟨c1, c2, c3, c4, c5⟩ := c
      obtain ⟨d1, d2, d3, d4, d5⟩ := d
      have he := getD_ext (l := c4) (m := d4) (by dsimp only at *; omega) (fun j hj => hx.1 j (by dsimp only at *; omega))
      simp_all]
    (focus (refine ⟨_, _, Gh.refl, [], rfl, ?_⟩; (refine fitq ?_ ?_ ?_ <;> try exact trivial); (try any_goals (refine ⟨?_, ?_⟩)); (try any_goals (with_reducible rfl))))
  · (focus (refine ⟨_, _, Gh.refl, [0, 1], rfl, ?_⟩; (refine fitq ?_ ?_ ?_ <;> try exact trivial); (try any_goals (refine ⟨?_, ?_⟩)); (try any_goals (with_reducible rfl))))
theorem c_rsame {h : List Ch} {K : KT} {x y z x' y' z' : Int} {args args' : List Int} {data data' : List UInt8} {a d a' d' : AV} (H : K (.bool (decide ((⟨x, y, z, args, data⟩ : Cmd) = ⟨x', y', z', args', data'⟩))) h) (b1 : brA [] h (.ro .int args) a) (b2 : brA [] h (.ro .byte data) d) (b3 : brA [] h (.ro .int args') a') (b4 : brA [] h (.ro .byte data') d') (s1 : args.length ≤ 1099511627776) : Does Try.prog 25 [.agg [.int .i64 x, .int .i64 y, .int .i64 z, a, d], .agg [.int .i64 x', .int .i64 y', .int .i64 z', a', d']] h K :=
  frame_pure (b_rsame ⟨x, y, z, args, data⟩ ⟨x', y', z', args', data'⟩ s1) (br_cons (br_agg (br_cons br_int (br_cons br_int (br_cons br_int (br_cons b1 (br_cons b2 br_nil)))))) (br_cons (br_agg (br_cons br_int (br_cons br_int (br_cons br_int (br_cons b3 (br_cons b4 br_nil)))))) br_nil)) (.inr rfl) (fun _ => rfl) H
abbrev i_rsame := Ctr.mk (i := 0) (g := 25) @c_rsame
attribute [instance] i_rsame
end Go.V

set_option maxRecDepth 100000
set_option maxHeartbeats 1000000
namespace Go.V
open Go.Proofs
attribute [-go_sem] Wr
/-- what decoding answers -/
def decA (o : Option Cmd) : AV := match o with
  | some c => .tup [.agg [.int .i64 c.src, .int .i64 c.num, .int .i64 c.srv, .ro .int c.args, .ro .byte c.data], .int .i64 0]
  | none => .tup [.agg [.int .i64 0, .int .i64 0, .int .i64 0, .ro .int [], .ro .byte []], .int .i64 4]
attribute [simp] intsR_len
end Go.V

set_option maxRecDepth 100000
set_option maxHeartbeats 1000000
namespace Go.V
open Go.Proofs
attribute [local go_sem] decA
end Go.V

set_option maxRecDepth 100000
set_option maxHeartbeats 1000000
namespace Go.V
open Go.Proofs
/-- what the reference's decoding answers -/
def rdecA (o : Option Cmd) : AV := match o with
  | some c => .tup [.agg [.int .i64 c.src, .int .i64 c.num, .int .i64 c.srv, .ro .int c.args, .ro .byte c.data], .bool true]
  | none => .tup [.agg [.int .i64 0, .int .i64 0, .int .i64 0, .ro .int [], .ro .byte []], .bool false]
end Go.V

set_option maxRecDepth 100000
set_option maxHeartbeats 1000000
namespace Go.V
open Go.Proofs
abbrev cmdL (x : Cmd) : List AV := [.int .i64 x.src, .int .i64 x.num, .int .i64 x.srv, .ro .int x.args, .ro .byte x.data]
abbrev stpL (x : Stp) : List AV := [.int .i64 x.kind, .int .i64 x.param, .int .i64 x.op, .int .i64 x.value, .int .i64 x.next, .int .i64 x.ticks, .int .i64 x.c.src, .int .i64 x.c.num, .int .i64 x.c.srv, .ro .int x.c.args, .ro .byte x.c.data]
/-- no command -/
def noC (c : Cmd) : Prop := c.src = 0 ∧ c.num = 0 ∧ c.srv = 0 ∧ c.args.length = 0 ∧ c.data.length = 0
instance (c : Cmd) : Decidable (noC c) := by unfold noC; exact inferInstance
/-- no comparison -/
def plS (x : Stp) : Prop := x.param = 0 ∧ x.op = 0 ∧ x.value = 0
def cpS (x : Stp) : Prop := (0 ≤ x.param ∧ x.param ≤ 65535) ∧ (1 ≤ x.op ∧ x.op ≤ 3) ∧ -2147483648 ≤ x.value ∧ x.value ≤ 2147483648
def nxS (x : Stp) (n : Int) : Prop := 0 ≤ x.next ∧ x.next < n
/-- a valid step of n, without its command -/
def okZ (x : Stp) (n : Int) : Prop :=
  (x.kind ≠ 1 → noC x.c) ∧ (x.kind ≠ 2 → x.ticks = 0) ∧
  ((x.kind = 1 ∧ plS x ∧ x.next = 0) ∨ (x.kind = 2 ∧ plS x ∧ x.next = 0 ∧ 0 ≤ x.ticks ∧ x.ticks ≤ 1099511627776) ∨ (x.kind = 3 ∧ cpS x ∧ nxS x n) ∨ (x.kind = 4 ∧ cpS x ∧ x.next = 0) ∨ (x.kind = 5 ∧ plS x ∧ nxS x n) ∨ (x.kind = 6 ∧ plS x ∧ x.next = 0))
instance (x : Stp) (n : Int) : Decidable (okZ x n) := by unfold okZ noC plS cpS nxS; exact inferInstance
def vldS (x : Stp) (n : Int) : Bool := decide (okZ x n) && (decide (x.kind ≠ 1) || validC x.c)
def vldQ (l : List Stp) : Bool := decide (1 ≤ l.length) && decide (l.length ≤ 256) && l.all fun x => vldS x l.length
/-- a step's encoding -/
def encS (x : Stp) : List UInt8 :=
  be x.kind.toNat 1 ++ (if x.kind = 1 then encI (encC x.c).length ++ encC x.c else if x.kind = 2 then encI x.ticks else if x.kind = 3 then encI x.param ++ be x.op.toNat 1 ++ encI x.value ++ encI x.next else if x.kind = 4 then encI x.param ++ be x.op.toNat 1 ++ encI x.value else if x.kind = 5 then encI x.next else [])
def encQ (l : List Stp) : List UInt8 := encI l.length ++ l.flatMap encS
end Go.V

set_option maxRecDepth 100000
namespace Go.V
open Go.Proofs
theorem vldS_iff {x : Stp} {n : Int} : vldS x n = true ↔ okZ x n ∧ (x.kind = 1 → validC x.c = true) := by
  unfold vldS
  rw [Bool.and_eq_true, Bool.or_eq_true, decide_eq_true_eq, decide_eq_true_eq]
  constructor
  · rintro ⟨h1, h2⟩
    exact ⟨h1, fun q => h2.resolve_left (fun w => w q)⟩
  · rintro ⟨h1, h2⟩
    refine ⟨h1, ?_⟩
    by_cases q : x.kind = 1
    · exact .inr (h2 q)
    · exact .inl q
theorem stp_take {l : List Stp} {k : Nat} (hk : k < l.length) : l.take (k + 1) = l.take k ++ [l.getD k Stp.zero] := by
  rw [List.take_succ_eq_append_getElem hk, List.getD_eq_getElem?_getD, List.getElem?_eq_getElem hk]
  rfl
theorem vldQ_iff {l : List Stp} : vldQ l = true ↔ (1 ≤ l.length ∧ l.length ≤ 256) ∧ ∀ x ∈ l, vldS x l.length = true := by
  unfold vldQ
  rw [Bool.and_eq_true, Bool.and_eq_true, decide_eq_true_eq, decide_eq_true_eq, List.all_eq_true]
theorem vldQ_at {l : List Stp} {k : Nat} (h : vldQ l = true) (hk : k < l.length) : vldS (l.getD k Stp.zero) l.length = true := by
  refine (vldQ_iff.1 h).2 _ ?_
  rw [List.getD_eq_getElem?_getD, List.getElem?_eq_getElem hk]
  exact List.getElem_mem hk
end Go.V
