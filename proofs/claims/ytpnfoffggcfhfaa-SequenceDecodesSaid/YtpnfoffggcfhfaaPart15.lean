/-
  ref03.Reader: Count.
  The contracts at sizes that are written out.
  The command table, as the module and as the reference hold it.
  Commands as bytes: what encoding and decoding say, and that they are inverse.
  command and ref39: Valid, Encode.
-/
import Derived.Test.YtpnfoffggcfhfaaPart14
set_option linter.unusedVariables false
set_option linter.unusedSimpArgs false
set_option maxRecDepth 100000
set_option maxHeartbeats 1000000
namespace Go.V
open Go.Proofs
attribute [local go_sem] Fd_some Fd_none
theorem tkc_countR (ys : List UInt8) (most : Int) : (tkc ys most = (0, 0) ∧ countR (some ys) most = (0, none)) ∨ (0 < (tkc ys most).2 ∧ (tkc ys most).2 ≤ ys.length ∧ countR (some ys) most = ((tkc ys most).1, some (ys.drop (tkc ys most).2))) := by
  rcases hv : vd ys with _ | ⟨z, k⟩
  · have e : tki ys = (0, 0) := by rw [tki, hv]
    have e2 : tkc ys most = (0, 0) := by rw [tkc, if_pos (by rw [e]; simp)]
    have e4 : intR (some ys) = (0, none) := by simp only [intR, hv]
    exact .inl ⟨e2, by simp only [countR, e4]⟩
  · have e : tki ys = (unzz z, k) := by rw [tki, hv]
    have hk := vd_le hv
    have e4 : intR (some ys) = (unzz z, some (ys.drop k)) := by simp only [intR, hv]
    by_cases hc : unzz z < 0 ∨ most < unzz z
    · have e2 : tkc ys most = (0, 0) := by rw [tkc, if_pos (by rw [e]; right; exact hc)]
      exact .inl ⟨e2, by simp only [countR, e4, if_pos hc]⟩
    · have e2 : tkc ys most = (unzz z, k) := by rw [tkc, if_neg (by rw [e]; simp only; omega), e]
      rw [e2]
      exact .inr ⟨by simp only; omega, by simp only; omega, by simp only [countR, e4, if_neg hc]⟩
theorem b_frcount (r : Option (List UInt8)) (most : Int) (hl : lenR r ≤ 1099511627776) : DoesK Try.prog 1 50 [.ptr 0 0, .int .i64 most] [.pack (Fd r)] (EndF 1 (.int .i64 (countR r most).1) ([.pack (Fd (countR r most).2)] ++ [])) := by
  refine DoesK.close ?_
  cases r with
  | none =>
    have e : tkc [] most = (0, 0) := rfl
    have e2 : countR none most = (0, none) := rfl
    rw [e2]
    simp only [Fd_none]
    refine w_body (rs := [.tmp 4]) (tm := [.ptr 0 0, .int .i64 most, .any, .any, .any, .any, .any, .any, .any, .any, .any, .any, .any, .any, .any, .any, .any, .any, .any, .any]) fn_50 rfl rfl rfl rfl fun R hR => ?_
    (have zx1 := @e; have zx2 := @Int.natCast_zero; all_goals (try ((first | (with_reducible refine wp_id ?_) | (with_reducible refine does_id ?_) | (with_reducible refine ops_id ?_)); refine walk ?_; (repeat' (first | exact trivial | with_reducible refine And.intro ?_ ?_)); all_goals (repeat (first | (with_reducible refine ImpB.mk fun hb => ?_) | (with_reducible refine ImpK.mk fun hK => ?_) | (with_reducible refine ImpF.mk fun hF => ?_) | (with_reducible refine ImpQ.mk fun hp => ?_) | (with_reducible refine AllE.mk fun p => ?_) | (with_reducible refine AllR.mk fun rest => ?_) | (with_reducible refine AllK.mk fun K => ?_))))); repeat' (with_reducible refine And.intro ?_ ?_))
    (all_goals (repeat (first | (clear hK; clear K) | (clear hE; clear E) | (clear hF; clear F) | (clear hR; clear R))); all_goals (try simp only [decide_eq_true_eq, decide_eq_false_iff_not, Bool.not_eq_true', Bool.not_eq_false', Bool.not_eq_true, Bool.not_eq_false, decide_not, decide_true, decide_false, Bool.decide_and, Bool.and_eq_true, Bool.or_eq_true, Bool.and_eq_false_imp, Decidable.not_not] at *); all_goals (try omega); all_goals (try (first | exact u8w_lo _ | exact u8w_hi _ | exact (bits8 _ _ _).1 | exact (bits8 _ _ _).2 | exact Int.natCast_nonneg _ | exact u8_ltI _)))
    (focus (refine ⟨_, _, Gh.refl, [0], rfl, ?_⟩; (refine fitq ?_ ?_ ?_ <;> try exact trivial); (try any_goals (refine ⟨?_, ?_⟩)); (try any_goals (with_reducible rfl))))
  | some ys =>
    replace hl : ys.length ≤ 1099511627776 := hl
    rcases tkc_countR ys most with ⟨e, e2⟩ | ⟨hk0, hk1, e2⟩
    · rw [e2]
      simp only [Fd_none, Fd_some]
      refine w_body (rs := [.tmp 4]) (tm := [.ptr 0 0, .int .i64 most, .any, .any, .any, .any, .any, .any, .any, .any, .any, .any, .any, .any, .any, .any, .any, .any, .any, .any]) fn_50 rfl rfl rfl rfl fun R hR => ?_
      (have zx1 := @e; have zx2 := @Int.natCast_zero; all_goals (try ((first | (with_reducible refine wp_id ?_) | (with_reducible refine does_id ?_) | (with_reducible refine ops_id ?_)); refine walk ?_; (repeat' (first | exact trivial | with_reducible refine And.intro ?_ ?_)); all_goals (repeat (first | (with_reducible refine ImpB.mk fun hb => ?_) | (with_reducible refine ImpK.mk fun hK => ?_) | (with_reducible refine ImpF.mk fun hF => ?_) | (with_reducible refine ImpQ.mk fun hp => ?_) | (with_reducible refine AllE.mk fun p => ?_) | (with_reducible refine AllR.mk fun rest => ?_) | (with_reducible refine AllK.mk fun K => ?_))))); repeat' (with_reducible refine And.intro ?_ ?_))
      (all_goals (repeat (first | (clear hK; clear K) | (clear hE; clear E) | (clear hF; clear F) | (clear hR; clear R))); all_goals (try simp only [decide_eq_true_eq, decide_eq_false_iff_not, Bool.not_eq_true', Bool.not_eq_false', Bool.not_eq_true, Bool.not_eq_false, decide_not, decide_true, decide_false, Bool.decide_and, Bool.and_eq_true, Bool.or_eq_true, Bool.and_eq_false_imp, Decidable.not_not] at *); all_goals (try omega); all_goals (try (first | exact u8w_lo _ | exact u8w_hi _ | exact (bits8 _ _ _).1 | exact (bits8 _ _ _).2 | exact Int.natCast_nonneg _ | exact u8_ltI _)))
      (focus (refine ⟨_, _, Gh.refl, [0], rfl, ?_⟩; (refine fitq ?_ ?_ ?_ <;> try exact trivial); (try any_goals (refine ⟨?_, ?_⟩)); (try any_goals (with_reducible rfl))))
    · rw [e2]
      simp only [Fd_some]
      refine w_body (rs := [.tmp 4]) (tm := [.ptr 0 0, .int .i64 most, .any, .any, .any, .any, .any, .any, .any, .any, .any, .any, .any, .any, .any, .any, .any, .any, .any, .any]) fn_50 rfl rfl rfl rfl fun R hR => ?_
      (all_goals (try ((first | (with_reducible refine wp_id ?_) | (with_reducible refine does_id ?_) | (with_reducible refine ops_id ?_)); refine walk ?_; (repeat' (first | exact trivial | with_reducible refine And.intro ?_ ?_)); all_goals (repeat (first | (with_reducible refine ImpB.mk fun hb => ?_) | (with_reducible refine ImpK.mk fun hK => ?_) | (with_reducible refine ImpF.mk fun hF => ?_) | (with_reducible refine ImpQ.mk fun hp => ?_) | (with_reducible refine AllE.mk fun p => ?_) | (with_reducible refine AllR.mk fun rest => ?_) | (with_reducible refine AllK.mk fun K => ?_))))); repeat' (with_reducible refine And.intro ?_ ?_))
      (all_goals (repeat (first | (clear hK; clear K) | (clear hE; clear E) | (clear hF; clear F) | (clear hR; clear R))); all_goals (try simp only [decide_eq_true_eq, decide_eq_false_iff_not, Bool.not_eq_true', Bool.not_eq_false', Bool.not_eq_true, Bool.not_eq_false, decide_not, decide_true, decide_false, Bool.decide_and, Bool.and_eq_true, Bool.or_eq_true, Bool.and_eq_false_imp, Decidable.not_not] at *); all_goals (try omega); all_goals (try (first | exact u8w_lo _ | exact u8w_hi _ | exact (bits8 _ _ _).1 | exact (bits8 _ _ _).2 | exact Int.natCast_nonneg _ | exact u8_ltI _)))
      (focus (refine ⟨_, _, Gh.refl, [0], rfl, ?_⟩; (refine fitq ?_ ?_ ?_ <;> try exact trivial); (try any_goals (refine ⟨?_, ?_⟩)); (try any_goals (with_reducible rfl))))
theorem c_frcount {h : List Ch} {K : KT} {t : Nat} {r : Option (List UInt8)} {most : Int} {n : Int} {r' : Option (List UInt8)} (H : K (.int .i64 n) (h.set t (.pack (Fd r')))) (o : hth h t = .pack (Fd r)) (e : countR r most = (n, r')) (s1 : lenR r ≤ 1099511627776) : Does Try.prog 50 [.ptr t 0, .int .i64 most] h K := by
  have hb := b_frcount r most s1
  rw [e] at hb
  exact frame_obj0 hb o (by simp) (fitC_pack _) (br_cons (br_ptr rfl) (br_cons br_int br_nil)) (.inl rfl) (fun _ => rfl) rfl H
end Go.V

set_option maxRecDepth 100000
namespace Go.V
open Go.Proofs
theorem c_wuint1 {h : List Ch} {K : KT} {t : Nat} {xs : List UInt8} {n : Nat} (H : K (.ptr t 0) (h.set t (.pack (Wr (xs ++ be n 1))))) (o : hth h t = .pack (Wr xs)) (s3 : xs.length ≤ 1099511627776) : Does Try.prog 37 [.ptr t 0, .int .u64 n, .int .i64 1] h K :=
  c_wuint (size := 1) H o (by decide) (by decide) s3
abbrev i_wuint1 := Ctr.mk (i := 0) (g := 37) @c_wuint1
attribute [instance] i_wuint1
theorem c_ruint1 {h : List Ch} {K : KT} {t : Nat} {r : Option (List UInt8)} {n : Nat} {r' : Option (List UInt8)} (H : K (.int .u64 n) (h.set t (.pack (Rd r')))) (o : hth h t = .pack (Rd r)) (e : uintR r 1 = (n, r')) : Does Try.prog 71 [.ptr t 0, .int .i64 1] h K :=
  c_ruint (size := 1) H o e (by decide) (by decide)
abbrev i_ruint1 := Ctr.mk (i := 0) (g := 71) @c_ruint1
attribute [instance] i_ruint1
theorem c_fuint1 {h : List Ch} {K : KT} {n : Nat} (H : K (.sl h.length .byte 0 1) (h ++ [.rows .byte (be n 1)])) (s1 : n < 18446744073709551616) : Does Try.prog 91 [.int .u64 n, .int .i64 1] h K :=
  c_fuint (size := 1) H s1 (by decide) (by decide)
abbrev i_fuint1 := Ctr.mk (i := 0) (g := 91) @c_fuint1
attribute [instance] i_fuint1
theorem c_fruint1 {h : List Ch} {K : KT} {t : Nat} {r : Option (List UInt8)} {n : Nat} {r' : Option (List UInt8)} (H : K (.int .u64 n) (h.set t (.pack (Fd r')))) (o : hth h t = .pack (Fd r)) (e : uintR r 1 = (n, r')) : Does Try.prog 77 [.ptr t 0, .int .i64 1] h K :=
  c_fruint (size := 1) H o e (by decide) (by decide)
abbrev i_fruint1 := Ctr.mk (i := 0) (g := 77) @c_fruint1
attribute [instance] i_fruint1
theorem c_wuint2 {h : List Ch} {K : KT} {t : Nat} {xs : List UInt8} {n : Nat} (H : K (.ptr t 0) (h.set t (.pack (Wr (xs ++ be n 2))))) (o : hth h t = .pack (Wr xs)) (s3 : xs.length ≤ 1099511627776) : Does Try.prog 37 [.ptr t 0, .int .u64 n, .int .i64 2] h K :=
  c_wuint (size := 2) H o (by decide) (by decide) s3
abbrev i_wuint2 := Ctr.mk (i := 1) (g := 37) @c_wuint2
attribute [instance] i_wuint2
theorem c_ruint2 {h : List Ch} {K : KT} {t : Nat} {r : Option (List UInt8)} {n : Nat} {r' : Option (List UInt8)} (H : K (.int .u64 n) (h.set t (.pack (Rd r')))) (o : hth h t = .pack (Rd r)) (e : uintR r 2 = (n, r')) : Does Try.prog 71 [.ptr t 0, .int .i64 2] h K :=
  c_ruint (size := 2) H o e (by decide) (by decide)
abbrev i_ruint2 := Ctr.mk (i := 1) (g := 71) @c_ruint2
attribute [instance] i_ruint2
theorem c_fuint2 {h : List Ch} {K : KT} {n : Nat} (H : K (.sl h.length .byte 0 2) (h ++ [.rows .byte (be n 2)])) (s1 : n < 18446744073709551616) : Does Try.prog 91 [.int .u64 n, .int .i64 2] h K :=
  c_fuint (size := 2) H s1 (by decide) (by decide)
abbrev i_fuint2 := Ctr.mk (i := 1) (g := 91) @c_fuint2
attribute [instance] i_fuint2
theorem c_fruint2 {h : List Ch} {K : KT} {t : Nat} {r : Option (List UInt8)} {n : Nat} {r' : Option (List UInt8)} (H : K (.int .u64 n) (h.set t (.pack (Fd r')))) (o : hth h t = .pack (Fd r)) (e : uintR r 2 = (n, r')) : Does Try.prog 77 [.ptr t 0, .int .i64 2] h K :=
  c_fruint (size := 2) H o e (by decide) (by decide)
abbrev i_fruint2 := Ctr.mk (i := 1) (g := 77) @c_fruint2
attribute [instance] i_fruint2
end Go.V

set_option maxRecDepth 100000
set_option maxHeartbeats 1000000
namespace Go.V
open Go.Proofs
/-- the rows of the table: arguments, whether data follow, least and most mode -/
def rowsL : List (List Int) := [[0, 0, 1, 4], [1, 0, 1, 4], [2, 0, 1, 4], [2, 1, 1, 4], [1, 0, 1, 4], [2, 0, 1, 4], [2, 0, 1, 4], [2, 0, 1, 4], [1, 1, 2, 4], [1, 0, 2, 4], [2, 0, 2, 4], [2, 1, 2, 4], [1, 0, 2, 4], [2, 0, 2, 4], [2, 0, 2, 4], [2, 1, 2, 4], [1, 0, 3, 4], [1, 0, 1, 4], [2, 1, 1, 2], [2, 0, 1, 4], [2, 0, 1, 4], [1, 1, 2, 4], [0, 1, 2, 4], [1, 0, 1, 4], [2, 0, 1, 2], [3, 0, 2, 4], [2, 0, 2, 4], [0, 0, 1, 2]]
def namesL : List (List UInt8) := [[112, 105, 110, 103], [115, 101, 116, 109, 111, 100, 101], [115, 101, 116, 112, 97, 114, 97, 109], [104, 107, 100, 101, 102, 105, 110, 101], [104, 107, 100, 101, 108, 101, 116, 101], [104, 107, 101, 110, 97, 98, 108, 101], [109, 111, 110, 101, 110, 97, 98, 108, 101], [101, 118, 101, 110, 116, 101, 110, 97, 98, 108, 101], [97, 99, 116, 97, 100, 100], [97, 99, 116, 100, 101, 108, 101, 116, 101], [97, 99, 116, 101, 110, 97, 98, 108, 101], [115, 99, 104, 101, 100, 105, 110, 115, 101, 114, 116], [115, 99, 104, 101, 100, 100, 101, 108, 101, 116, 101], [115, 99, 104, 101, 100, 115, 104, 105, 102, 116], [115, 99, 104, 101, 100, 101, 110, 97, 98, 108, 101], [115, 101, 113, 108, 111, 97, 100], [115, 101, 113, 115, 116, 97, 114, 116], [115, 101, 113, 115, 116, 111, 112], [109, 101, 109, 108, 111, 97, 100], [109, 101, 109, 100, 117, 109, 112], [109, 101, 109, 99, 104, 101, 99, 107], [102, 105, 108, 101, 115, 101, 110, 100], [102, 105, 108, 101, 100, 101, 108, 101, 116, 101], [102, 105, 108, 101, 99, 111, 110, 116, 114, 111, 108], [117, 110, 105, 116, 115, 119, 105, 116, 99, 104], [114, 101, 99, 114, 101, 112, 108, 97, 121], [114, 101, 99, 100, 101, 108, 101, 116, 101], [114, 101, 98, 111, 111, 116]]
def rowL (s : Int) : List Int := if s < 1 ∨ 28 < s then [] else rowsL.getD (s.toNat - 1) []
def nameL (s : Int) : List UInt8 := if s < 1 ∨ 28 < s then [] else namesL.getD (s.toNat - 1) []
def argN (s : Int) (j : Nat) : Int := (rowL s).getD j 0
def rowC (s : Int) : List AV := [.str (nameL s), .int .i64 (argN s 0), .bool (argN s 1 == 1), .int .i64 (argN s 2), .int .i64 (argN s 3)]
def tabF : List AV := List.flatten [[.str [], .int .i64 0, .bool false, .int .i64 0, .int .i64 0], [.str [112, 105, 110, 103], .int .i64 0, .bool false, .int .i64 1, .int .i64 4], [.str [115, 101, 116, 109, 111, 100, 101], .int .i64 1, .bool false, .int .i64 1, .int .i64 4], [.str [115, 101, 116, 112, 97, 114, 97, 109], .int .i64 2, .bool false, .int .i64 1, .int .i64 4], [.str [104, 107, 100, 101, 102, 105, 110, 101], .int .i64 2, .bool true, .int .i64 1, .int .i64 4], [.str [104, 107, 100, 101, 108, 101, 116, 101], .int .i64 1, .bool false, .int .i64 1, .int .i64 4], [.str [104, 107, 101, 110, 97, 98, 108, 101], .int .i64 2, .bool false, .int .i64 1, .int .i64 4], [.str [109, 111, 110, 101, 110, 97, 98, 108, 101], .int .i64 2, .bool false, .int .i64 1, .int .i64 4], [.str [101, 118, 101, 110, 116, 101, 110, 97, 98, 108, 101], .int .i64 2, .bool false, .int .i64 1, .int .i64 4], [.str [97, 99, 116, 97, 100, 100], .int .i64 1, .bool true, .int .i64 2, .int .i64 4], [.str [97, 99, 116, 100, 101, 108, 101, 116, 101], .int .i64 1, .bool false, .int .i64 2, .int .i64 4], [.str [97, 99, 116, 101, 110, 97, 98, 108, 101], .int .i64 2, .bool false, .int .i64 2, .int .i64 4], [.str [115, 99, 104, 101, 100, 105, 110, 115, 101, 114, 116], .int .i64 2, .bool true, .int .i64 2, .int .i64 4], [.str [115, 99, 104, 101, 100, 100, 101, 108, 101, 116, 101], .int .i64 1, .bool false, .int .i64 2, .int .i64 4], [.str [115, 99, 104, 101, 100, 115, 104, 105, 102, 116], .int .i64 2, .bool false, .int .i64 2, .int .i64 4], [.str [115, 99, 104, 101, 100, 101, 110, 97, 98, 108, 101], .int .i64 2, .bool false, .int .i64 2, .int .i64 4], [.str [115, 101, 113, 108, 111, 97, 100], .int .i64 2, .bool true, .int .i64 2, .int .i64 4], [.str [115, 101, 113, 115, 116, 97, 114, 116], .int .i64 1, .bool false, .int .i64 3, .int .i64 4], [.str [115, 101, 113, 115, 116, 111, 112], .int .i64 1, .bool false, .int .i64 1, .int .i64 4], [.str [109, 101, 109, 108, 111, 97, 100], .int .i64 2, .bool true, .int .i64 1, .int .i64 2], [.str [109, 101, 109, 100, 117, 109, 112], .int .i64 2, .bool false, .int .i64 1, .int .i64 4], [.str [109, 101, 109, 99, 104, 101, 99, 107], .int .i64 2, .bool false, .int .i64 1, .int .i64 4], [.str [102, 105, 108, 101, 115, 101, 110, 100], .int .i64 1, .bool true, .int .i64 2, .int .i64 4], [.str [102, 105, 108, 101, 100, 101, 108, 101, 116, 101], .int .i64 0, .bool true, .int .i64 2, .int .i64 4], [.str [102, 105, 108, 101, 99, 111, 110, 116, 114, 111, 108], .int .i64 1, .bool false, .int .i64 1, .int .i64 4], [.str [117, 110, 105, 116, 115, 119, 105, 116, 99, 104], .int .i64 2, .bool false, .int .i64 1, .int .i64 2], [.str [114, 101, 99, 114, 101, 112, 108, 97, 121], .int .i64 3, .bool false, .int .i64 2, .int .i64 4], [.str [114, 101, 99, 100, 101, 108, 101, 116, 101], .int .i64 2, .bool false, .int .i64 2, .int .i64 4], [.str [114, 101, 98, 111, 111, 116], .int .i64 0, .bool false, .int .i64 1, .int .i64 2]]
theorem tab_len : tabF.length = 145 := rfl
theorem tab_row0 : AV.agg ((tabF.drop 0).take 5) = .agg (rowC 0) := by simp [tabF, rowC, nameL, argN, rowL, namesL, rowsL]
theorem tab_row1 : AV.agg ((tabF.drop 5).take 5) = .agg (rowC 1) := by simp [tabF, rowC, nameL, argN, rowL, namesL, rowsL]
theorem tab_row2 : AV.agg ((tabF.drop 10).take 5) = .agg (rowC 2) := by simp [tabF, rowC, nameL, argN, rowL, namesL, rowsL]
theorem tab_row3 : AV.agg ((tabF.drop 15).take 5) = .agg (rowC 3) := by simp [tabF, rowC, nameL, argN, rowL, namesL, rowsL]
theorem tab_row4 : AV.agg ((tabF.drop 20).take 5) = .agg (rowC 4) := by simp [tabF, rowC, nameL, argN, rowL, namesL, rowsL]
theorem tab_row5 : AV.agg ((tabF.drop 25).take 5) = .agg (rowC 5) := by simp [tabF, rowC, nameL, argN, rowL, namesL, rowsL]
theorem tab_row6 : AV.agg ((tabF.drop 30).take 5) = .agg (rowC 6) := by simp [tabF, rowC, nameL, argN, rowL, namesL, rowsL]
theorem tab_row7 : AV.agg ((tabF.drop 35).take 5) = .agg (rowC 7) := by simp [tabF, rowC, nameL, argN, rowL, namesL, rowsL]
theorem tab_row8 : AV.agg ((tabF.drop 40).take 5) = .agg (rowC 8) := by simp [tabF, rowC, nameL, argN, rowL, namesL, rowsL]
theorem tab_row9 : AV.agg ((tabF.drop 45).take 5) = .agg (rowC 9) := by simp [tabF, rowC, nameL, argN, rowL, namesL, rowsL]
theorem tab_row10 : AV.agg ((tabF.drop 50).take 5) = .agg (rowC 10) := by simp [tabF, rowC, nameL, argN, rowL, namesL, rowsL]
theorem tab_row11 : AV.agg ((tabF.drop 55).take 5) = .agg (rowC 11) := by simp [tabF, rowC, nameL, argN, rowL, namesL, rowsL]
theorem tab_row12 : AV.agg ((tabF.drop 60).take 5) = .agg (rowC 12) := by simp [tabF, rowC, nameL, argN, rowL, namesL, rowsL]
theorem tab_row13 : AV.agg ((tabF.drop 65).take 5) = .agg (rowC 13) := by simp [tabF, rowC, nameL, argN, rowL, namesL, rowsL]
theorem tab_row14 : AV.agg ((tabF.drop 70).take 5) = .agg (rowC 14) := by simp [tabF, rowC, nameL, argN, rowL, namesL, rowsL]
theorem tab_row15 : AV.agg ((tabF.drop 75).take 5) = .agg (rowC 15) := by simp [tabF, rowC, nameL, argN, rowL, namesL, rowsL]
theorem tab_row16 : AV.agg ((tabF.drop 80).take 5) = .agg (rowC 16) := by simp [tabF, rowC, nameL, argN, rowL, namesL, rowsL]
theorem tab_row17 : AV.agg ((tabF.drop 85).take 5) = .agg (rowC 17) := by simp [tabF, rowC, nameL, argN, rowL, namesL, rowsL]
theorem tab_row18 : AV.agg ((tabF.drop 90).take 5) = .agg (rowC 18) := by simp [tabF, rowC, nameL, argN, rowL, namesL, rowsL]
theorem tab_row19 : AV.agg ((tabF.drop 95).take 5) = .agg (rowC 19) := by simp [tabF, rowC, nameL, argN, rowL, namesL, rowsL]
theorem tab_row20 : AV.agg ((tabF.drop 100).take 5) = .agg (rowC 20) := by simp [tabF, rowC, nameL, argN, rowL, namesL, rowsL]
theorem tab_row21 : AV.agg ((tabF.drop 105).take 5) = .agg (rowC 21) := by simp [tabF, rowC, nameL, argN, rowL, namesL, rowsL]
theorem tab_row22 : AV.agg ((tabF.drop 110).take 5) = .agg (rowC 22) := by simp [tabF, rowC, nameL, argN, rowL, namesL, rowsL]
theorem tab_row23 : AV.agg ((tabF.drop 115).take 5) = .agg (rowC 23) := by simp [tabF, rowC, nameL, argN, rowL, namesL, rowsL]
theorem tab_row24 : AV.agg ((tabF.drop 120).take 5) = .agg (rowC 24) := by simp [tabF, rowC, nameL, argN, rowL, namesL, rowsL]
theorem tab_row25 : AV.agg ((tabF.drop 125).take 5) = .agg (rowC 25) := by simp [tabF, rowC, nameL, argN, rowL, namesL, rowsL]
theorem tab_row26 : AV.agg ((tabF.drop 130).take 5) = .agg (rowC 26) := by simp [tabF, rowC, nameL, argN, rowL, namesL, rowsL]
theorem tab_row27 : AV.agg ((tabF.drop 135).take 5) = .agg (rowC 27) := by simp [tabF, rowC, nameL, argN, rowL, namesL, rowsL]
theorem tab_row28 : AV.agg ((tabF.drop 140).take 5) = .agg (rowC 28) := by simp [tabF, rowC, nameL, argN, rowL, namesL, rowsL]
theorem tab_row (n : Nat) (hn : n < 29) : partA Try.prog 110 tabF (n * szT Try.prog 110) = .agg (rowC n) := by
  rw [partA, kd_110, sz_110]
  dsimp only
  match n with
  | 0 => exact tab_row0
  | 1 => exact tab_row1
  | 2 => exact tab_row2
  | 3 => exact tab_row3
  | 4 => exact tab_row4
  | 5 => exact tab_row5
  | 6 => exact tab_row6
  | 7 => exact tab_row7
  | 8 => exact tab_row8
  | 9 => exact tab_row9
  | 10 => exact tab_row10
  | 11 => exact tab_row11
  | 12 => exact tab_row12
  | 13 => exact tab_row13
  | 14 => exact tab_row14
  | 15 => exact tab_row15
  | 16 => exact tab_row16
  | 17 => exact tab_row17
  | 18 => exact tab_row18
  | 19 => exact tab_row19
  | 20 => exact tab_row20
  | 21 => exact tab_row21
  | 22 => exact tab_row22
  | 23 => exact tab_row23
  | 24 => exact tab_row24
  | 25 => exact tab_row25
  | 26 => exact tab_row26
  | 27 => exact tab_row27
  | 28 => exact tab_row28
  | n + 29 => omega
theorem allN_i {n : Nat} {F : Nat → Prop} (h : ∀ j, j < n → F j) : allN n F := by
  induction n with
  | zero => trivial
  | succ n ih => exact ⟨ih fun j hj => h j (by omega), h n (by omega)⟩
theorem allN_e {n : Nat} {F : Nat → Prop} (h : allN n F) : ∀ j, j < n → F j := by
  induction n with
  | zero => intro j hj; omega
  | succ n ih =>
    intro j hj
    rcases Nat.lt_or_ge j n with h1 | h1
    · exact ih h.1 j h1
    · have : j = n := by omega
      subst this
      exact h.2
theorem idx_tab {i : Int} {K : AV → Prop} : idxK Try.prog (.array 29 110) (.agg tabF) (.int .i64 i) K = ((0 ≤ i ∧ i < 29) ∧ K (.agg (rowC i))) := by
  have e : ∀ j, j < 29 → partA Try.prog 110 tabF (j * szT Try.prog 110) = .agg (rowC j) := tab_row
  unfold idxK
  apply propext
  constructor
  · rintro ⟨h1, _, h3⟩
    refine ⟨h1, ?_⟩
    have := allN_e h3 i.toNat (by omega) (by omega)
    rw [e _ (by omega)] at this
    rw [show ((i.toNat : Nat) : Int) = i by omega] at this
    exact this
  · rintro ⟨h1, h2⟩
    refine ⟨h1, by rw [tab_len, sz_110], allN_i fun j hj hi => ?_⟩
    rw [e j hj, ← hi]
    exact h2
theorem b_row (s : Int) : DoesK Try.prog 0 99 [.int .i64 s] [] (EndF 0 (.ro .int (rowL s)) []) := by
  refine DoesK.close ?_
  refine w_body (rs := [.tmp 2]) (tm := [.int .i64 s, .any, .any, .any, .any, .any, .any, .any, .any, .any, .any, .any, .any, .any, .any, .any, .any, .any, .any, .any, .any, .any, .any, .any, .any, .any, .any, .any, .any, .any, .any, .any, .any, .any, .any, .any, .any, .any, .any, .any, .any, .any, .any, .any, .any, .any]) fn_99 rfl rfl rfl rfl fun R hR => ?_
  (all_goals (try ((first | (with_reducible refine wp_id ?_) | (with_reducible refine does_id ?_) | (with_reducible refine ops_id ?_)); refine walk ?_; (repeat' (first | exact trivial | with_reducible refine And.intro ?_ ?_)); all_goals (repeat (first | (with_reducible refine ImpB.mk fun hb => ?_) | (with_reducible refine ImpK.mk fun hK => ?_) | (with_reducible refine ImpF.mk fun hF => ?_) | (with_reducible refine ImpQ.mk fun hp => ?_) | (with_reducible refine AllE.mk fun p => ?_) | (with_reducible refine AllR.mk fun rest => ?_) | (with_reducible refine AllK.mk fun K => ?_))))); repeat' (with_reducible refine And.intro ?_ ?_))
  (all_goals (repeat (first | (clear hK; clear K) | (clear hE; clear E) | (clear hF; clear F) | (clear hR; clear R))); all_goals (try simp only [decide_eq_true_eq, decide_eq_false_iff_not, Bool.not_eq_true', Bool.not_eq_false', Bool.not_eq_true, Bool.not_eq_false, decide_not, decide_true, decide_false, Bool.decide_and, Bool.and_eq_true, Bool.or_eq_true, Bool.and_eq_false_imp, Decidable.not_not] at *); all_goals (try omega); all_goals (try (first | exact u8w_lo _ | exact u8w_hi _ | exact (bits8 _ _ _).1 | exact (bits8 _ _ _).2 | exact Int.natCast_nonneg _ | exact u8_ltI _)))
  all_goals try (rw [rowL, if_pos (by omega)])
  · (focus (refine ⟨_, _, Gh.refl, [], rfl, ?_⟩; (refine fitq ?_ ?_ ?_ <;> try exact trivial); (try any_goals (refine ⟨?_, ?_⟩)); (try any_goals (with_reducible rfl))))
  · (focus (refine ⟨_, _, Gh.refl, [], rfl, ?_⟩; (refine fitq ?_ ?_ ?_ <;> try exact trivial); (try any_goals (refine ⟨?_, ?_⟩)); (try any_goals (with_reducible rfl))))
  all_goals have hw : IntKind.i64.wrap (s - 1) = s - 1 := wrap_i64 _ (by omega) (by omega)
  all_goals rw [hw]
  · omega
  · omega
  · omega
  · rw [rowL, if_neg (by omega), show s.toNat - 1 = (s - 1).toNat from by omega]
    (focus (refine ⟨_, _, Gh.refl, [], rfl, ?_⟩; (refine fitq ?_ ?_ ?_ <;> try exact trivial); (try any_goals (refine ⟨?_, ?_⟩)); (try any_goals (with_reducible rfl))))
    rfl
theorem c_row {h : List Ch} {K : KT} {s : Int} (H : K (.ro .int (rowL s)) h) : Does Try.prog 99 [.int .i64 s] h K :=
  frame_pure (b_row s) (br_cons br_int br_nil) (.inl rfl) (fun _ => rfl) H
abbrev i_row := Ctr.mk (i := 0) (g := 99) @c_row
attribute [instance] i_row
theorem b_table : DoesK Try.prog 0 87 [] [] (EndF 0 (.agg tabF) []) := by
  refine DoesK.close ?_
  refine w_body (rs := [.cell 0 129]) (tm := [.any, .any, .any, .any, .any, .any, .any, .any, .any, .any, .any, .any, .any, .any, .any, .any, .any, .any, .any, .any, .any, .any, .any, .any, .any, .any, .any, .any, .any, .any]) fn_87 rfl rfl rfl rfl fun R hR => ?_
  (all_goals (try ((first | (with_reducible refine wp_id ?_) | (with_reducible refine does_id ?_) | (with_reducible refine ops_id ?_)); refine walk ?_; (repeat' (first | exact trivial | with_reducible refine And.intro ?_ ?_)); all_goals (repeat (first | (with_reducible refine ImpB.mk fun hb => ?_) | (with_reducible refine ImpK.mk fun hK => ?_) | (with_reducible refine ImpF.mk fun hF => ?_) | (with_reducible refine ImpQ.mk fun hp => ?_) | (with_reducible refine AllE.mk fun p => ?_) | (with_reducible refine AllR.mk fun rest => ?_) | (with_reducible refine AllK.mk fun K => ?_))))); repeat' (with_reducible refine And.intro ?_ ?_))
  (all_goals (repeat (first | (clear hK; clear K) | (clear hE; clear E) | (clear hF; clear F) | (clear hR; clear R))); all_goals (try simp only [decide_eq_true_eq, decide_eq_false_iff_not, Bool.not_eq_true', Bool.not_eq_false', Bool.not_eq_true, Bool.not_eq_false, decide_not, decide_true, decide_false, Bool.decide_and, Bool.and_eq_true, Bool.or_eq_true, Bool.and_eq_false_imp, Decidable.not_not] at *); all_goals (try omega); all_goals (try (first | exact u8w_lo _ | exact u8w_hi _ | exact (bits8 _ _ _).1 | exact (bits8 _ _ _).2 | exact Int.natCast_nonneg _ | exact u8_ltI _)))
  simp only [tabF, List.flatten_cons, List.flatten_nil, List.append_nil, List.cons_append, List.nil_append]
  (focus (refine ⟨_, _, Gh.refl, [], rfl, ?_⟩; (refine fitq ?_ ?_ ?_ <;> try exact trivial); (try any_goals (refine ⟨?_, ?_⟩)); (try any_goals (with_reducible rfl))))
theorem c_table {h : List Ch} {K : KT} (H : K (.agg tabF) h) : Does Try.prog 87 [] h K :=
  frame_pure b_table br_nil (.inl rfl) (fun _ => rfl) H
abbrev i_table := Ctr.mk (i := 0) (g := 87) @c_table
attribute [instance] i_table
theorem fit_tab : fitL [] tabF tabF = True := by
  apply eq_true
  simp only [tabF, List.flatten_cons, List.flatten_nil, List.append_nil, List.cons_append, List.nil_append, go_sem]
attribute [go_sem] fit_tab
attribute [irreducible] tabF
attribute [-go_sem] idxK
attribute [go_sem] idx_tab
attribute [go_sem] rowC
def okS (s : Int) : Bool := decide (1 ≤ s ∧ s ≤ 28)
theorem okS_f {s : Int} (h : s < 1 ∨ 28 < s) : okS s = false := by simp [okS]; omega
theorem okS_t {s : Int} (h : ¬ (s < 1 ∨ 28 < s)) : okS s = true := by simp [okS]; omega
theorem nameL_out {s : Int} (h : s < 1 ∨ 28 < s) : nameL s = [] := by rw [nameL, if_pos h]
theorem argN_out {s : Int} {j : Nat} (h : s < 1 ∨ 28 < s) : argN s j = 0 := by simp only [argN, rowL, if_pos h]; rfl
theorem b_find (s : Int) : DoesK Try.prog 0 63 [.int .i64 s] [] (EndF 0 (.tup [.agg (rowC s), .bool (okS s)]) []) := by
  refine DoesK.close ?_
  refine w_body (rs := [.cell 2 110, .tmp 3]) (tm := [.int .i64 s, .any, .any, .any, .any, .any, .any, .any, .any, .any, .any, .any, .any, .any]) fn_63 rfl rfl rfl rfl fun R hR => ?_
  (all_goals (try ((first | (with_reducible refine wp_id ?_) | (with_reducible refine does_id ?_) | (with_reducible refine ops_id ?_)); refine walk ?_; (repeat' (first | exact trivial | with_reducible refine And.intro ?_ ?_)); all_goals (repeat (first | (with_reducible refine ImpB.mk fun hb => ?_) | (with_reducible refine ImpK.mk fun hK => ?_) | (with_reducible refine ImpF.mk fun hF => ?_) | (with_reducible refine ImpQ.mk fun hp => ?_) | (with_reducible refine AllE.mk fun p => ?_) | (with_reducible refine AllR.mk fun rest => ?_) | (with_reducible refine AllK.mk fun K => ?_))))); repeat' (with_reducible refine And.intro ?_ ?_))
  (all_goals (repeat (first | (clear hK; clear K) | (clear hE; clear E) | (clear hF; clear F) | (clear hR; clear R))); all_goals (try simp only [decide_eq_true_eq, decide_eq_false_iff_not, Bool.not_eq_true', Bool.not_eq_false', Bool.not_eq_true, Bool.not_eq_false, decide_not, decide_true, decide_false, Bool.decide_and, Bool.and_eq_true, Bool.or_eq_true, Bool.and_eq_false_imp, Decidable.not_not] at *); all_goals (try omega); all_goals (try (first | exact u8w_lo _ | exact u8w_hi _ | exact (bits8 _ _ _).1 | exact (bits8 _ _ _).2 | exact Int.natCast_nonneg _ | exact u8_ltI _)))
  · rw [okS_f (by omega), nameL_out (by omega), argN_out (by omega), argN_out (by omega), argN_out (by omega), argN_out (by omega)]
    (focus (refine ⟨_, _, Gh.refl, [], rfl, ?_⟩; (refine fitq ?_ ?_ ?_ <;> try exact trivial); (try any_goals (refine ⟨?_, ?_⟩)); (try any_goals (with_reducible rfl))))
    all_goals rfl
  · rw [okS_f (by omega), nameL_out (by omega), argN_out (by omega), argN_out (by omega), argN_out (by omega), argN_out (by omega)]
    (focus (refine ⟨_, _, Gh.refl, [], rfl, ?_⟩; (refine fitq ?_ ?_ ?_ <;> try exact trivial); (try any_goals (refine ⟨?_, ?_⟩)); (try any_goals (with_reducible rfl))))
    all_goals rfl
  · rw [okS_t (by omega)]
    (focus (refine ⟨_, _, Gh.refl, [], rfl, ?_⟩; (refine fitq ?_ ?_ ?_ <;> try exact trivial); (try any_goals (refine ⟨?_, ?_⟩)); (try any_goals (with_reducible rfl))))
theorem c_find {h : List Ch} {K : KT} {s : Int} (H : K (.tup [.agg (rowC s), .bool (okS s)]) h) : Does Try.prog 63 [.int .i64 s] h K :=
  frame_pure (b_find s) (br_cons br_int br_nil) (.inl rfl) (fun _ => rfl) H
abbrev i_find := Ctr.mk (i := 0) (g := 63) @c_find
attribute [instance] i_find
theorem rowL_len (s : Int) : (rowL s).length = 0 ∧ (s < 1 ∨ 28 < s) ∨ (rowL s).length = 4 ∧ ¬ (s < 1 ∨ 28 < s) := by
  by_cases h : s < 1 ∨ 28 < s
  · left
    rw [rowL, if_pos h]
    exact ⟨rfl, h⟩
  · right
    refine ⟨?_, h⟩
    rw [rowL, if_neg h]
    have e : rowsL.length = 28 := rfl
    have k : ∀ x ∈ rowsL, x.length = 4 := by decide
    have hl : s.toNat - 1 < rowsL.length := by omega
    rw [List.getD_eq_getElem?_getD, List.getElem?_eq_getElem hl, Option.getD_some]
    exact k _ (List.getElem_mem hl)
theorem b_rargs (s : Int) : DoesK Try.prog 0 95 [.int .i64 s] [] (EndF 0 (.tup [.int .i64 (argN s 0), .bool (argN s 1 == 1)]) []) := by
  refine DoesK.close ?_
  have hl := rowL_len s
  refine w_body (rs := [.tmp 2, .tmp 3]) (tm := [.int .i64 s, .any, .any, .any, .any, .any, .any, .any, .any, .any, .any, .any, .any, .any, .any, .any, .any]) fn_95 rfl rfl rfl rfl fun R hR => ?_
  (all_goals (try ((first | (with_reducible refine wp_id ?_) | (with_reducible refine does_id ?_) | (with_reducible refine ops_id ?_)); refine walk ?_; (repeat' (first | exact trivial | with_reducible refine And.intro ?_ ?_)); all_goals (repeat (first | (with_reducible refine ImpB.mk fun hb => ?_) | (with_reducible refine ImpK.mk fun hK => ?_) | (with_reducible refine ImpF.mk fun hF => ?_) | (with_reducible refine ImpQ.mk fun hp => ?_) | (with_reducible refine AllE.mk fun p => ?_) | (with_reducible refine AllR.mk fun rest => ?_) | (with_reducible refine AllK.mk fun K => ?_))))); repeat' (with_reducible refine And.intro ?_ ?_))
  (all_goals (repeat (first | (clear hK; clear K) | (clear hE; clear E) | (clear hF; clear F) | (clear hR; clear R))); all_goals (try simp only [decide_eq_true_eq, decide_eq_false_iff_not, Bool.not_eq_true', Bool.not_eq_false', Bool.not_eq_true, Bool.not_eq_false, decide_not, decide_true, decide_false, Bool.decide_and, Bool.and_eq_true, Bool.or_eq_true, Bool.and_eq_false_imp, Decidable.not_not] at *); all_goals (try omega); all_goals (try (first | exact u8w_lo _ | exact u8w_hi _ | exact (bits8 _ _ _).1 | exact (bits8 _ _ _).2 | exact Int.natCast_nonneg _ | exact u8_ltI _)))
  · rw [argN_out (by omega), argN_out (by omega)]
    (focus (refine ⟨_, _, Gh.refl, [], rfl, ?_⟩; (refine fitq ?_ ?_ ?_ <;> try exact trivial); (try any_goals (refine ⟨?_, ?_⟩)); (try any_goals (with_reducible rfl))))
    all_goals rfl
  · (focus (refine ⟨_, _, Gh.refl, [], rfl, ?_⟩; (refine fitq ?_ ?_ ?_ <;> try exact trivial); (try any_goals (refine ⟨?_, ?_⟩)); (try any_goals (with_reducible rfl))))
    all_goals rfl
theorem c_rargs {h : List Ch} {K : KT} {s : Int} (H : K (.tup [.int .i64 (argN s 0), .bool (argN s 1 == 1)]) h) : Does Try.prog 95 [.int .i64 s] h K :=
  frame_pure (b_rargs s) (br_cons br_int br_nil) (.inl rfl) (fun _ => rfl) H
abbrev i_rargs := Ctr.mk (i := 0) (g := 95) @c_rargs
attribute [instance] i_rargs
end Go.V

set_option maxRecDepth 100000
namespace Go.V
open Go.Proofs
theorem vdAux_vint (xs : List UInt8) : ∀ z i q : Nat, (0 < z ∨ i = 0) → i ≤ 9 → z * 128 ^ i < 18446744073709551616 → vdAux i q (vint z ++ xs) = some (q + z * 128 ^ i, i + (vint z).length) := by
  intro z
  induction z using Nat.strongRecOn with
  | _ z ih =>
    intro i q h0 hi hz
    have e9 : (128 : Nat) ^ 9 = 9223372036854775808 := rfl
    by_cases hs : z < 128
    · rw [vint_small hs]
      have hx : (UInt8.ofNat z).toNat = z := u8_ofN z (by omega)
      rw [List.singleton_append, vdAux, hx, if_neg, if_pos hs, if_neg (by omega), Nat.mod_eq_of_lt hs]
      · rfl
      · rintro ⟨rfl, h1⟩
        omega
    · rw [vint_big hs]
      have hx : (UInt8.ofNat (z % 128 + 128)).toNat = z % 128 + 128 := u8_ofN _ (by omega)
      have hi8 : i < 9 := by
        rcases Nat.lt_or_ge i 9 with h | h
        · exact h
        · have : i = 9 := by omega
          subst this
          omega
      have hd : z = z / 128 * 128 + z % 128 := by omega
      have hm : z * 128 ^ i = z / 128 * 128 ^ (i + 1) + z % 128 * 128 ^ i := by
        rw [Nat.pow_succ, Nat.mul_comm (128 ^ i) 128, ← Nat.mul_assoc, ← Nat.add_mul, ← hd]
      rw [List.cons_append, vdAux, hx, if_neg (by omega), if_neg (by omega), ih (z / 128) (by omega) (i + 1) _ (by omega) (by omega) (by omega)]
      rw [show (z % 128 + 128) % 128 = z % 128 by omega]
      simp only [Option.some.injEq, Prod.mk.injEq, List.length_cons]
      refine ⟨by omega, by omega⟩
theorem vd_vint (z : Nat) (xs : List UInt8) (hz : z < 18446744073709551616) : vd (vint z ++ xs) = some (z, (vint z).length) := by
  have := vdAux_vint xs z 0 0 (.inr rfl) (by omega) (by omega)
  simpa [vd] using this
theorem intR_enc (n : Int) (hn : I64 n) (xs : List UInt8) : intR (some (encI n ++ xs)) = (n, some xs) := by
  simp only [intR, encI, vd_vint _ _ (zz_bd n hn), unzz_zz, List.drop_left]
theorem uintR_be (n s : Nat) (h : n < 256 ^ s) (xs : List UInt8) : uintR (some (be n s ++ xs)) s = (n, some xs) := by
  have hl := be_len n s
  have e1 : (be n s ++ xs).take s = be n s := List.take_left' hl
  have e2 : (be n s ++ xs).drop s = xs := List.drop_left' hl
  rw [uintR, if_pos (by simp [hl]), e1, e2, beval_be n s h]
theorem blobR_enc (bs xs : List UInt8) (most : Int) (h : (bs.length : Int) ≤ most) (h2 : bs.length ≤ 1099511627776) : blobR (some (encI bs.length ++ bs ++ xs)) most = (bs, some xs) := by
  have e1 : countR (some (encI bs.length ++ bs ++ xs)) most = ((bs.length : Int), some (bs ++ xs)) := by
    have e0 : intR (some (encI bs.length ++ bs ++ xs)) = ((bs.length : Int), some (bs ++ xs)) := by
      rw [List.append_assoc, intR_enc _ (by constructor <;> omega)]
    simp only [countR, e0]
    rw [if_neg (by omega)]
  simp only [blobR, e1]
  rw [if_neg (by simp; omega)]
  simp
def intsR (r : Option (List UInt8)) : Nat → List Int × Option (List UInt8)
  | 0 => ([], r)
  | k + 1 => ((intsR r k).1 ++ [(intR (intsR r k).2).1], (intR (intsR r k).2).2)
theorem intsR_len (r : Option (List UInt8)) (k : Nat) : (intsR r k).1.length = k := by
  induction k with
  | zero => rfl
  | succ k ih => simp [intsR, ih]
theorem intsR_enc (zs : List Int) (ha : ∀ a ∈ zs, I64 a) (xs : List UInt8) (k : Nat) (hk : k ≤ zs.length) : intsR (some (zs.flatMap encI ++ xs)) k = (zs.take k, some ((zs.drop k).flatMap encI ++ xs)) := by
  induction k with
  | zero => simp [intsR]
  | succ k ih =>
    have hl : k < zs.length := by omega
    rw [intsR, ih (by omega)]
    simp only
    rw [List.drop_eq_getElem_cons hl, List.flatMap_cons, List.append_assoc, intR_enc _ (ha _ (List.getElem_mem hl)), List.take_succ_eq_append_getElem hl]
def dataS (s : Int) : Bool := argN s 1 == 1
/-- a command that may be sent -/
def validC (c : Cmd) : Bool := okS c.srv && decide (0 ≤ c.src) && decide (c.src ≤ 15) && decide (0 ≤ c.num) && decide (c.num ≤ 65535) && decide ((c.args.length : Int) = argN c.srv 0)
  && c.args.all (fun a => decide (-1099511627776 ≤ a) && decide (a ≤ 1099511627776))
  && (if dataS c.srv = true then decide (1 ≤ c.data.length) && decide (c.data.length ≤ 512) else decide (c.data.length = 0))
def encC (c : Cmd) : List UInt8 := be c.src.toNat 1 ++ be c.num.toNat 2 ++ be c.srv.toNat 1 ++ c.args.flatMap encI ++ (if dataS c.srv = true then encI c.data.length ++ c.data else [])
/-- reading one: the command, and what is left -/
def rdC (b : List UInt8) : Cmd × Option (List UInt8) :=
  let p := uintR (some b) 1
  let q := uintR p.2 2
  let s := uintR q.2 1
  let a := intsR s.2 (argN s.1 0).toNat
  let d := if dataS s.1 = true then blobR a.2 512 else ([], a.2)
  (⟨p.1, q.1, s.1, a.1, d.1⟩, d.2)
def decC (b : List UInt8) : Option Cmd := if (rdC b).2 = some [] ∧ validC (rdC b).1 = true ∧ encC (rdC b).1 = b then some (rdC b).1 else none
theorem validC_iff (c : Cmd) : validC c = true ↔ okS c.srv = true ∧ 0 ≤ c.src ∧ c.src ≤ 15 ∧ 0 ≤ c.num ∧ c.num ≤ 65535 ∧ (c.args.length : Int) = argN c.srv 0
  ∧ (∀ a ∈ c.args, -1099511627776 ≤ a ∧ a ≤ 1099511627776) ∧ (if dataS c.srv = true then 1 ≤ c.data.length ∧ c.data.length ≤ 512 else c.data.length = 0) := by
  unfold validC
  split <;> simp [and_assoc]
theorem okS_iff (s : Int) : okS s = true ↔ 1 ≤ s ∧ s ≤ 28 := by simp [okS]
theorem rdC_enc {c : Cmd} (h : validC c = true) : rdC (encC c) = (c, some []) := by
  rw [validC_iff] at h
  obtain ⟨h1, h2, h3, h4, h5, h6, h7, h8⟩ := h
  rw [okS_iff] at h1
  have e1 : uintR (some (encC c)) 1 = (c.src.toNat, some (be c.num.toNat 2 ++ (be c.srv.toNat 1 ++ (c.args.flatMap encI ++ (if dataS c.srv = true then encI c.data.length ++ c.data else []))))) := by
    rw [encC]
    simp only [List.append_assoc]
    exact uintR_be _ _ (by omega) _
  have e2 := uintR_be c.num.toNat 2 (by omega) (be c.srv.toNat 1 ++ (c.args.flatMap encI ++ (if dataS c.srv = true then encI c.data.length ++ c.data else [])))
  have e3 := uintR_be c.srv.toNat 1 (by omega) (c.args.flatMap encI ++ (if dataS c.srv = true then encI c.data.length ++ c.data else []))
  have hs : ((c.srv.toNat : Nat) : Int) = c.srv := by omega
  have ha : ∀ a ∈ c.args, I64 a := fun a ha => by have := h7 a ha; constructor <;> omega
  have e4 := intsR_enc c.args ha (if dataS c.srv = true then encI c.data.length ++ c.data else []) c.args.length (Nat.le_refl _)
  rw [List.take_length, List.drop_length, List.flatMap_nil, List.nil_append] at e4
  have hl : (argN c.srv 0).toNat = c.args.length := by omega
  unfold rdC
  simp only [e1, e2, e3, hs, hl, e4]
  by_cases hd : dataS c.srv = true
  · rw [if_pos hd] at h8 ⊢
    have e5 := blobR_enc c.data [] 512 (by omega) (by omega)
    rw [List.append_nil] at e5
    simp only [hd, if_true, e5]
    rw [show ((c.src.toNat : Nat) : Int) = c.src by omega, show ((c.num.toNat : Nat) : Int) = c.num by omega]
  · rw [if_neg hd] at h8 ⊢
    simp only [hd]
    have : c.data = [] := List.eq_nil_of_length_eq_zero h8
    rw [show ((c.src.toNat : Nat) : Int) = c.src by omega, show ((c.num.toNat : Nat) : Int) = c.num by omega]
    obtain ⟨a, b, d, e, f⟩ := c
    simp only at this
    subst this
    rfl
theorem dec_enc {c : Cmd} (h : validC c = true) : decC (encC c) = some c := by
  rw [decC, rdC_enc h]
  simp [h]
theorem arg0_le (s : Int) : argN s 0 ≤ 3 := by
  have k : ∀ x ∈ rowsL, x.getD 0 0 ≤ 3 := by decide
  unfold argN rowL
  split
  · decide
  · rw [List.getD_eq_getElem?_getD (l := rowsL)]
    cases e : rowsL[s.toNat - 1]? with
    | none => decide
    | some x => exact k x (List.mem_of_getElem? e)
theorem encs_len : ∀ zs : List Int, (∀ a ∈ zs, -1099511627776 ≤ a ∧ a ≤ 1099511627776) → (zs.flatMap encI).length ≤ 10 * zs.length := by
  intro zs
  induction zs with
  | nil => intro _; simp
  | cons a zs ih =>
    intro ha
    have := ih fun x hx => ha x (List.mem_cons_of_mem _ hx)
    have h0 := ha a (List.mem_cons_self ..)
    have := encI_le a (by constructor <;> omega)
    simp only [List.flatMap_cons, List.length_append, List.length_cons]
    omega
theorem encC_len {c : Cmd} (h : validC c = true) : (encC c).length ≤ 600 := by
  rw [validC_iff] at h
  obtain ⟨h1, h2, h3, h4, h5, h6, h7, h8⟩ := h
  have hal := arg0_le c.srv
  have hf := encs_len
  have := hf c.args h7
  have := encI_le c.data.length (by split at h8 <;> constructor <;> omega)
  unfold encC
  simp only [List.length_append, be_len]
  split at h8 <;> rename_i hd
  · rw [if_pos hd]
    simp only [List.length_append]
    omega
  · rw [if_neg hd]
    simp only [List.length_nil]
    omega
end Go.V

set_option maxRecDepth 100000
set_option maxHeartbeats 1000000
namespace Go.V
open Go.Proofs
theorem c_wbytes {h : List Ch} {K : KT} {t : Nat} {xs : List UInt8} (H : K (.sl h.length .byte 0 xs.length) (h ++ [.rows .byte xs])) (o : hth h t = .pack (Wr xs)) (s1 : xs.length ≤ 1099511627776) : Does Try.prog 40 [.ptr t 0] h K :=
  frame_obj (ret' := .sl h.length .byte 0 xs.length) (b_wbytes xs s1) o (by simp) (fitC_pack _) (br_cons (br_ptr rfl) br_nil) (.inl rfl) (fun _ => rfl) (fun _ => rfl) rfl (by rw [set_hth o (by simp)]; exact H)
abbrev i_wbytes := Ctr.mk (i := 0) (g := 40) @c_wbytes
attribute [instance] i_wbytes
def Cmd.av (c : Cmd) : AV := .agg c.cells
theorem vF {c : Cmd} (h : validC c = true → False) : validC c = false := by
  cases e : validC c
  · rfl
  · exact (h e).elim
def inB (a : Int) : Prop := -1099511627776 ≤ a ∧ a ≤ 1099511627776
theorem take_all {l : List Int} {k : Nat} (h : ∀ a ∈ l.take k, inB a) (hk : k < l.length) (hx : inB (l.getD k 0)) : ∀ a ∈ l.take (k + 1), inB a := by
  rw [List.take_succ_eq_append_getElem hk]
  intro a ha
  rcases List.mem_append.1 ha with h1 | h1
  · exact h a h1
  · rw [List.mem_singleton] at h1
    rw [h1]
    rw [List.getD_eq_getElem?_getD, List.getElem?_eq_getElem hk] at hx
    exact hx
theorem not_all {l : List Int} {k : Nat} (hk : k < l.length) (hx : ¬ inB (l.getD k 0)) (h : ∀ a ∈ l, -1099511627776 ≤ a ∧ a ≤ 1099511627776) : False := by
  rw [List.getD_eq_getElem?_getD, List.getElem?_eq_getElem hk] at hx
  exact hx (h _ (List.getElem_mem hk))
theorem vF1 {c : Cmd} (h : ¬ (okS c.srv = true ∧ 0 ≤ c.src ∧ c.src ≤ 15 ∧ 0 ≤ c.num ∧ c.num ≤ 65535 ∧ (c.args.length : Int) = argN c.srv 0)) : validC c = false :=
  vF fun e => by
    rw [validC_iff] at e
    exact h ⟨e.1, e.2.1, e.2.2.1, e.2.2.2.1, e.2.2.2.2.1, e.2.2.2.2.2.1⟩
theorem vF2 {c : Cmd} {k : Nat} (hk : k < c.args.length) (hx : ¬ inB (c.args.getD k 0)) : validC c = false :=
  vF fun e => by
    rw [validC_iff] at e
    exact not_all hk hx e.2.2.2.2.2.2.1
theorem vT {c : Cmd} (h : okS c.srv = true ∧ 0 ≤ c.src ∧ c.src ≤ 15 ∧ 0 ≤ c.num ∧ c.num ≤ 65535 ∧ (c.args.length : Int) = argN c.srv 0) (h7 : ∀ a ∈ c.args, inB a) : validC c = if dataS c.srv = true then decide (1 ≤ c.data.length) && decide (c.data.length ≤ 512) else decide (c.data.length = 0) := by
  obtain ⟨h1, h2, h3, h4, h5, h6⟩ := h
  have h8 : c.args.all (fun a => decide (-1099511627776 ≤ a) && decide (a ≤ 1099511627776)) = true := by
    rw [List.all_eq_true]
    intro a ha
    have := h7 a ha
    simp only [Bool.and_eq_true, decide_eq_true_eq]
    exact this
  simp only [validC, h1, h2, h3, h4, h5, h6, h8, decide_true, Bool.true_and]
theorem argN1 (s : Int) : argN s 1 = 0 ∨ argN s 1 = 1 := by
  have k : ∀ x ∈ rowsL, x.getD 1 0 = 0 ∨ x.getD 1 0 = 1 := by decide
  unfold argN rowL
  split
  · left; rfl
  · rw [List.getD_eq_getElem?_getD (l := rowsL)]
    cases e : rowsL[s.toNat - 1]? with
    | none => left; rfl
    | some x => exact k x (List.mem_of_getElem? e)
theorem b_valid (c : Cmd) (hl : c.args.length ≤ 1099511627776) : DoesK Try.prog 0 62 [.agg [.int .i64 c.src, .int .i64 c.num, .int .i64 c.srv, .ro .int c.args, .ro .byte c.data]] [] (EndF 0 (.bool (validC c)) []) := by
  refine DoesK.close ?_
  refine w_body (rs := [.tmp 2]) (tm := [.agg [.int .i64 c.src, .int .i64 c.num, .int .i64 c.srv, .ro .int c.args, .ro .byte c.data], .any, .any, .any, .any, .any, .any, .any, .any, .any, .any, .any, .any, .any, .any, .any, .any, .any, .any, .any, .any, .any, .any, .any, .any, .any, .any, .any, .any, .any, .any, .any, .any, .any, .any, .any, .any, .any, .any, .any, .any, .any, .any, .any, .any, .any, .any, .any, .any, .any, .any, .any, .any, .any, .any, .any, .any, .any, .any, .any, .any, .any, .any, .any, .any, .any, .any, .any, .any, .any, .any, .any, .any]) fn_62 rfl rfl rfl rfl fun R hR => ?_
  (all_goals (try ((first | (with_reducible refine wp_id ?_) | (with_reducible refine does_id ?_) | (with_reducible refine ops_id ?_)); refine walk ?_; (repeat' (first | exact trivial | with_reducible refine And.intro ?_ ?_)); all_goals (repeat (first | (with_reducible refine ImpB.mk fun hb => ?_) | (with_reducible refine ImpK.mk fun hK => ?_) | (with_reducible refine ImpF.mk fun hF => ?_) | (with_reducible refine ImpQ.mk fun hp => ?_) | (with_reducible refine AllE.mk fun p => ?_) | (with_reducible refine AllR.mk fun rest => ?_) | (with_reducible refine AllK.mk fun K => ?_))))); repeat' (with_reducible refine And.intro ?_ ?_))
  any_goals ((try (refine w_seq fun K hK => ?_)); (try (refine w_block ?_)); refine w_loop (A := Nat) (fun k => (∀ a ∈ c.args.take k, inB a) ∧ k ≤ c.args.length) (fun k => c.args.length - k) (fun k => [(46, .int .i64 k)]) (fun _ => []) (0) (ws := ?ws1) (tk := ?tk1) ?hw1 ?ht1 ?hi ?h0 ?LH1; (case hw1 => simp only [go_sem, decide_true, decide_false, Int.reduceToNat, Nat.min_eq_left, Nat.min_eq_right, Int.reducePow, Nat.reducePow, Int.reduceLE, Int.reduceLT, Int.reduceMul, Int.reduceAdd, Int.reduceSub, Int.reduceNeg, Bool.not_true, Bool.not_false, Bool.not_not, ↓reduceIte, Nat.reduceAdd, Nat.reduceSub, Nat.reduceMul, Nat.reduceEqDiff, reduceCtorEq, Nat.reduceLT, Nat.reduceLeDiff, Nat.reduceGT]; exact rfl); (case ht1 => simp only [go_sem, decide_true, decide_false, Int.reduceToNat, Nat.min_eq_left, Nat.min_eq_right, Int.reducePow, Nat.reducePow, Int.reduceLE, Int.reduceLT, Int.reduceMul, Int.reduceAdd, Int.reduceSub, Int.reduceNeg, Bool.not_true, Bool.not_false, Bool.not_not, ↓reduceIte, Nat.reduceAdd, Nat.reduceSub, Nat.reduceMul, Nat.reduceEqDiff, reduceCtorEq, Nat.reduceLT, Nat.reduceLeDiff, Nat.reduceGT]; exact rfl); (case' LH1 => rintro k E t hx hE ht; simp only [go_sem] at ht; subst ht; simp only [go_sem]; try dsimp only at hx))
  (all_goals (try ((first | (with_reducible refine wp_id ?_) | (with_reducible refine does_id ?_) | (with_reducible refine ops_id ?_)); refine walk ?_; (repeat' (first | exact trivial | with_reducible refine And.intro ?_ ?_)); all_goals (repeat (first | (with_reducible refine ImpB.mk fun hb => ?_) | (with_reducible refine ImpK.mk fun hK => ?_) | (with_reducible refine ImpF.mk fun hF => ?_) | (with_reducible refine ImpQ.mk fun hp => ?_) | (with_reducible refine AllE.mk fun p => ?_) | (with_reducible refine AllR.mk fun rest => ?_) | (with_reducible refine AllK.mk fun K => ?_))))); repeat' (with_reducible refine And.intro ?_ ?_))
  (all_goals (repeat (first | (clear hK; clear K) | (clear hE; clear E) | (clear hF; clear F) | (clear hR; clear R))); all_goals (try simp only [decide_eq_true_eq, decide_eq_false_iff_not, Bool.not_eq_true', Bool.not_eq_false', Bool.not_eq_true, Bool.not_eq_false, decide_not, decide_true, decide_false, Bool.decide_and, Bool.and_eq_true, Bool.or_eq_true, Bool.and_eq_false_imp, Decidable.not_not] at *); all_goals (try omega); all_goals (try (first | exact u8w_lo _ | exact u8w_hi _ | exact (bits8 _ _ _).1 | exact (bits8 _ _ _).2 | exact Int.natCast_nonneg _ | exact u8_ltI _)))
  · rw [vF1 (by simp [*])]
    (focus (refine ⟨_, _, Gh.refl, [], rfl, ?_⟩; (refine fitq ?_ ?_ ?_ <;> try exact trivial); (try any_goals (refine ⟨?_, ?_⟩)); (try any_goals (with_reducible rfl))))
  · rw [vF1 (by omega)]
    (focus (refine ⟨_, _, Gh.refl, [], rfl, ?_⟩; (refine fitq ?_ ?_ ?_ <;> try exact trivial); (try any_goals (refine ⟨?_, ?_⟩)); (try any_goals (with_reducible rfl))))
  · rw [vF1 (by omega)]
    (focus (refine ⟨_, _, Gh.refl, [], rfl, ?_⟩; (refine fitq ?_ ?_ ?_ <;> try exact trivial); (try any_goals (refine ⟨?_, ?_⟩)); (try any_goals (with_reducible rfl))))
  · rw [vF1 (by omega)]
    (focus (refine ⟨_, _, Gh.refl, [], rfl, ?_⟩; (refine fitq ?_ ?_ ?_ <;> try exact trivial); (try any_goals (refine ⟨?_, ?_⟩)); (try any_goals (with_reducible rfl))))
  · rw [vF1 (by omega)]
    (focus (refine ⟨_, _, Gh.refl, [], rfl, ?_⟩; (refine fitq ?_ ?_ ?_ <;> try exact trivial); (try any_goals (refine ⟨?_, ?_⟩)); (try any_goals (with_reducible rfl))))
  · rw [vF1 (by omega)]
    (focus (refine ⟨_, _, Gh.refl, [], rfl, ?_⟩; (refine fitq ?_ ?_ ?_ <;> try exact trivial); (try any_goals (refine ⟨?_, ?_⟩)); (try any_goals (with_reducible rfl))))
  · rw [vF2 (k := k) (by omega) (by unfold inB; omega)]
    (focus (refine ⟨_, _, Gh.refl, [], rfl, ?_⟩; (refine fitq ?_ ?_ ?_ <;> try exact trivial); (try any_goals (refine ⟨?_, ?_⟩)); (try any_goals (with_reducible rfl))))
  · rw [vF2 (k := k) (by omega) (by unfold inB; omega)]
    (focus (refine ⟨_, _, Gh.refl, [], rfl, ?_⟩; (refine fitq ?_ ?_ ?_ <;> try exact trivial); (try any_goals (refine ⟨?_, ?_⟩)); (try any_goals (with_reducible rfl))))
  · refine ⟨k + 1, ⟨⟨take_all hx.1 (by omega) ⟨by omega, by omega⟩, by first | omega | (dsimp only; omega)⟩, by first | omega | (dsimp only; omega)⟩, ?_⟩
    (focus (refine ⟨_, _, Gh.refl, [0, 1], rfl, ?_⟩; (refine fitq ?_ ?_ ?_ <;> try exact trivial); (try any_goals (refine ⟨?_, ?_⟩)); (try any_goals (with_reducible rfl))))
    all_goals (first | with_reducible rfl | omega | ((simp (disch := omega) only [wrap_i64]); first | done | omega) | (simp only [List.append_assoc, List.cons_append, List.nil_append]; done))
  · have ha : ∀ a ∈ c.args, inB a := by have := hx.1; rwa [List.take_of_length_le (by omega)] at this
    rw [vT ⟨by assumption, by omega, by omega, by omega, by omega, by omega⟩ ha, if_pos (by unfold dataS; assumption)]
    (focus (refine ⟨_, _, Gh.refl, [], rfl, ?_⟩; (refine fitq ?_ ?_ ?_ <;> try exact trivial); (try any_goals (refine ⟨?_, ?_⟩)); (try any_goals (with_reducible rfl))))
    all_goals first | (simp; done) | (simp; omega; done) | (rw [Bool.eq_iff_iff]; simp only [Bool.and_eq_true, decide_eq_true_eq]; omega)
  · have ha : ∀ a ∈ c.args, inB a := by have := hx.1; rwa [List.take_of_length_le (by omega)] at this
    rw [vT ⟨by assumption, by omega, by omega, by omega, by omega, by omega⟩ ha, if_pos (by unfold dataS; assumption)]
    (focus (refine ⟨_, _, Gh.refl, [], rfl, ?_⟩; (refine fitq ?_ ?_ ?_ <;> try exact trivial); (try any_goals (refine ⟨?_, ?_⟩)); (try any_goals (with_reducible rfl))))
    all_goals first | (simp; done) | (simp; omega; done) | (rw [Bool.eq_iff_iff]; simp only [Bool.and_eq_true, decide_eq_true_eq]; omega)
  · have ha : ∀ a ∈ c.args, inB a := by have := hx.1; rwa [List.take_of_length_le (by omega)] at this
    rw [vT ⟨by assumption, by omega, by omega, by omega, by omega, by omega⟩ ha, if_neg (by rw [dataS]; simp_all)]
    (focus (refine ⟨_, _, Gh.refl, [], rfl, ?_⟩; (refine fitq ?_ ?_ ?_ <;> try exact trivial); (try any_goals (refine ⟨?_, ?_⟩)); (try any_goals (with_reducible rfl))))
    all_goals first | (simp; done) | (simp; omega; done) | (rw [Bool.eq_iff_iff]; simp only [Bool.and_eq_true, decide_eq_true_eq]; omega)
  · simp
  · (focus (refine ⟨_, _, Gh.refl, [0, 1], rfl, ?_⟩; (refine fitq ?_ ?_ ?_ <;> try exact trivial); (try any_goals (refine ⟨?_, ?_⟩)); (try any_goals (with_reducible rfl))))
theorem b_rvalid (c : Cmd) (hl : c.args.length ≤ 1099511627776) : DoesK Try.prog 0 89 [.agg [.int .i64 c.src, .int .i64 c.num, .int .i64 c.srv, .ro .int c.args, .ro .byte c.data]] [] (EndF 0 (.bool (validC c)) []) := by
  refine DoesK.close ?_
  have hrl := rowL_len c.srv
  refine w_body (rs := [.tmp 2]) (tm := [.agg [.int .i64 c.src, .int .i64 c.num, .int .i64 c.srv, .ro .int c.args, .ro .byte c.data], .any, .any, .any, .any, .any, .any, .any, .any, .any, .any, .any, .any, .any, .any, .any, .any, .any, .any, .any, .any, .any, .any, .any, .any, .any, .any, .any, .any, .any, .any, .any, .any, .any, .any, .any, .any, .any, .any, .any, .any, .any, .any, .any, .any, .any, .any, .any, .any, .any, .any, .any, .any, .any, .any, .any, .any, .any, .any, .any, .any, .any, .any, .any, .any, .any, .any, .any, .any, .any, .any, .any, .any, .any, .any, .any, .any, .any, .any]) fn_89 rfl rfl rfl rfl fun R hR => ?_
  (all_goals (try ((first | (with_reducible refine wp_id ?_) | (with_reducible refine does_id ?_) | (with_reducible refine ops_id ?_)); refine walk ?_; (repeat' (first | exact trivial | with_reducible refine And.intro ?_ ?_)); all_goals (repeat (first | (with_reducible refine ImpB.mk fun hb => ?_) | (with_reducible refine ImpK.mk fun hK => ?_) | (with_reducible refine ImpF.mk fun hF => ?_) | (with_reducible refine ImpQ.mk fun hp => ?_) | (with_reducible refine AllE.mk fun p => ?_) | (with_reducible refine AllR.mk fun rest => ?_) | (with_reducible refine AllK.mk fun K => ?_))))); repeat' (with_reducible refine And.intro ?_ ?_))
  any_goals ((try (refine w_seq fun K hK => ?_)); (try (refine w_block ?_)); refine w_loop (A := Nat) (fun k => (∀ a ∈ c.args.take k, inB a) ∧ k ≤ c.args.length) (fun k => c.args.length - k) (fun k => [(4, .int .i64 k)]) (fun _ => []) (0) (ws := ?ws2) (tk := ?tk2) ?hw2 ?ht2 ?hi ?h0 ?LH2; (case hw2 => simp only [go_sem, decide_true, decide_false, Int.reduceToNat, Nat.min_eq_left, Nat.min_eq_right, Int.reducePow, Nat.reducePow, Int.reduceLE, Int.reduceLT, Int.reduceMul, Int.reduceAdd, Int.reduceSub, Int.reduceNeg, Bool.not_true, Bool.not_false, Bool.not_not, ↓reduceIte, Nat.reduceAdd, Nat.reduceSub, Nat.reduceMul, Nat.reduceEqDiff, reduceCtorEq, Nat.reduceLT, Nat.reduceLeDiff, Nat.reduceGT]; exact rfl); (case ht2 => simp only [go_sem, decide_true, decide_false, Int.reduceToNat, Nat.min_eq_left, Nat.min_eq_right, Int.reducePow, Nat.reducePow, Int.reduceLE, Int.reduceLT, Int.reduceMul, Int.reduceAdd, Int.reduceSub, Int.reduceNeg, Bool.not_true, Bool.not_false, Bool.not_not, ↓reduceIte, Nat.reduceAdd, Nat.reduceSub, Nat.reduceMul, Nat.reduceEqDiff, reduceCtorEq, Nat.reduceLT, Nat.reduceLeDiff, Nat.reduceGT]; exact rfl); (case' LH2 => rintro k E t hx hE ht; simp only [go_sem] at ht; subst ht; simp only [go_sem]; try dsimp only at hx))
  (all_goals (try ((first | (with_reducible refine wp_id ?_) | (with_reducible refine does_id ?_) | (with_reducible refine ops_id ?_)); refine walk ?_; (repeat' (first | exact trivial | with_reducible refine And.intro ?_ ?_)); all_goals (repeat (first | (with_reducible refine ImpB.mk fun hb => ?_) | (with_reducible refine ImpK.mk fun hK => ?_) | (with_reducible refine ImpF.mk fun hF => ?_) | (with_reducible refine ImpQ.mk fun hp => ?_) | (with_reducible refine AllE.mk fun p => ?_) | (with_reducible refine AllR.mk fun rest => ?_) | (with_reducible refine AllK.mk fun K => ?_))))); repeat' (with_reducible refine And.intro ?_ ?_))
  (all_goals (repeat (first | (clear hK; clear K) | (clear hE; clear E) | (clear hF; clear F) | (clear hR; clear R))); all_goals (try simp only [decide_eq_true_eq, decide_eq_false_iff_not, Bool.not_eq_true', Bool.not_eq_false', Bool.not_eq_true, Bool.not_eq_false, decide_not, decide_true, decide_false, Bool.decide_and, Bool.and_eq_true, Bool.or_eq_true, Bool.and_eq_false_imp, Decidable.not_not] at *); all_goals (try omega); all_goals (try (first | exact u8w_lo _ | exact u8w_hi _ | exact (bits8 _ _ _).1 | exact (bits8 _ _ _).2 | exact Int.natCast_nonneg _ | exact u8_ltI _)))
  · rw [vF1 (by rw [okS_iff]; omega)]
    (focus (refine ⟨_, _, Gh.refl, [], rfl, ?_⟩; (refine fitq ?_ ?_ ?_ <;> try exact trivial); (try any_goals (refine ⟨?_, ?_⟩)); (try any_goals (with_reducible rfl))))
  · rw [vF1 (by unfold argN; omega)]
    (focus (refine ⟨_, _, Gh.refl, [], rfl, ?_⟩; (refine fitq ?_ ?_ ?_ <;> try exact trivial); (try any_goals (refine ⟨?_, ?_⟩)); (try any_goals (with_reducible rfl))))
  · rw [vF1 (by omega)]
    (focus (refine ⟨_, _, Gh.refl, [], rfl, ?_⟩; (refine fitq ?_ ?_ ?_ <;> try exact trivial); (try any_goals (refine ⟨?_, ?_⟩)); (try any_goals (with_reducible rfl))))
  · rw [vF1 (by omega)]
    (focus (refine ⟨_, _, Gh.refl, [], rfl, ?_⟩; (refine fitq ?_ ?_ ?_ <;> try exact trivial); (try any_goals (refine ⟨?_, ?_⟩)); (try any_goals (with_reducible rfl))))
  · rw [vF1 (by omega)]
    (focus (refine ⟨_, _, Gh.refl, [], rfl, ?_⟩; (refine fitq ?_ ?_ ?_ <;> try exact trivial); (try any_goals (refine ⟨?_, ?_⟩)); (try any_goals (with_reducible rfl))))
  · rw [vF1 (by omega)]
    (focus (refine ⟨_, _, Gh.refl, [], rfl, ?_⟩; (refine fitq ?_ ?_ ?_ <;> try exact trivial); (try any_goals (refine ⟨?_, ?_⟩)); (try any_goals (with_reducible rfl))))
  · rw [vF2 (k := k) (by omega) (by unfold inB; omega)]
    (focus (refine ⟨_, _, Gh.refl, [], rfl, ?_⟩; (refine fitq ?_ ?_ ?_ <;> try exact trivial); (try any_goals (refine ⟨?_, ?_⟩)); (try any_goals (with_reducible rfl))))
  · rw [vF2 (k := k) (by omega) (by unfold inB; omega)]
    (focus (refine ⟨_, _, Gh.refl, [], rfl, ?_⟩; (refine fitq ?_ ?_ ?_ <;> try exact trivial); (try any_goals (refine ⟨?_, ?_⟩)); (try any_goals (with_reducible rfl))))
  · refine ⟨k + 1, ⟨⟨take_all hx.1 (by omega) ⟨by omega, by omega⟩, by first | omega | (dsimp only; omega)⟩, by first | omega | (dsimp only; omega)⟩, ?_⟩
    (focus (refine ⟨_, _, Gh.refl, [0], rfl, ?_⟩; (refine fitq ?_ ?_ ?_ <;> try exact trivial); (try any_goals (refine ⟨?_, ?_⟩)); (try any_goals (with_reducible rfl))))
    all_goals (first | with_reducible rfl | omega | ((simp (disch := omega) only [wrap_i64]); first | done | omega) | (simp only [List.append_assoc, List.cons_append, List.nil_append]; done))
  · have ha : ∀ a ∈ c.args, inB a := by have := hx.1; rwa [List.take_of_length_le (by omega)] at this
    rw [vT ⟨okS_t (by omega), by omega, by omega, by omega, by omega, by assumption⟩ ha, if_neg (by rw [dataS, argN]; simp_all)]
    (focus (refine ⟨_, _, Gh.refl, [], rfl, ?_⟩; (refine fitq ?_ ?_ ?_ <;> try exact trivial); (try any_goals (refine ⟨?_, ?_⟩)); (try any_goals (with_reducible rfl))))
    all_goals first | (simp; done) | (simp; omega; done) | (rw [Bool.eq_iff_iff]; simp only [Bool.and_eq_true, decide_eq_true_eq]; omega)
  · have ha : ∀ a ∈ c.args, inB a := by have := hx.1; rwa [List.take_of_length_le (by omega)] at this
    have h1 := argN1 c.srv
    rw [argN] at h1
    rw [vT ⟨okS_t (by omega), by omega, by omega, by omega, by omega, by assumption⟩ ha, if_pos (by rw [dataS, argN]; simp_all)]
    (focus (refine ⟨_, _, Gh.refl, [], rfl, ?_⟩; (refine fitq ?_ ?_ ?_ <;> try exact trivial); (try any_goals (refine ⟨?_, ?_⟩)); (try any_goals (with_reducible rfl))))
    all_goals first | (simp; done) | (simp; omega; done) | (rw [Bool.eq_iff_iff]; simp only [Bool.and_eq_true, decide_eq_true_eq]; omega)
  · have ha : ∀ a ∈ c.args, inB a := by have := hx.1; rwa [List.take_of_length_le (by omega)] at this
    have h1 := argN1 c.srv
    rw [argN] at h1
    rw [vT ⟨okS_t (by omega), by omega, by omega, by omega, by omega, by assumption⟩ ha, if_pos (by rw [dataS, argN]; simp_all)]
    (focus (refine ⟨_, _, Gh.refl, [], rfl, ?_⟩; (refine fitq ?_ ?_ ?_ <;> try exact trivial); (try any_goals (refine ⟨?_, ?_⟩)); (try any_goals (with_reducible rfl))))
    all_goals first | (simp; done) | (simp; omega; done) | (rw [Bool.eq_iff_iff]; simp only [Bool.and_eq_true, decide_eq_true_eq]; omega)
  · simp
  · (focus (refine ⟨_, _, Gh.refl, [0], rfl, ?_⟩; (refine fitq ?_ ?_ ?_ <;> try exact trivial); (try any_goals (refine ⟨?_, ?_⟩)); (try any_goals (with_reducible rfl))))
theorem br_cmd {h : List Ch} {x y z : Int} {args : List Int} {data : List UInt8} {a d : AV} (b1 : brA [] h (.ro .int args) a) (b2 : brA [] h (.ro .byte data) d) : brL [] h [.agg [.int .i64 x, .int .i64 y, .int .i64 z, .ro .int args, .ro .byte data]] [.agg [.int .i64 x, .int .i64 y, .int .i64 z, a, d]] :=
  br_cons (br_agg (br_cons br_int (br_cons br_int (br_cons br_int (br_cons b1 (br_cons b2 br_nil)))))) br_nil
theorem c_valid {h : List Ch} {K : KT} {x y z : Int} {args : List Int} {data : List UInt8} {a d : AV} (H : K (.bool (validC ⟨x, y, z, args, data⟩)) h) (b1 : brA [] h (.ro .int args) a) (b2 : brA [] h (.ro .byte data) d) (s1 : args.length ≤ 1099511627776) : Does Try.prog 62 [.agg [.int .i64 x, .int .i64 y, .int .i64 z, a, d]] h K :=
  frame_pure (b_valid ⟨x, y, z, args, data⟩ s1) (br_cmd b1 b2) (.inr rfl) (fun _ => rfl) H
abbrev i_valid := Ctr.mk (i := 0) (g := 62) @c_valid
attribute [instance] i_valid
theorem c_rvalid {h : List Ch} {K : KT} {x y z : Int} {args : List Int} {data : List UInt8} {a d : AV} (H : K (.bool (validC ⟨x, y, z, args, data⟩)) h) (b1 : brA [] h (.ro .int args) a) (b2 : brA [] h (.ro .byte data) d) (s1 : args.length ≤ 1099511627776) : Does Try.prog 89 [.agg [.int .i64 x, .int .i64 y, .int .i64 z, a, d]] h K :=
  frame_pure (b_rvalid ⟨x, y, z, args, data⟩ s1) (br_cmd b1 b2) (.inr rfl) (fun _ => rfl) H
abbrev i_rvalid := Ctr.mk (i := 0) (g := 89) @c_rvalid
attribute [instance] i_rvalid
end Go.V
