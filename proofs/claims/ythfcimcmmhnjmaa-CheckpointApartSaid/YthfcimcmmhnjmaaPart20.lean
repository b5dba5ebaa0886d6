/-
  ref48: Encode.
  checkpoint: Decode.
  checkpoint: Decode, of what is no encoding.
-/
import Derived.Test.YthfcimcmmhnjmaaPart19
import Derived.Test.YthfcimcmmhnjmaaPart17
set_option linter.unusedVariables false
set_option linter.unusedSimpArgs false
set_option maxRecDepth 100000
set_option maxHeartbeats 1000000
namespace Go.V
open Go.Proofs
attribute [-go_sem] Wr
theorem be1 {n : Nat} (h : n < 256) : be n 1 = [UInt8.ofNat n] := by
  show [UInt8.ofNat (n / 256 ^ 0 % 256)] = _
  rw [show n / 256 ^ 0 % 256 = n from by omega]
theorem b_fenc (c : Ck) (hs : CkS c) (hv : ckV c = true) : DoesK Try.prog 0 12 [.agg (ckL c)] [] (EndF 0 (.sl 0 .byte 0 (encK c).length) [.rows .byte (encK c)]) := by
  refine DoesK.close ?_
  obtain ⟨hB, hS, hF, hN, hL, hc⟩ := (ckV_iff c).1 hv
  have hl := ledV_len hL
  have he := encE_len hc
  have hB' := hB
  unfold ckB at hB'
  have h1 := encI_le c.boots (by constructor <;> omega)
  have h2 := encI_le c.time (by constructor <;> omega)
  have h3 := encI_le c.led.length (by constructor <;> omega)
  have h4 := encI_le (encE c.ents).length (by constructor <;> omega)
  have h5 := encI_le c.sides.length (by constructor <;> omega)
  have h6 := encI_le c.done.length (by constructor <;> omega)
  have h7 := encI_le c.next (by constructor <;> omega)
  have i1 : I64 c.boots := by constructor <;> omega
  have i2 : I64 c.time := by constructor <;> omega
  have i3 : I64 (c.sides.length : Int) := by constructor <;> omega
  have i4 : I64 (c.done.length : Int) := by constructor <;> omega
  have i5 : I64 c.next := by constructor <;> omega
  have w1 : IntKind.u8.wrap c.mode = (c.mode.toNat : Int) := by rw [wrap_u8]; omega
  have hh := headK_len hv
  have hz := hs.lit
  have hbm : be c.mode.toNat 1 = [UInt8.ofNat c.mode.toNat] := be1 (by omega)
  have tk1 : ∀ bs : List UInt8, (encI bs.length ++ bs).take ((encI bs.length).length + bs.length) = encI bs.length ++ bs := fun bs => List.take_of_length_le (by rw [List.length_append]; exact Nat.le_refl _)
  refine w_body (rs := [.tmp 2]) (tm := [.agg (ckL c), .any, .any, .any, .any, .any, .any, .any, .any, .any, .any, .any, .any, .any, .any, .any, .any, .any, .any, .any, .any, .any, .any, .any, .any, .any, .any, .any, .any, .any, .any, .any, .any, .any, .any, .any, .any, .any, .any, .any, .any, .any, .any, .any, .any, .any, .any, .any, .any, .any, .any, .any, .any, .any, .any, .any, .any, .any, .any, .any, .any, .any, .any, .any, .any, .any, .any, .any, .any, .any, .any, .any, .any, .any, .any, .any, .any, .any, .any, .any, .any, .any, .any, .any, .any, .any, .any, .any, .any, .any, .any, .any, .any, .any, .any, .any]) fn_12 rfl rfl rfl rfl fun R hR => ?_
  (have zx1 := @hc; have zx2 := @w1; have zx3 := @tk1; all_goals (try ((first | (with_reducible refine wp_id ?_) | (with_reducible refine does_id ?_)); refine walk ?_; (repeat' (first | exact trivial | with_reducible refine And.intro ?_ ?_)); all_goals (repeat (first | (with_reducible refine ImpB.mk fun hb => ?_) | (with_reducible refine ImpK.mk fun hK => ?_) | (with_reducible refine ImpF.mk fun hF => ?_) | (with_reducible refine AllK.mk fun K => ?_))))); repeat' (with_reducible refine And.intro ?_ ?_))
  all_goals first | exact Int.natCast_nonneg _ | omega | (simp only [List.length_append, be_len, List.length_cons, List.length_nil]; omega) | skip
  have hhd : encI c.boots ++ [UInt8.ofNat c.mode.toNat] ++ encI c.time ++ (encI c.led.length ++ c.led) ++ (encI (encE c.ents).length ++ encE c.ents) ++ encI c.sides.length = headK c := by
    unfold headK
    rw [hbm]
    simp only [List.append_assoc]
  have hhl : (encI c.boots).length + 1 + (encI c.time).length + ((encI c.led.length).length + c.led.length) + ((encI (encE c.ents).length).length + (encE c.ents).length) + (encI c.sides.length).length = (headK c).length := by
    rw [← hhd]
    simp only [List.length_append, List.length_cons, List.length_nil]
  rw [hhd, hhl]
  any_goals (refine w_loop (A := Nat) (fun k => k ≤ c.sides.length) (fun k => c.sides.length - k) (fun k => [(3, .sl 11 .byte 0 (headK c ++ (c.sides.take k).flatMap sideE).length), (6, .int .i64 k), (41, .any)]) (fun k => [(11, .rows .byte (headK c ++ (c.sides.take k).flatMap sideE))]) (0) (ws := ?ws1) (tk := ?tk1) ?hw1 ?ht1 ?hi ?h0 ?LH1; (case hw1 => simp only [go_sem, Int.reduceToNat, Nat.min_eq_left, Nat.min_eq_right, Int.reducePow, Nat.reducePow, Int.reduceLE, Int.reduceLT, Int.reduceMul, Int.reduceAdd, Int.reduceSub, Int.reduceNeg, Bool.not_true, Bool.not_false, Bool.not_not, ↓reduceIte, Nat.reduceAdd, Nat.reduceSub, Nat.reduceMul, Nat.reduceEqDiff, reduceCtorEq, Nat.reduceLT, Nat.reduceLeDiff, Nat.reduceGT]; exact rfl); (case ht1 => simp only [go_sem, Int.reduceToNat, Nat.min_eq_left, Nat.min_eq_right, Int.reducePow, Nat.reducePow, Int.reduceLE, Int.reduceLT, Int.reduceMul, Int.reduceAdd, Int.reduceSub, Int.reduceNeg, Bool.not_true, Bool.not_false, Bool.not_not, ↓reduceIte, Nat.reduceAdd, Nat.reduceSub, Nat.reduceMul, Nat.reduceEqDiff, reduceCtorEq, Nat.reduceLT, Nat.reduceLeDiff, Nat.reduceGT]; exact rfl); (case' LH1 => rintro k E t hx hE ht; simp only [go_sem] at ht; subst ht; simp only [go_sem]; try dsimp only at hx))
  case hi => exact Nat.zero_le _
  case h0 =>
    (focus (refine ⟨_, _, Gh.refl, [0, 1, 2, 3, 4, 5, 6, 7, 8, 9, 10, 11], rfl, ?_⟩; (refine ⟨?_, ?_, ?_⟩ <;> simp only [go_sem, List.range, List.range.loop, List.nodup_cons, List.nodup_nil, List.mem_cons, List.not_mem_nil, or_false, or_self, Int.reduceToNat, Nat.min_eq_left, Nat.min_eq_right, Int.reducePow, Nat.reducePow, Int.reduceLE, Int.reduceLT, Int.reduceMul, Int.reduceAdd, Int.reduceSub, Int.reduceNeg, Bool.not_true, Bool.not_false, Bool.not_not, ↓reduceIte, Nat.reduceAdd, Nat.reduceSub, Nat.reduceMul, Nat.reduceEqDiff, reduceCtorEq, Nat.reduceLT, Nat.reduceLeDiff, Nat.reduceGT]); (try any_goals (refine ⟨?_, ?_⟩)); (try any_goals (with_reducible rfl))))
    all_goals first | (simp; done) | trace_state
  case LH1 =>
    have hsl := sidesE_len (c.sides.take k)
    rw [List.length_take] at hsl
    by_cases hk : k < c.sides.length
    · have hkd : decide ((k : Int) < c.sides.length) = true := decide_eq_true (by omega)
      have hsk := side_ne (sides_at hS hk)
      have w2 : IntKind.u8.wrap (c.sides.getD k 0) = ((c.sides.getD k 0).toNat : Int) := by rw [wrap_u8]; omega
      (have zx1 := @hkd; have zx2 := @w2; all_goals (try ((first | (with_reducible refine wp_id ?_) | (with_reducible refine does_id ?_)); refine walk ?_; (repeat' (first | exact trivial | with_reducible refine And.intro ?_ ?_)); all_goals (repeat (first | (with_reducible refine ImpB.mk fun hb => ?_) | (with_reducible refine ImpK.mk fun hK => ?_) | (with_reducible refine ImpF.mk fun hF => ?_) | (with_reducible refine AllK.mk fun K => ?_))))); repeat' (with_reducible refine And.intro ?_ ?_))
      all_goals first | exact Int.natCast_nonneg _ | omega | (simp only [List.length_append, be_len]; omega) | skip
      refine ⟨k + 1, ⟨by first | omega | (dsimp only; omega), by first | omega | (dsimp only; omega)⟩, ?m1⟩
      have e1 : (c.sides.take (k + 1)).flatMap sideE = (c.sides.take k).flatMap sideE ++ [UInt8.ofNat (c.sides.getD k 0).toNat] := by
        rw [int_take hk, List.flatMap_append, List.flatMap_singleton]
        unfold sideE
        rw [be1 (by omega)]
      simp only [e1]
      (focus (refine ⟨_, _, Gh.refl, [0, 1, 2, 3, 4, 5, 6, 7, 8, 9, 10, 13], rfl, ?_⟩; (refine ⟨?_, ?_, ?_⟩ <;> simp only [go_sem, List.range, List.range.loop, List.nodup_cons, List.nodup_nil, List.mem_cons, List.not_mem_nil, or_false, or_self, Int.reduceToNat, Nat.min_eq_left, Nat.min_eq_right, Int.reducePow, Nat.reducePow, Int.reduceLE, Int.reduceLT, Int.reduceMul, Int.reduceAdd, Int.reduceSub, Int.reduceNeg, Bool.not_true, Bool.not_false, Bool.not_not, ↓reduceIte, Nat.reduceAdd, Nat.reduceSub, Nat.reduceMul, Nat.reduceEqDiff, reduceCtorEq, Nat.reduceLT, Nat.reduceLeDiff, Nat.reduceGT]); (try any_goals (refine ⟨?_, ?_⟩)); (try any_goals (with_reducible rfl))))
      all_goals first | (first | with_reducible rfl | omega | ((simp (disch := omega) only [wrap_i64]); first | done | omega) | (simp only [List.append_assoc, List.cons_append, List.nil_append]; done)) | (simp only [List.length_append, List.length_cons, List.length_nil]; omega) | (rw [List.append_assoc]; done) | skip
    · have hkd : decide ((k : Int) < c.sides.length) = false := decide_eq_false (by omega)
      rw [List.take_of_length_le (by omega)] at hsl ⊢
      have hsl2 := sidesE_len c.sides
      clear hx
      (have zx1 := @hkd; all_goals (try ((first | (with_reducible refine wp_id ?_) | (with_reducible refine does_id ?_)); refine walk ?_; (repeat' (first | exact trivial | with_reducible refine And.intro ?_ ?_)); all_goals (repeat (first | (with_reducible refine ImpB.mk fun hb => ?_) | (with_reducible refine ImpK.mk fun hK => ?_) | (with_reducible refine ImpF.mk fun hF => ?_) | (with_reducible refine AllK.mk fun K => ?_))))); repeat' (with_reducible refine And.intro ?_ ?_))
      all_goals first | exact Nat.le_refl _ | omega | skip
      rw [show (headK c).length + (c.sides.flatMap sideE).length + (encI c.done.length).length = (headK c ++ c.sides.flatMap sideE ++ encI c.done.length).length from by simp only [List.length_append]]
      any_goals (refine w_loop (A := Nat) (fun i => i ≤ c.done.length) (fun i => c.done.length - i) (fun i => [(3, .sl 13 .byte 0 (headK c ++ c.sides.flatMap sideE ++ encI c.done.length ++ (c.done.take i).flatMap fidE).length), (7, .int .i64 i), (63, .any)]) (fun i => [(13, .rows .byte (headK c ++ c.sides.flatMap sideE ++ encI c.done.length ++ (c.done.take i).flatMap fidE))]) (0) (ws := ?ws2) (tk := ?tk2) ?hw2 ?ht2 ?hi_1 ?h0_1 ?LH2; (case hw2 => simp only [go_sem, Int.reduceToNat, Nat.min_eq_left, Nat.min_eq_right, Int.reducePow, Nat.reducePow, Int.reduceLE, Int.reduceLT, Int.reduceMul, Int.reduceAdd, Int.reduceSub, Int.reduceNeg, Bool.not_true, Bool.not_false, Bool.not_not, ↓reduceIte, Nat.reduceAdd, Nat.reduceSub, Nat.reduceMul, Nat.reduceEqDiff, reduceCtorEq, Nat.reduceLT, Nat.reduceLeDiff, Nat.reduceGT]; exact rfl); (case ht2 => simp only [go_sem, Int.reduceToNat, Nat.min_eq_left, Nat.min_eq_right, Int.reducePow, Nat.reducePow, Int.reduceLE, Int.reduceLT, Int.reduceMul, Int.reduceAdd, Int.reduceSub, Int.reduceNeg, Bool.not_true, Bool.not_false, Bool.not_not, ↓reduceIte, Nat.reduceAdd, Nat.reduceSub, Nat.reduceMul, Nat.reduceEqDiff, reduceCtorEq, Nat.reduceLT, Nat.reduceLeDiff, Nat.reduceGT]; exact rfl); (case' LH2 => rintro i E t hx hE ht; simp only [go_sem] at ht; subst ht; simp only [go_sem]; try dsimp only at hx))
      case hi_1 => exact Nat.zero_le _
      case h0_1 =>
        (focus (refine ⟨_, _, Gh.refl, [0, 1, 2, 3, 4, 5, 6, 7, 8, 9, 10, 11, 12, 13], rfl, ?_⟩; (refine ⟨?_, ?_, ?_⟩ <;> simp only [go_sem, List.range, List.range.loop, List.nodup_cons, List.nodup_nil, List.mem_cons, List.not_mem_nil, or_false, or_self, Int.reduceToNat, Nat.min_eq_left, Nat.min_eq_right, Int.reducePow, Nat.reducePow, Int.reduceLE, Int.reduceLT, Int.reduceMul, Int.reduceAdd, Int.reduceSub, Int.reduceNeg, Bool.not_true, Bool.not_false, Bool.not_not, ↓reduceIte, Nat.reduceAdd, Nat.reduceSub, Nat.reduceMul, Nat.reduceEqDiff, reduceCtorEq, Nat.reduceLT, Nat.reduceLeDiff, Nat.reduceGT]); (try any_goals (refine ⟨?_, ?_⟩)); (try any_goals (with_reducible rfl))))
        all_goals first | (simp; done) | trace_state
      case LH2 =>
        have hfl := fidsE_len (c.done.take i)
        rw [List.length_take] at hfl
        by_cases hi : i < c.done.length
        · have hid : decide ((i : Int) < c.done.length) = true := decide_eq_true (by omega)
          have hfi := fids_at hF hi
          have w3 : IntKind.u8.wrap (c.done.getD i Fid.zero).src = ((c.done.getD i Fid.zero).src.toNat : Int) := by rw [wrap_u8]; omega
          have w4 : IntKind.u64.wrap (c.done.getD i Fid.zero).num = ((c.done.getD i Fid.zero).num.toNat : Int) := by rw [wrap_u64]; omega
          (have zx1 := @hid; have zx2 := @w3; have zx3 := @w4; all_goals (try ((first | (with_reducible refine wp_id ?_) | (with_reducible refine does_id ?_)); refine walk ?_; (repeat' (first | exact trivial | with_reducible refine And.intro ?_ ?_)); all_goals (repeat (first | (with_reducible refine ImpB.mk fun hb => ?_) | (with_reducible refine ImpK.mk fun hK => ?_) | (with_reducible refine ImpF.mk fun hF => ?_) | (with_reducible refine AllK.mk fun K => ?_))))); repeat' (with_reducible refine And.intro ?_ ?_))
          all_goals first | exact Int.natCast_nonneg _ | omega | (simp only [List.length_append, be_len]; omega) | skip
          refine ⟨i + 1, ⟨by first | omega | (dsimp only; omega), by first | omega | (dsimp only; omega)⟩, ?m2⟩
          have e1 : (c.done.take (i + 1)).flatMap fidE = (c.done.take i).flatMap fidE ++ ([UInt8.ofNat (c.done.getD i Fid.zero).src.toNat] ++ be (c.done.getD i Fid.zero).num.toNat 2) := by
            rw [fid_take hi, List.flatMap_append, List.flatMap_singleton]
            unfold fidE
            rw [be1 (n := (c.done.getD i Fid.zero).src.toNat) (by omega)]
          have tk2 : (be (c.done.getD i Fid.zero).num.toNat 2).take 2 = be (c.done.getD i Fid.zero).num.toNat 2 := List.take_of_length_le (by rw [be_len]; exact Nat.le_refl _)
          simp only [e1]
          (focus (refine ⟨_, _, Gh.refl, [0, 1, 2, 3, 4, 5, 6, 7, 8, 9, 10, 11, 12, 17], rfl, ?_⟩; (refine ⟨?_, ?_, ?_⟩ <;> simp only [go_sem, List.range, List.range.loop, List.nodup_cons, List.nodup_nil, List.mem_cons, List.not_mem_nil, or_false, or_self, Int.reduceToNat, Nat.min_eq_left, Nat.min_eq_right, Int.reducePow, Nat.reducePow, Int.reduceLE, Int.reduceLT, Int.reduceMul, Int.reduceAdd, Int.reduceSub, Int.reduceNeg, Bool.not_true, Bool.not_false, Bool.not_not, ↓reduceIte, Nat.reduceAdd, Nat.reduceSub, Nat.reduceMul, Nat.reduceEqDiff, reduceCtorEq, Nat.reduceLT, Nat.reduceLeDiff, Nat.reduceGT]); (try any_goals (refine ⟨?_, ?_⟩)); (try any_goals (with_reducible rfl))))
          all_goals first | (first | with_reducible rfl | omega | ((simp (disch := omega) only [wrap_i64]); first | done | omega) | (simp only [List.append_assoc, List.cons_append, List.nil_append]; done)) | (simp only [List.length_append, List.length_cons, List.length_nil, be_len]; omega) | (simp only [List.append_assoc, List.cons_append, List.nil_append, tk2]; done) | trace_state
        · have hid : decide ((i : Int) < c.done.length) = false := decide_eq_false (by omega)
          rw [List.take_of_length_le (by omega)] at hfl ⊢
          (have zx1 := @hid; all_goals (try ((first | (with_reducible refine wp_id ?_) | (with_reducible refine does_id ?_)); refine walk ?_; (repeat' (first | exact trivial | with_reducible refine And.intro ?_ ?_)); all_goals (repeat (first | (with_reducible refine ImpB.mk fun hb => ?_) | (with_reducible refine ImpK.mk fun hK => ?_) | (with_reducible refine ImpF.mk fun hF => ?_) | (with_reducible refine AllK.mk fun K => ?_))))); repeat' (with_reducible refine And.intro ?_ ?_))
          all_goals first | exact Int.natCast_nonneg _ | exact Nat.le_refl _ | omega | (simp only [List.length_append, be_len]; omega) | skip
          unfold encK
          (focus (refine ⟨_, _, Gh.refl, [15], rfl, ?_⟩; (refine ⟨?_, ?_, ?_⟩ <;> simp only [go_sem, List.range, List.range.loop, List.nodup_cons, List.nodup_nil, List.mem_cons, List.not_mem_nil, or_false, or_self, Int.reduceToNat, Nat.min_eq_left, Nat.min_eq_right, Int.reducePow, Nat.reducePow, Int.reduceLE, Int.reduceLT, Int.reduceMul, Int.reduceAdd, Int.reduceSub, Int.reduceNeg, Bool.not_true, Bool.not_false, Bool.not_not, ↓reduceIte, Nat.reduceAdd, Nat.reduceSub, Nat.reduceMul, Nat.reduceEqDiff, reduceCtorEq, Nat.reduceLT, Nat.reduceLeDiff, Nat.reduceGT]); (try any_goals (refine ⟨?_, ?_⟩)); (try any_goals (with_reducible rfl))))
          all_goals first | (simp only [List.length_append, List.length_cons, List.length_nil, be_len]; done) | (simp only [List.length_append, List.length_cons, List.length_nil, be_len]; omega) | (rw [List.take_of_length_le (Nat.le_refl _)]; done) | trace_state
theorem c_fenc {h : List Ch} {K : KT} {n1 n2 n3 n4 : Int} {led : List UInt8} {ents : List Ent} {sides : List Int} {done : List Fid} {d1 d2 d3 d4 : AV} (H : K (.sl h.length .byte 0 (encK ⟨n1, n2, n3, led, ents, sides, done, n4⟩).length) (h ++ [.rows .byte (encK ⟨n1, n2, n3, led, ents, sides, done, n4⟩)])) (b1 : brA [] h (.ro .byte led) d1) (b2 : brA [] h (.ro .ent ents) d2) (b3 : brA [] h (.ro .int sides) d3) (b4 : brA [] h (.ro .fid done) d4) (e1 : ckV ⟨n1, n2, n3, led, ents, sides, done, n4⟩ = true) (s1 : CkS ⟨n1, n2, n3, led, ents, sides, done, n4⟩) : Does Try.prog 12 [.agg [.int .i64 n1, .int .i64 n2, .int .i64 n3, d1, d2, d3, d4, .int .i64 n4]] h K :=
  frame_new (ret' := .sl h.length .byte 0 (encK ⟨n1, n2, n3, led, ents, sides, done, n4⟩).length) (b_fenc ⟨n1, n2, n3, led, ents, sides, done, n4⟩ s1 e1) (br_ck ⟨n1, n2, n3, led, ents, sides, done, n4⟩ b1 b2 b3 b4) (.inr rfl) (fun _ => rfl) rfl H
abbrev i_fenc := Ctr.mk (i := 0) (g := 12) @c_fenc
attribute [instance] i_fenc
end Go.V

set_option maxRecDepth 100000
set_option maxHeartbeats 1000000
namespace Go.V
open Go.Proofs
attribute [-go_sem] Wr
attribute [local go_sem] sdecA
theorem int_drop {l : List Int} {k : Nat} (hk : k < l.length) : l.drop k = l.getD k 0 :: l.drop (k + 1) := by
  rw [List.drop_eq_getElem_cons hk, List.getD_eq_getElem?_getD, List.getElem?_eq_getElem hk]
  rfl
theorem fid_drop {l : List Fid} {k : Nat} (hk : k < l.length) : l.drop k = l.getD k Fid.zero :: l.drop (k + 1) := by
  rw [List.drop_eq_getElem_cons hk, List.getD_eq_getElem?_getD, List.getElem?_eq_getElem hk]
  rfl
theorem b_cdecT (c : Ck) (hs : CkS c) (hv : ckV c = true) (hb : (encK c).length ≤ 1000000) : DoesK Try.prog 0 13 [.ro .byte (encK c)] [] (EndF 0 (.tup [.agg (ckL c), .int .i64 0]) []) := by
  refine DoesK.close ?_
  obtain ⟨r1, r2, r3, r4, r5, r6, r7, r8, r9, p⟩ := rdK hv []
  rw [List.append_nil] at p
  obtain ⟨hB, hS, hF, hN, hL, hc⟩ := (ckV_iff c).1 hv
  have hlen := p.len
  have he := encE_len hc
  have hv' : ckV ⟨c.boots, c.mode, c.time, c.led, c.ents, c.sides, c.done, c.next⟩ = true := hv
  have hs' : CkS ⟨c.boots, c.mode, c.time, c.led, c.ents, c.sides, c.done, c.next⟩ := hs
  have heta : (⟨c.boots, c.mode, c.time, c.led, c.ents, c.sides, c.done, c.next⟩ : Ck) = c := rfl
  have e1 := p.e1
  have e2 := p.e2
  have e3 := p.e3
  have e4 := p.e4 1048576 (by decide)
  have e5 := p.e5 1048576 (by omega)
  have e6 := p.e6
  have e8 := p.e8
  have e10 := p.e10
  have hd : decE (encE c.ents) = some c.ents := decE_iff.2 ⟨hc, rfl⟩
  have hB' := hB
  unfold ckB at hB'
  have w1 : IntKind.i64.wrap (c.mode.toNat : Int) = c.mode := by rw [wrap_i64 _ (by omega) (by omega)]; omega
  have lr : ∀ x : List UInt8, lenR (some x) = x.length := fun _ => rfl
  have l0 : lenR (some (encK c)) ≤ 1099511627776 := by rw [lr]; omega
  have l1 : lenR (some r1) ≤ 1099511627776 := by rw [lr]; omega
  have l2 : lenR (some r2) ≤ 1099511627776 := by rw [lr]; omega
  have l3 : lenR (some r3) ≤ 1099511627776 := by rw [lr]; omega
  have l4 : lenR (some r4) ≤ 1099511627776 := by rw [lr]; omega
  have l5 : lenR (some r5) ≤ 1099511627776 := by rw [lr]; omega
  have l7 : lenR (some r7) ≤ 1099511627776 := by rw [lr]; omega
  have l9 : lenR (some r9) ≤ 1099511627776 := by rw [lr]; omega
  have hbe : (encE c.ents).length ≤ 1000000 := by omega
  have hbl : (encK c).length ≤ 1099511627776 := by omega
  refine w_body (rs := [.cell 2 27, .tmp 3]) (tm := [.ro .byte (encK c), .any, .any, .any, .any, .any, .any, .any, .any, .any, .any, .any, .any, .any, .any, .any, .any, .any, .any, .any, .any, .any, .any, .any, .any, .any, .any, .any, .any, .any, .any, .any, .any, .any, .any, .any, .any, .any, .any, .any, .any, .any, .any, .any, .any, .any, .any, .any, .any, .any, .any, .any, .any, .any, .any, .any, .any, .any, .any, .any, .any, .any, .any, .any, .any, .any, .any, .any, .any, .any, .any, .any, .any, .any, .any, .any, .any, .any, .any, .any, .any, .any, .any, .any, .any, .any]) fn_13 rfl rfl rfl rfl fun R hR => ?_
  (have zx1 := @w1; have zx2 := @hd; all_goals (try ((first | (with_reducible refine wp_id ?_) | (with_reducible refine does_id ?_)); refine walk ?_; (repeat' (first | exact trivial | with_reducible refine And.intro ?_ ?_)); all_goals (repeat (first | (with_reducible refine ImpB.mk fun hb => ?_) | (with_reducible refine ImpK.mk fun hK => ?_) | (with_reducible refine ImpF.mk fun hF => ?_) | (with_reducible refine AllK.mk fun K => ?_))))); repeat' (with_reducible refine And.intro ?_ ?_))
  · exfalso; simp at hb
  refine Wp.ghost (gh_adoptC (t := 2) (i := 5) (vs := [.int .i64 c.boots, .int .i64 c.mode, .int .i64 c.time, .ro .byte c.led, .ro .ent c.ents, .lit (.slice none 0 0), .lit (.slice none 0 0), .int .i64 0]) .int rfl trivial) ?_
  refine Wp.ghost (gh_adoptC (t := 2) (i := 6) (vs := [.int .i64 c.boots, .int .i64 c.mode, .int .i64 c.time, .ro .byte c.led, .ro .ent c.ents, .sl 3 .int 0 0, .lit (.slice none 0 0), .int .i64 0]) .fid rfl trivial) ?_
  rw [p.e7]
  any_goals (refine w_loop (A := Nat) (fun k => k ≤ c.sides.length) (fun k => c.sides.length - k) (fun k => [(35, .int .i64 k), (25, .any)]) (fun k => [(1, .pack (Rd (some ((c.sides.drop k).flatMap sideE ++ r7)))), (2, .cells [.int .i64 c.boots, .int .i64 c.mode, .int .i64 c.time, .ro .byte c.led, .ro .ent c.ents, .sl 3 .int 0 k, .sl 4 .fid 0 0, .int .i64 0]), (3, .rows .int (c.sides.take k)), (4, .rows .fid [])]) (0) (ws := ?ws1) (tk := ?tk1) ?hw1 ?ht1 ?hi ?h0 ?LH1; (case hw1 => simp only [go_sem, Int.reduceToNat, Nat.min_eq_left, Nat.min_eq_right, Int.reducePow, Nat.reducePow, Int.reduceLE, Int.reduceLT, Int.reduceMul, Int.reduceAdd, Int.reduceSub, Int.reduceNeg, Bool.not_true, Bool.not_false, Bool.not_not, ↓reduceIte, Nat.reduceAdd, Nat.reduceSub, Nat.reduceMul, Nat.reduceEqDiff, reduceCtorEq, Nat.reduceLT, Nat.reduceLeDiff, Nat.reduceGT]; exact rfl); (case ht1 => simp only [go_sem, Int.reduceToNat, Nat.min_eq_left, Nat.min_eq_right, Int.reducePow, Nat.reducePow, Int.reduceLE, Int.reduceLT, Int.reduceMul, Int.reduceAdd, Int.reduceSub, Int.reduceNeg, Bool.not_true, Bool.not_false, Bool.not_not, ↓reduceIte, Nat.reduceAdd, Nat.reduceSub, Nat.reduceMul, Nat.reduceEqDiff, reduceCtorEq, Nat.reduceLT, Nat.reduceLeDiff, Nat.reduceGT]; exact rfl); (case' LH1 => rintro k E t hx hE ht; simp only [go_sem] at ht; subst ht; simp only [go_sem]; try dsimp only at hx))
  case hi => exact Nat.zero_le _
  case h0 =>
    (focus (refine ⟨_, _, Gh.refl, [0, 1, 2, 3, 4], rfl, ?_⟩; (refine ⟨?_, ?_, ?_⟩ <;> simp only [go_sem, List.range, List.range.loop, List.nodup_cons, List.nodup_nil, List.mem_cons, List.not_mem_nil, or_false, or_self, Int.reduceToNat, Nat.min_eq_left, Nat.min_eq_right, Int.reducePow, Nat.reducePow, Int.reduceLE, Int.reduceLT, Int.reduceMul, Int.reduceAdd, Int.reduceSub, Int.reduceNeg, Bool.not_true, Bool.not_false, Bool.not_not, ↓reduceIte, Nat.reduceAdd, Nat.reduceSub, Nat.reduceMul, Nat.reduceEqDiff, reduceCtorEq, Nat.reduceLT, Nat.reduceLeDiff, Nat.reduceGT]); (try any_goals (refine ⟨?_, ?_⟩)); (try any_goals (with_reducible rfl))))
  case LH1 =>
    have htl : (c.sides.take k).length = k := by rw [List.length_take]; omega
    by_cases hk : k < c.sides.length
    · have hkd : decide ((k : Int) < c.sides.length) = true := decide_eq_true (by omega)
      have hsk := sides_at hS hk
      have hsn := side_ne hsk
      have w2 : IntKind.i64.wrap ((c.sides.getD k 0).toNat : Int) = c.sides.getD k 0 := by rw [wrap_i64 _ (by omega) (by omega)]; omega
      have e7 : uintR (some ((c.sides.drop k).flatMap sideE ++ r7)) 1 = ((c.sides.getD k 0).toNat, some ((c.sides.drop (k + 1)).flatMap sideE ++ r7)) := by
        rw [int_drop hk, List.flatMap_cons, List.append_assoc]
        exact sideE_one hsk _
      (have zx1 := @hkd; have zx2 := @w2; have zx3 := @htl; all_goals (try ((first | (with_reducible refine wp_id ?_) | (with_reducible refine does_id ?_)); refine walk ?_; (repeat' (first | exact trivial | with_reducible refine And.intro ?_ ?_)); all_goals (repeat (first | (with_reducible refine ImpB.mk fun hb => ?_) | (with_reducible refine ImpK.mk fun hK => ?_) | (with_reducible refine ImpF.mk fun hF => ?_) | (with_reducible refine AllK.mk fun K => ?_))))); repeat' (with_reducible refine And.intro ?_ ?_))
      all_goals first | exact Int.natCast_nonneg _ | omega | skip
      refine ⟨k + 1, ⟨by first | omega | (dsimp only; omega), by first | omega | (dsimp only; omega)⟩, ?m1⟩
      simp only [int_take hk]
      (focus (refine ⟨_, _, Gh.refl, [0, 1, 2, 6, 4], rfl, ?_⟩; (refine ⟨?_, ?_, ?_⟩ <;> simp only [go_sem, List.range, List.range.loop, List.nodup_cons, List.nodup_nil, List.mem_cons, List.not_mem_nil, or_false, or_self, Int.reduceToNat, Nat.min_eq_left, Nat.min_eq_right, Int.reducePow, Nat.reducePow, Int.reduceLE, Int.reduceLT, Int.reduceMul, Int.reduceAdd, Int.reduceSub, Int.reduceNeg, Bool.not_true, Bool.not_false, Bool.not_not, ↓reduceIte, Nat.reduceAdd, Nat.reduceSub, Nat.reduceMul, Nat.reduceEqDiff, reduceCtorEq, Nat.reduceLT, Nat.reduceLeDiff, Nat.reduceGT]); (try any_goals (refine ⟨?_, ?_⟩)); (try any_goals (with_reducible rfl))))
      all_goals first | (first | with_reducible rfl | omega | ((simp (disch := omega) only [wrap_i64]); first | done | omega) | (simp only [List.append_assoc, List.cons_append, List.nil_append]; done)) | trace_state
    · have hkd : decide ((c.sides.length : Int) < c.sides.length) = false := by simp
      have hk2 : k = c.sides.length := by omega
      rw [hk2, List.drop_length, List.flatMap_nil, List.nil_append, List.take_length]
      clear hx htl
      (have zx1 := @hkd; all_goals (try ((first | (with_reducible refine wp_id ?_) | (with_reducible refine does_id ?_)); refine walk ?_; (repeat' (first | exact trivial | with_reducible refine And.intro ?_ ?_)); all_goals (repeat (first | (with_reducible refine ImpB.mk fun hb => ?_) | (with_reducible refine ImpK.mk fun hK => ?_) | (with_reducible refine ImpF.mk fun hF => ?_) | (with_reducible refine AllK.mk fun K => ?_))))); repeat' (with_reducible refine And.intro ?_ ?_))
      rw [p.e9]
      any_goals (refine w_loop (A := Nat) (fun i => i ≤ c.done.length) (fun i => c.done.length - i) (fun i => [(48, .int .i64 i)]) (fun i => [(1, .pack (Rd (some ((c.done.drop i).flatMap fidE ++ r9)))), (2, .cells [.int .i64 c.boots, .int .i64 c.mode, .int .i64 c.time, .ro .byte c.led, .ro .ent c.ents, .sl 3 .int 0 c.sides.length, .sl 4 .fid 0 i, .int .i64 0]), (3, .rows .int c.sides), (4, .rows .fid (c.done.take i))]) (0) (ws := ?ws2) (tk := ?tk2) ?hw2 ?ht2 ?hi_1 ?h0_1 ?LH2; (case hw2 => simp only [go_sem, Int.reduceToNat, Nat.min_eq_left, Nat.min_eq_right, Int.reducePow, Nat.reducePow, Int.reduceLE, Int.reduceLT, Int.reduceMul, Int.reduceAdd, Int.reduceSub, Int.reduceNeg, Bool.not_true, Bool.not_false, Bool.not_not, ↓reduceIte, Nat.reduceAdd, Nat.reduceSub, Nat.reduceMul, Nat.reduceEqDiff, reduceCtorEq, Nat.reduceLT, Nat.reduceLeDiff, Nat.reduceGT]; exact rfl); (case ht2 => simp only [go_sem, Int.reduceToNat, Nat.min_eq_left, Nat.min_eq_right, Int.reducePow, Nat.reducePow, Int.reduceLE, Int.reduceLT, Int.reduceMul, Int.reduceAdd, Int.reduceSub, Int.reduceNeg, Bool.not_true, Bool.not_false, Bool.not_not, ↓reduceIte, Nat.reduceAdd, Nat.reduceSub, Nat.reduceMul, Nat.reduceEqDiff, reduceCtorEq, Nat.reduceLT, Nat.reduceLeDiff, Nat.reduceGT]; exact rfl); (case' LH2 => rintro i E t hx hE ht; simp only [go_sem] at ht; subst ht; simp only [go_sem]; try dsimp only at hx))
      case hi_1 => exact Nat.zero_le _
      case h0_1 =>
        (focus (refine ⟨_, _, Gh.refl, [0, 1, 2, 3, 4], rfl, ?_⟩; (refine ⟨?_, ?_, ?_⟩ <;> simp only [go_sem, List.range, List.range.loop, List.nodup_cons, List.nodup_nil, List.mem_cons, List.not_mem_nil, or_false, or_self, Int.reduceToNat, Nat.min_eq_left, Nat.min_eq_right, Int.reducePow, Nat.reducePow, Int.reduceLE, Int.reduceLT, Int.reduceMul, Int.reduceAdd, Int.reduceSub, Int.reduceNeg, Bool.not_true, Bool.not_false, Bool.not_not, ↓reduceIte, Nat.reduceAdd, Nat.reduceSub, Nat.reduceMul, Nat.reduceEqDiff, reduceCtorEq, Nat.reduceLT, Nat.reduceLeDiff, Nat.reduceGT]); (try any_goals (refine ⟨?_, ?_⟩)); (try any_goals (with_reducible rfl))))
      case LH2 =>
        have htl : (c.done.take i).length = i := by rw [List.length_take]; omega
        by_cases hi : i < c.done.length
        · have hid : decide ((i : Int) < c.done.length) = true := decide_eq_true (by omega)
          have hfi := fids_at hF hi
          have hfb : fidB (c.done.getD i Fid.zero) = true := by simp only [fidB, Bool.and_eq_true, decide_eq_true_eq]; omega
          have w3 : IntKind.i64.wrap ((c.done.getD i Fid.zero).src.toNat : Int) = (c.done.getD i Fid.zero).src := by rw [wrap_i64 _ (by omega) (by omega)]; omega
          have w4 : IntKind.i64.wrap ((c.done.getD i Fid.zero).num.toNat : Int) = (c.done.getD i Fid.zero).num := by rw [wrap_i64 _ (by omega) (by omega)]; omega
          obtain ⟨f1, f2⟩ := fidE_two hfb ((c.done.drop (i + 1)).flatMap fidE ++ r9)
          rw [← List.append_assoc, show fidE (c.done.getD i Fid.zero) ++ (c.done.drop (i + 1)).flatMap fidE = (c.done.drop i).flatMap fidE from by rw [fid_drop hi, List.flatMap_cons]] at f1
          (have zx1 := @hid; have zx2 := @w3; have zx3 := @w4; have zx4 := @htl; all_goals (try ((first | (with_reducible refine wp_id ?_) | (with_reducible refine does_id ?_)); refine walk ?_; (repeat' (first | exact trivial | with_reducible refine And.intro ?_ ?_)); all_goals (repeat (first | (with_reducible refine ImpB.mk fun hb => ?_) | (with_reducible refine ImpK.mk fun hK => ?_) | (with_reducible refine ImpF.mk fun hF => ?_) | (with_reducible refine AllK.mk fun K => ?_))))); repeat' (with_reducible refine And.intro ?_ ?_))
          all_goals first | exact Int.natCast_nonneg _ | omega | skip
          refine ⟨i + 1, ⟨by first | omega | (dsimp only; omega), by first | omega | (dsimp only; omega)⟩, ?m2⟩
          simp only [fid_take hi]
          (focus (refine ⟨_, _, Gh.refl, [0, 1, 2, 3, 6], rfl, ?_⟩; (refine ⟨?_, ?_, ?_⟩ <;> simp only [go_sem, List.range, List.range.loop, List.nodup_cons, List.nodup_nil, List.mem_cons, List.not_mem_nil, or_false, or_self, Int.reduceToNat, Nat.min_eq_left, Nat.min_eq_right, Int.reducePow, Nat.reducePow, Int.reduceLE, Int.reduceLT, Int.reduceMul, Int.reduceAdd, Int.reduceSub, Int.reduceNeg, Bool.not_true, Bool.not_false, Bool.not_not, ↓reduceIte, Nat.reduceAdd, Nat.reduceSub, Nat.reduceMul, Nat.reduceEqDiff, reduceCtorEq, Nat.reduceLT, Nat.reduceLeDiff, Nat.reduceGT]); (try any_goals (refine ⟨?_, ?_⟩)); (try any_goals (with_reducible rfl))))
          all_goals first | (first | with_reducible rfl | omega | ((simp (disch := omega) only [wrap_i64]); first | done | omega) | (simp only [List.append_assoc, List.cons_append, List.nil_append]; done)) | trace_state
        · have hid : decide ((c.done.length : Int) < c.done.length) = false := by simp
          have hi2 : i = c.done.length := by omega
          rw [hi2, List.drop_length, List.flatMap_nil, List.nil_append, List.take_length]
          clear hx htl
          (have zx1 := @hid; have zx2 := @hv'; have zx3 := @heta; have zx4 := @decide_true; all_goals (try ((first | (with_reducible refine wp_id ?_) | (with_reducible refine does_id ?_)); refine walk ?_; (repeat' (first | exact trivial | with_reducible refine And.intro ?_ ?_)); all_goals (repeat (first | (with_reducible refine ImpB.mk fun hb => ?_) | (with_reducible refine ImpK.mk fun hK => ?_) | (with_reducible refine ImpF.mk fun hF => ?_) | (with_reducible refine AllK.mk fun K => ?_))))); repeat' (with_reducible refine And.intro ?_ ?_))
          · exfalso; simp at hb
          · refine ⟨_, _, (gh_frz (t := 3) (e := .int) (xs := c.sides) rfl ?f1 ?f2).trans (gh_frz (t := 4) (e := .fid) (xs := c.done) rfl ?f3 ?f4), [], rfl, ?ft⟩
            case' ft => (refine ⟨?_, ?_, ?_⟩ <;> simp only [go_sem, List.range, List.range.loop, List.nodup_cons, List.nodup_nil, List.mem_cons, List.not_mem_nil, or_false, or_self, Int.reduceToNat, Nat.min_eq_left, Nat.min_eq_right, Int.reducePow, Nat.reducePow, Int.reduceLE, Int.reduceLT, Int.reduceMul, Int.reduceAdd, Int.reduceSub, Int.reduceNeg, Bool.not_true, Bool.not_false, Bool.not_not, ↓reduceIte, Nat.reduceAdd, Nat.reduceSub, Nat.reduceMul, Nat.reduceEqDiff, reduceCtorEq, Nat.reduceLT, Nat.reduceLeDiff, Nat.reduceGT])
            case' f1 => simp only [go_sem, Int.reduceToNat, Nat.min_eq_left, Nat.min_eq_right, Int.reducePow, Nat.reducePow, Int.reduceLE, Int.reduceLT, Int.reduceMul, Int.reduceAdd, Int.reduceSub, Int.reduceNeg, Bool.not_true, Bool.not_false, Bool.not_not, ↓reduceIte, Nat.reduceAdd, Nat.reduceSub, Nat.reduceMul, Nat.reduceEqDiff, reduceCtorEq, Nat.reduceLT, Nat.reduceLeDiff, Nat.reduceGT]
            case' f2 => simp only [go_sem, Int.reduceToNat, Nat.min_eq_left, Nat.min_eq_right, Int.reducePow, Nat.reducePow, Int.reduceLE, Int.reduceLT, Int.reduceMul, Int.reduceAdd, Int.reduceSub, Int.reduceNeg, Bool.not_true, Bool.not_false, Bool.not_not, ↓reduceIte, Nat.reduceAdd, Nat.reduceSub, Nat.reduceMul, Nat.reduceEqDiff, reduceCtorEq, Nat.reduceLT, Nat.reduceLeDiff, Nat.reduceGT]
            case' f3 => simp only [go_sem, Int.reduceToNat, Nat.min_eq_left, Nat.min_eq_right, Int.reducePow, Nat.reducePow, Int.reduceLE, Int.reduceLT, Int.reduceMul, Int.reduceAdd, Int.reduceSub, Int.reduceNeg, Bool.not_true, Bool.not_false, Bool.not_not, ↓reduceIte, Nat.reduceAdd, Nat.reduceSub, Nat.reduceMul, Nat.reduceEqDiff, reduceCtorEq, Nat.reduceLT, Nat.reduceLeDiff, Nat.reduceGT]
            case' f4 => simp only [go_sem, Int.reduceToNat, Nat.min_eq_left, Nat.min_eq_right, Int.reducePow, Nat.reducePow, Int.reduceLE, Int.reduceLT, Int.reduceMul, Int.reduceAdd, Int.reduceSub, Int.reduceNeg, Bool.not_true, Bool.not_false, Bool.not_not, ↓reduceIte, Nat.reduceAdd, Nat.reduceSub, Nat.reduceMul, Nat.reduceEqDiff, reduceCtorEq, Nat.reduceLT, Nat.reduceLeDiff, Nat.reduceGT]
            all_goals first | exact Nat.le_refl _ | exact ⟨Nat.le_refl _, False.elim⟩
theorem c_cdecT {h : List Ch} {K : KT} {c : Ck} {b : List UInt8} {a : AV} (H : K (.tup [.agg (ckL c), .int .i64 0]) h) (q1 : isRO .byte b a) (e1 : encK c = b ∧ ckV c = true ∧ CkS c) (s1 : b.length ≤ 1000000) : Does Try.prog 13 [a] h K := by
  obtain ⟨rfl, hv, hs⟩ := e1
  exact frame_pure (b_cdecT c hs hv s1) (br_cons q1.br br_nil) (.inl (by rw [brTL, q1.brT]; rfl)) (fun _ => rfl) H
abbrev i_cdecT := Ctr.mk (i := 0) (g := 13) @c_cdecT
attribute [instance] i_cdecT
end Go.V

set_option maxRecDepth 100000
set_option maxHeartbeats 1000000
namespace Go.V
open Go.Proofs
attribute [-go_sem] Wr
attribute [local go_sem] sdecA
/-- no encoding of a checkpoint -/
def noK (b : List UInt8) : Prop := ∀ c, ckV c = true → encK c ≠ b
theorem decE_some {b : List UInt8} {l : List Ent} (h : decE b = some l) : l.length ≤ 256 ∧ litE l := by
  obtain ⟨h1, _⟩ := decE_iff.1 h
  obtain ⟨h2, _, h3⟩ := (chk_iff l 256).1 h1
  refine ⟨by omega, fun x hx => ?_⟩
  rw [List.all_eq_true] at h2
  exact valid_args ((entV_iff x).1 (h2 x hx)).2
theorem b_cdecF (b : List UInt8) (hno : noK b) (hb : b.length ≤ 1000000) : DoesK Try.prog 0 13 [.ro .byte b] [] (EndF 0 (.tup [.agg [.int .i64 0, .int .i64 0, .int .i64 0, .lit (.slice none 0 0), .lit (.slice none 0 0), .lit (.slice none 0 0), .lit (.slice none 0 0), .int .i64 0], .int .i64 4]) []) := by
  refine DoesK.close ?_
  have lb : lenR (some b) = b.length := rfl
  have h1 := intR_len (some b)
  rcases e1 : intR (some b) with ⟨i1, r1⟩
  have h2 := uintR_lenR r1 1
  have hb2 := uintR_bd r1 1
  rcases e2 : uintR r1 1 with ⟨m, r2⟩
  have h3 := intR_len r2
  rcases e3 : intR r2 with ⟨i3, r3⟩
  have h4 := blobR_lens r3 1048576
  rcases e4 : blobR r3 1048576 with ⟨d4, r4⟩
  have h5 := blobR_lens r4 1048576
  rcases e5 : blobR r4 1048576 with ⟨d5, r5⟩
  have h6 := countR_len r5 256
  have h6' := countR_le (r := r5) (m := 256) (by decide)
  rcases e6 : countR r5 256 with ⟨n6, r6⟩
  rw [e1] at h1
  rw [e2] at h2 hb2
  rw [e3] at h3
  rw [e4] at h4
  rw [e5] at h5
  rw [e6] at h6 h6'
  simp only [lb] at h1 h2 h3 h4 h5 h6 hb2 h6'
  have w1 : IntKind.i64.wrap (m : Int) = (m : Int) := by rw [wrap_i64 _ (by omega) (by omega)]
  have l0 : lenR (some b) ≤ 1099511627776 := by rw [lb]; omega
  have l1 : lenR r1 ≤ 1099511627776 := by omega
  have l2 : lenR r2 ≤ 1099511627776 := by omega
  have l3 : lenR r3 ≤ 1099511627776 := by omega
  have l4 : lenR r4 ≤ 1099511627776 := by omega
  have l5 : lenR r5 ≤ 1099511627776 := by omega
  have hbe : d5.length ≤ 1000000 := by omega
  have hbl : b.length ≤ 1099511627776 := by omega
  cases hd : decE d5 with
  | none =>
    refine w_body (rs := [.cell 2 27, .tmp 3]) (tm := [.ro .byte b, .any, .any, .any, .any, .any, .any, .any, .any, .any, .any, .any, .any, .any, .any, .any, .any, .any, .any, .any, .any, .any, .any, .any, .any, .any, .any, .any, .any, .any, .any, .any, .any, .any, .any, .any, .any, .any, .any, .any, .any, .any, .any, .any, .any, .any, .any, .any, .any, .any, .any, .any, .any, .any, .any, .any, .any, .any, .any, .any, .any, .any, .any, .any, .any, .any, .any, .any, .any, .any, .any, .any, .any, .any, .any, .any, .any, .any, .any, .any, .any, .any, .any, .any, .any, .any]) fn_13 rfl rfl rfl rfl fun R hR => ?_
    (have zx1 := @w1; have zx2 := @hd; all_goals (try ((first | (with_reducible refine wp_id ?_) | (with_reducible refine does_id ?_)); refine walk ?_; (repeat' (first | exact trivial | with_reducible refine And.intro ?_ ?_)); all_goals (repeat (first | (with_reducible refine ImpB.mk fun hb => ?_) | (with_reducible refine ImpK.mk fun hK => ?_) | (with_reducible refine ImpF.mk fun hF => ?_) | (with_reducible refine AllK.mk fun K => ?_))))); repeat' (with_reducible refine And.intro ?_ ?_))
    · (focus (refine ⟨_, _, Gh.refl, [], rfl, ?_⟩; (refine ⟨?_, ?_, ?_⟩ <;> simp only [go_sem, List.range, List.range.loop, List.nodup_cons, List.nodup_nil, List.mem_cons, List.not_mem_nil, or_false, or_self, Int.reduceToNat, Nat.min_eq_left, Nat.min_eq_right, Int.reducePow, Nat.reducePow, Int.reduceLE, Int.reduceLT, Int.reduceMul, Int.reduceAdd, Int.reduceSub, Int.reduceNeg, Bool.not_true, Bool.not_false, Bool.not_not, ↓reduceIte, Nat.reduceAdd, Nat.reduceSub, Nat.reduceMul, Nat.reduceEqDiff, reduceCtorEq, Nat.reduceLT, Nat.reduceLeDiff, Nat.reduceGT]); (try any_goals (refine ⟨?_, ?_⟩)); (try any_goals (with_reducible rfl))))
    · exfalso; simp at hb
  | some l =>
    obtain ⟨hl1, hl2⟩ := decE_some hd
    refine w_body (rs := [.cell 2 27, .tmp 3]) (tm := [.ro .byte b, .any, .any, .any, .any, .any, .any, .any, .any, .any, .any, .any, .any, .any, .any, .any, .any, .any, .any, .any, .any, .any, .any, .any, .any, .any, .any, .any, .any, .any, .any, .any, .any, .any, .any, .any, .any, .any, .any, .any, .any, .any, .any, .any, .any, .any, .any, .any, .any, .any, .any, .any, .any, .any, .any, .any, .any, .any, .any, .any, .any, .any, .any, .any, .any, .any, .any, .any, .any, .any, .any, .any, .any, .any, .any, .any, .any, .any, .any, .any, .any, .any, .any, .any, .any, .any]) fn_13 rfl rfl rfl rfl fun R hR => ?_
    (have zx1 := @w1; have zx2 := @hd; all_goals (try ((first | (with_reducible refine wp_id ?_) | (with_reducible refine does_id ?_)); refine walk ?_; (repeat' (first | exact trivial | with_reducible refine And.intro ?_ ?_)); all_goals (repeat (first | (with_reducible refine ImpB.mk fun hb => ?_) | (with_reducible refine ImpK.mk fun hK => ?_) | (with_reducible refine ImpF.mk fun hF => ?_) | (with_reducible refine AllK.mk fun K => ?_))))); repeat' (with_reducible refine And.intro ?_ ?_))
    · exfalso; simp at hb
    refine Wp.ghost (gh_adoptC (t := 2) (i := 5) (vs := [.int .i64 i1, .int .i64 m, .int .i64 i3, .ro .byte d4, .ro .ent l, .lit (.slice none 0 0), .lit (.slice none 0 0), .int .i64 0]) .int rfl trivial) ?_
    refine Wp.ghost (gh_adoptC (t := 2) (i := 6) (vs := [.int .i64 i1, .int .i64 m, .int .i64 i3, .ro .byte d4, .ro .ent l, .sl 3 .int 0 0, .lit (.slice none 0 0), .int .i64 0]) .fid rfl trivial) ?_
    any_goals (refine w_loop (A := List Int × Option (List UInt8)) (fun p => p.1.length ≤ n6.toNat ∧ lenR p.2 ≤ 1000000) (fun p => n6.toNat - p.1.length) (fun p => [(35, .int .i64 p.1.length), (25, .any)]) (fun p => [(1, .pack (Rd p.2)), (2, .cells [.int .i64 i1, .int .i64 m, .int .i64 i3, .ro .byte d4, .ro .ent l, .sl 3 .int 0 p.1.length, .sl 4 .fid 0 0, .int .i64 0]), (3, .rows .int p.1), (4, .rows .fid [])]) (([], r6)) (ws := ?ws1) (tk := ?tk1) ?hw1 ?ht1 ?hi ?h0 ?LH1; (case hw1 => simp only [go_sem, Int.reduceToNat, Nat.min_eq_left, Nat.min_eq_right, Int.reducePow, Nat.reducePow, Int.reduceLE, Int.reduceLT, Int.reduceMul, Int.reduceAdd, Int.reduceSub, Int.reduceNeg, Bool.not_true, Bool.not_false, Bool.not_not, ↓reduceIte, Nat.reduceAdd, Nat.reduceSub, Nat.reduceMul, Nat.reduceEqDiff, reduceCtorEq, Nat.reduceLT, Nat.reduceLeDiff, Nat.reduceGT]; exact rfl); (case ht1 => simp only [go_sem, Int.reduceToNat, Nat.min_eq_left, Nat.min_eq_right, Int.reducePow, Nat.reducePow, Int.reduceLE, Int.reduceLT, Int.reduceMul, Int.reduceAdd, Int.reduceSub, Int.reduceNeg, Bool.not_true, Bool.not_false, Bool.not_not, ↓reduceIte, Nat.reduceAdd, Nat.reduceSub, Nat.reduceMul, Nat.reduceEqDiff, reduceCtorEq, Nat.reduceLT, Nat.reduceLeDiff, Nat.reduceGT]; exact rfl); (case' LH1 => rintro ⟨ys, r⟩ E t hx hE ht; simp only [go_sem] at ht; subst ht; simp only [go_sem]; try dsimp only at hx))
    case hi => exact ⟨Nat.zero_le _, by dsimp only; omega⟩
    case h0 =>
      (focus (refine ⟨_, _, Gh.refl, [0, 1, 2, 3, 4], rfl, ?_⟩; (refine ⟨?_, ?_, ?_⟩ <;> simp only [go_sem, List.range, List.range.loop, List.nodup_cons, List.nodup_nil, List.mem_cons, List.not_mem_nil, or_false, or_self, Int.reduceToNat, Nat.min_eq_left, Nat.min_eq_right, Int.reducePow, Nat.reducePow, Int.reduceLE, Int.reduceLT, Int.reduceMul, Int.reduceAdd, Int.reduceSub, Int.reduceNeg, Bool.not_true, Bool.not_false, Bool.not_not, ↓reduceIte, Nat.reduceAdd, Nat.reduceSub, Nat.reduceMul, Nat.reduceEqDiff, reduceCtorEq, Nat.reduceLT, Nat.reduceLeDiff, Nat.reduceGT]); (try any_goals (refine ⟨?_, ?_⟩)); (try any_goals (with_reducible rfl))))
    case LH1 =>
      by_cases hk : (ys.length : Int) < n6
      · have hkd : decide ((ys.length : Int) < n6) = true := decide_eq_true hk
        have h7 := uintR_lenR r 1
        have h7b := uintR_bd r 1
        rcases e7 : uintR r 1 with ⟨x, q⟩
        rw [e7] at h7 h7b
        simp only at h7 h7b
        have w2 : IntKind.i64.wrap (x : Int) = (x : Int) := by rw [wrap_i64 _ (by omega) (by omega)]
        (have zx1 := @hkd; have zx2 := @w2; all_goals (try ((first | (with_reducible refine wp_id ?_) | (with_reducible refine does_id ?_)); refine walk ?_; (repeat' (first | exact trivial | with_reducible refine And.intro ?_ ?_)); all_goals (repeat (first | (with_reducible refine ImpB.mk fun hb => ?_) | (with_reducible refine ImpK.mk fun hK => ?_) | (with_reducible refine ImpF.mk fun hF => ?_) | (with_reducible refine AllK.mk fun K => ?_))))); repeat' (with_reducible refine And.intro ?_ ?_))
        all_goals first | exact Int.natCast_nonneg _ | omega | skip
        refine ⟨(ys ++ [(x : Int)], q), ⟨⟨by simp only [List.length_append, List.length_cons, List.length_nil]; omega, by dsimp only; omega⟩, by simp only [List.length_append, List.length_cons, List.length_nil]; omega⟩, ?m1⟩
        (focus (refine ⟨_, _, Gh.refl, [0, 1, 2, 6, 4], rfl, ?_⟩; (refine ⟨?_, ?_, ?_⟩ <;> simp only [go_sem, List.range, List.range.loop, List.nodup_cons, List.nodup_nil, List.mem_cons, List.not_mem_nil, or_false, or_self, Int.reduceToNat, Nat.min_eq_left, Nat.min_eq_right, Int.reducePow, Nat.reducePow, Int.reduceLE, Int.reduceLT, Int.reduceMul, Int.reduceAdd, Int.reduceSub, Int.reduceNeg, Bool.not_true, Bool.not_false, Bool.not_not, ↓reduceIte, Nat.reduceAdd, Nat.reduceSub, Nat.reduceMul, Nat.reduceEqDiff, reduceCtorEq, Nat.reduceLT, Nat.reduceLeDiff, Nat.reduceGT]); (try any_goals (refine ⟨?_, ?_⟩)); (try any_goals (with_reducible rfl))))
        all_goals first | (first | with_reducible rfl | omega | ((simp (disch := omega) only [wrap_i64]); first | done | omega) | (simp only [List.append_assoc, List.cons_append, List.nil_append]; done)) | (simp only [List.length_append, List.length_cons, List.length_nil]; first | done | omega | (rw [wrap_i64 _ (by omega) (by omega)]; omega)) | trace_state
      · have hkd : decide ((ys.length : Int) < n6) = false := decide_eq_false hk
        have h8 := countR_len r 256
        have h8' := countR_le (r := r) (m := 256) (by decide)
        rcases e8 : countR r 256 with ⟨n8, r8⟩
        rw [e8] at h8 h8'
        simp only at h8 h8'
        have hrl := hx.2
        have hyl := hx.1
        try simp only at hrl hyl
        have l7 : lenR r ≤ 1099511627776 := by omega
        clear hx
        (have zx1 := @hkd; all_goals (try ((first | (with_reducible refine wp_id ?_) | (with_reducible refine does_id ?_)); refine walk ?_; (repeat' (first | exact trivial | with_reducible refine And.intro ?_ ?_)); all_goals (repeat (first | (with_reducible refine ImpB.mk fun hb => ?_) | (with_reducible refine ImpK.mk fun hK => ?_) | (with_reducible refine ImpF.mk fun hF => ?_) | (with_reducible refine AllK.mk fun K => ?_))))); repeat' (with_reducible refine And.intro ?_ ?_))
        any_goals (refine w_loop (A := List Fid × Option (List UInt8)) (fun p => p.1.length ≤ n8.toNat ∧ lenR p.2 ≤ 1000000) (fun p => n8.toNat - p.1.length) (fun p => [(48, .int .i64 p.1.length)]) (fun p => [(1, .pack (Rd p.2)), (2, .cells [.int .i64 i1, .int .i64 m, .int .i64 i3, .ro .byte d4, .ro .ent l, .sl 3 .int 0 ys.length, .sl 4 .fid 0 p.1.length, .int .i64 0]), (3, .rows .int ys), (4, .rows .fid p.1)]) (([], r8)) (ws := ?ws2) (tk := ?tk2) ?hw2 ?ht2 ?hi_1 ?h0_1 ?LH2; (case hw2 => simp only [go_sem, Int.reduceToNat, Nat.min_eq_left, Nat.min_eq_right, Int.reducePow, Nat.reducePow, Int.reduceLE, Int.reduceLT, Int.reduceMul, Int.reduceAdd, Int.reduceSub, Int.reduceNeg, Bool.not_true, Bool.not_false, Bool.not_not, ↓reduceIte, Nat.reduceAdd, Nat.reduceSub, Nat.reduceMul, Nat.reduceEqDiff, reduceCtorEq, Nat.reduceLT, Nat.reduceLeDiff, Nat.reduceGT]; exact rfl); (case ht2 => simp only [go_sem, Int.reduceToNat, Nat.min_eq_left, Nat.min_eq_right, Int.reducePow, Nat.reducePow, Int.reduceLE, Int.reduceLT, Int.reduceMul, Int.reduceAdd, Int.reduceSub, Int.reduceNeg, Bool.not_true, Bool.not_false, Bool.not_not, ↓reduceIte, Nat.reduceAdd, Nat.reduceSub, Nat.reduceMul, Nat.reduceEqDiff, reduceCtorEq, Nat.reduceLT, Nat.reduceLeDiff, Nat.reduceGT]; exact rfl); (case' LH2 => rintro ⟨fs, r'⟩ E t hx hE ht; simp only [go_sem] at ht; subst ht; simp only [go_sem]; try dsimp only at hx))
        case hi_1 => exact ⟨Nat.zero_le _, by dsimp only; omega⟩
        case h0_1 =>
          (focus (refine ⟨_, _, Gh.refl, [0, 1, 2, 3, 4], rfl, ?_⟩; (refine ⟨?_, ?_, ?_⟩ <;> simp only [go_sem, List.range, List.range.loop, List.nodup_cons, List.nodup_nil, List.mem_cons, List.not_mem_nil, or_false, or_self, Int.reduceToNat, Nat.min_eq_left, Nat.min_eq_right, Int.reducePow, Nat.reducePow, Int.reduceLE, Int.reduceLT, Int.reduceMul, Int.reduceAdd, Int.reduceSub, Int.reduceNeg, Bool.not_true, Bool.not_false, Bool.not_not, ↓reduceIte, Nat.reduceAdd, Nat.reduceSub, Nat.reduceMul, Nat.reduceEqDiff, reduceCtorEq, Nat.reduceLT, Nat.reduceLeDiff, Nat.reduceGT]); (try any_goals (refine ⟨?_, ?_⟩)); (try any_goals (with_reducible rfl))))
        case LH2 =>
          by_cases hi : (fs.length : Int) < n8
          · have hid : decide ((fs.length : Int) < n8) = true := decide_eq_true hi
            have h9 := uintR_lenR r' 1
            have h9b := uintR_bd r' 1
            rcases e9 : uintR r' 1 with ⟨x, q⟩
            have ha := uintR_lenR q 2
            have hab := uintR_bd q 2
            rcases ea : uintR q 2 with ⟨y, q2⟩
            rw [e9] at h9 h9b
            rw [ea] at ha hab
            simp only at h9 h9b ha hab
            have w3 : IntKind.i64.wrap (x : Int) = (x : Int) := by rw [wrap_i64 _ (by omega) (by omega)]
            have w4 : IntKind.i64.wrap (y : Int) = (y : Int) := by rw [wrap_i64 _ (by omega) (by omega)]
            (have zx1 := @hid; have zx2 := @w3; have zx3 := @w4; all_goals (try ((first | (with_reducible refine wp_id ?_) | (with_reducible refine does_id ?_)); refine walk ?_; (repeat' (first | exact trivial | with_reducible refine And.intro ?_ ?_)); all_goals (repeat (first | (with_reducible refine ImpB.mk fun hb => ?_) | (with_reducible refine ImpK.mk fun hK => ?_) | (with_reducible refine ImpF.mk fun hF => ?_) | (with_reducible refine AllK.mk fun K => ?_))))); repeat' (with_reducible refine And.intro ?_ ?_))
            all_goals first | exact Int.natCast_nonneg _ | omega | skip
            refine ⟨(fs ++ [⟨x, y⟩], q2), ⟨⟨by simp only [List.length_append, List.length_cons, List.length_nil]; omega, by dsimp only; omega⟩, by simp only [List.length_append, List.length_cons, List.length_nil]; omega⟩, ?m2⟩
            (focus (refine ⟨_, _, Gh.refl, [0, 1, 2, 3, 6], rfl, ?_⟩; (refine ⟨?_, ?_, ?_⟩ <;> simp only [go_sem, List.range, List.range.loop, List.nodup_cons, List.nodup_nil, List.mem_cons, List.not_mem_nil, or_false, or_self, Int.reduceToNat, Nat.min_eq_left, Nat.min_eq_right, Int.reducePow, Nat.reducePow, Int.reduceLE, Int.reduceLT, Int.reduceMul, Int.reduceAdd, Int.reduceSub, Int.reduceNeg, Bool.not_true, Bool.not_false, Bool.not_not, ↓reduceIte, Nat.reduceAdd, Nat.reduceSub, Nat.reduceMul, Nat.reduceEqDiff, reduceCtorEq, Nat.reduceLT, Nat.reduceLeDiff, Nat.reduceGT]); (try any_goals (refine ⟨?_, ?_⟩)); (try any_goals (with_reducible rfl))))
            all_goals first | (first | with_reducible rfl | omega | ((simp (disch := omega) only [wrap_i64]); first | done | omega) | (simp only [List.append_assoc, List.cons_append, List.nil_append]; done)) | (simp only [List.length_append, List.length_cons, List.length_nil]; first | done | omega | (rw [wrap_i64 _ (by omega) (by omega)]; omega)) | trace_state
          · have hid : decide ((fs.length : Int) < n8) = false := decide_eq_false hi
            have hb0 := intR_len r'
            rcases eb : intR r' with ⟨ib, rb⟩
            have hrl' := hx.2
            have hfl := hx.1
            try simp only at hrl' hfl
            have l9 : lenR r' ≤ 1099511627776 := by omega
            have hcs : CkS ⟨i1, m, i3, d4, l, ys, fs, ib⟩ := ⟨by dsimp only; omega, by dsimp only; omega, hl2, by dsimp only; omega, by dsimp only; omega⟩
            clear hx
            cases hv : ckV ⟨i1, m, i3, d4, l, ys, fs, ib⟩
            · (have zx1 := @hid; have zx2 := @hv; all_goals (try ((first | (with_reducible refine wp_id ?_) | (with_reducible refine does_id ?_)); refine walk ?_; (repeat' (first | exact trivial | with_reducible refine And.intro ?_ ?_)); all_goals (repeat (first | (with_reducible refine ImpB.mk fun hb => ?_) | (with_reducible refine ImpK.mk fun hK => ?_) | (with_reducible refine ImpF.mk fun hF => ?_) | (with_reducible refine AllK.mk fun K => ?_))))); repeat' (with_reducible refine And.intro ?_ ?_))
              · (focus (refine ⟨_, _, Gh.refl, [], rfl, ?_⟩; (refine ⟨?_, ?_, ?_⟩ <;> simp only [go_sem, List.range, List.range.loop, List.nodup_cons, List.nodup_nil, List.mem_cons, List.not_mem_nil, or_false, or_self, Int.reduceToNat, Nat.min_eq_left, Nat.min_eq_right, Int.reducePow, Nat.reducePow, Int.reduceLE, Int.reduceLT, Int.reduceMul, Int.reduceAdd, Int.reduceSub, Int.reduceNeg, Bool.not_true, Bool.not_false, Bool.not_not, ↓reduceIte, Nat.reduceAdd, Nat.reduceSub, Nat.reduceMul, Nat.reduceEqDiff, reduceCtorEq, Nat.reduceLT, Nat.reduceLeDiff, Nat.reduceGT]); (try any_goals (refine ⟨?_, ?_⟩)); (try any_goals (with_reducible rfl))))
              · (focus (refine ⟨_, _, Gh.refl, [], rfl, ?_⟩; (refine ⟨?_, ?_, ?_⟩ <;> simp only [go_sem, List.range, List.range.loop, List.nodup_cons, List.nodup_nil, List.mem_cons, List.not_mem_nil, or_false, or_self, Int.reduceToNat, Nat.min_eq_left, Nat.min_eq_right, Int.reducePow, Nat.reducePow, Int.reduceLE, Int.reduceLT, Int.reduceMul, Int.reduceAdd, Int.reduceSub, Int.reduceNeg, Bool.not_true, Bool.not_false, Bool.not_not, ↓reduceIte, Nat.reduceAdd, Nat.reduceSub, Nat.reduceMul, Nat.reduceEqDiff, reduceCtorEq, Nat.reduceLT, Nat.reduceLeDiff, Nat.reduceGT]); (try any_goals (refine ⟨?_, ?_⟩)); (try any_goals (with_reducible rfl))))
              · (focus (refine ⟨_, _, Gh.refl, [], rfl, ?_⟩; (refine ⟨?_, ?_, ?_⟩ <;> simp only [go_sem, List.range, List.range.loop, List.nodup_cons, List.nodup_nil, List.mem_cons, List.not_mem_nil, or_false, or_self, Int.reduceToNat, Nat.min_eq_left, Nat.min_eq_right, Int.reducePow, Nat.reducePow, Int.reduceLE, Int.reduceLT, Int.reduceMul, Int.reduceAdd, Int.reduceSub, Int.reduceNeg, Bool.not_true, Bool.not_false, Bool.not_not, ↓reduceIte, Nat.reduceAdd, Nat.reduceSub, Nat.reduceMul, Nat.reduceEqDiff, reduceCtorEq, Nat.reduceLT, Nat.reduceLeDiff, Nat.reduceGT]); (try any_goals (refine ⟨?_, ?_⟩)); (try any_goals (with_reducible rfl))))
              · exfalso
                rename_i q
                simp at q
            · have hne : decide (encK ⟨i1, m, i3, d4, l, ys, fs, ib⟩ = b) = false := decide_eq_false (hno _ hv)
              (have zx1 := @hid; have zx2 := @hv; have zx3 := @hne; all_goals (try ((first | (with_reducible refine wp_id ?_) | (with_reducible refine does_id ?_)); refine walk ?_; (repeat' (first | exact trivial | with_reducible refine And.intro ?_ ?_)); all_goals (repeat (first | (with_reducible refine ImpB.mk fun hb => ?_) | (with_reducible refine ImpK.mk fun hK => ?_) | (with_reducible refine ImpF.mk fun hF => ?_) | (with_reducible refine AllK.mk fun K => ?_))))); repeat' (with_reducible refine And.intro ?_ ?_))
              · (focus (refine ⟨_, _, Gh.refl, [], rfl, ?_⟩; (refine ⟨?_, ?_, ?_⟩ <;> simp only [go_sem, List.range, List.range.loop, List.nodup_cons, List.nodup_nil, List.mem_cons, List.not_mem_nil, or_false, or_self, Int.reduceToNat, Nat.min_eq_left, Nat.min_eq_right, Int.reducePow, Nat.reducePow, Int.reduceLE, Int.reduceLT, Int.reduceMul, Int.reduceAdd, Int.reduceSub, Int.reduceNeg, Bool.not_true, Bool.not_false, Bool.not_not, ↓reduceIte, Nat.reduceAdd, Nat.reduceSub, Nat.reduceMul, Nat.reduceEqDiff, reduceCtorEq, Nat.reduceLT, Nat.reduceLeDiff, Nat.reduceGT]); (try any_goals (refine ⟨?_, ?_⟩)); (try any_goals (with_reducible rfl))))
              · (focus (refine ⟨_, _, Gh.refl, [], rfl, ?_⟩; (refine ⟨?_, ?_, ?_⟩ <;> simp only [go_sem, List.range, List.range.loop, List.nodup_cons, List.nodup_nil, List.mem_cons, List.not_mem_nil, or_false, or_self, Int.reduceToNat, Nat.min_eq_left, Nat.min_eq_right, Int.reducePow, Nat.reducePow, Int.reduceLE, Int.reduceLT, Int.reduceMul, Int.reduceAdd, Int.reduceSub, Int.reduceNeg, Bool.not_true, Bool.not_false, Bool.not_not, ↓reduceIte, Nat.reduceAdd, Nat.reduceSub, Nat.reduceMul, Nat.reduceEqDiff, reduceCtorEq, Nat.reduceLT, Nat.reduceLeDiff, Nat.reduceGT]); (try any_goals (refine ⟨?_, ?_⟩)); (try any_goals (with_reducible rfl))))
              · (focus (refine ⟨_, _, Gh.refl, [], rfl, ?_⟩; (refine ⟨?_, ?_, ?_⟩ <;> simp only [go_sem, List.range, List.range.loop, List.nodup_cons, List.nodup_nil, List.mem_cons, List.not_mem_nil, or_false, or_self, Int.reduceToNat, Nat.min_eq_left, Nat.min_eq_right, Int.reducePow, Nat.reducePow, Int.reduceLE, Int.reduceLT, Int.reduceMul, Int.reduceAdd, Int.reduceSub, Int.reduceNeg, Bool.not_true, Bool.not_false, Bool.not_not, ↓reduceIte, Nat.reduceAdd, Nat.reduceSub, Nat.reduceMul, Nat.reduceEqDiff, reduceCtorEq, Nat.reduceLT, Nat.reduceLeDiff, Nat.reduceGT]); (try any_goals (refine ⟨?_, ?_⟩)); (try any_goals (with_reducible rfl))))
theorem c_cdecF {h : List Ch} {K : KT} {b : List UInt8} {a : AV} (H : K (.tup [.agg [.int .i64 0, .int .i64 0, .int .i64 0, .lit (.slice none 0 0), .lit (.slice none 0 0), .lit (.slice none 0 0), .lit (.slice none 0 0), .int .i64 0], .int .i64 4]) h) (q1 : isRO .byte b a) (e1 : noK b) (s1 : b.length ≤ 1000000) : Does Try.prog 13 [a] h K :=
  frame_pure (b_cdecF b e1 s1) (br_cons q1.br br_nil) (.inl (by rw [brTL, q1.brT]; rfl)) (fun _ => rfl) H
abbrev i_cdecF := Ctr.mk (i := 1) (g := 13) @c_cdecF
attribute [instance] i_cdecF
end Go.V
