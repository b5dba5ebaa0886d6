/-
  files: what a nil store and a zero store answer.
  FilesNil.
  The plain law: the map of the files and the reference's sorted list.
-/
import Derived.Test.YtejgcmajhhebpaaPart12
set_option linter.unusedVariables false
set_option linter.unusedSimpArgs false
set_option maxRecDepth 100000
set_option maxHeartbeats 1000000
namespace Go.V
open Go.Proofs
/-- a zero store -/
def Zs : List Ch := [.cells [.int .i64 0, .int .i64 0, .lit (.map none)]]
attribute [go_sem] Zs
theorem b_usable_n : DoesK Try.prog 0 24 [.lit (.pointer none)] [] (EndF 0 (.bool false) []) := by
  refine DoesK.close ?_
  refine w_body (rs := [.tmp 2]) (tm := [.lit (.pointer none), .any, .any, .any, .any, .any, .any, .any, .any, .any, .any, .any]) fn_24 rfl rfl rfl rfl fun R hR => ?_
  (all_goals (try ((first | (with_reducible refine wp_id ?_) | (with_reducible refine does_id ?_)); refine walk ?_; (repeat' (first | exact trivial | with_reducible refine And.intro ?_ ?_)); all_goals (repeat (first | (with_reducible refine ImpB.mk fun hb => ?_) | (with_reducible refine ImpK.mk fun hK => ?_) | (with_reducible refine ImpF.mk fun hF => ?_) | (with_reducible refine ImpQ.mk fun hp => ?_) | (with_reducible refine AllE.mk fun p => ?_) | (with_reducible refine AllR.mk fun rest => ?_) | (with_reducible refine AllK.mk fun K => ?_))))); repeat' (with_reducible refine And.intro ?_ ?_))
  (focus (refine ⟨_, _, Gh.refl, [], rfl, ?_⟩; (refine ⟨?_, ?_, ?_⟩ <;> simp only [go_sem, List.range, List.range.loop, List.nodup_cons, List.nodup_nil, List.mem_cons, List.not_mem_nil, or_false, or_self, Int.reduceToNat, Nat.min_eq_left, Nat.min_eq_right, Int.reducePow, Nat.reducePow, Int.reduceLE, Int.reduceLT, Int.reduceMul, Int.reduceAdd, Int.reduceSub, Int.reduceNeg, Bool.not_true, Bool.not_false, Bool.not_not, ↓reduceIte, Nat.reduceAdd, Nat.reduceSub, Nat.reduceMul, Nat.reduceEqDiff, reduceCtorEq, Nat.reduceLT, Nat.reduceLeDiff, Nat.reduceGT]); (try any_goals (refine ⟨?_, ?_⟩)); (try any_goals (with_reducible rfl))))
theorem c_usable_n {h : List Ch} {K : KT} (H : K (.bool false) h) : Does Try.prog 24 [.lit (.pointer none)] h K :=
  frame_pure (b_usable_n ) (br_cons br_lit br_nil) (.inl rfl) (fun _ => rfl) H
abbrev i_usable_n := Ctr.mk (i := 1) (g := 24) @c_usable_n
attribute [instance] i_usable_n
theorem b_usable_z : DoesK Try.prog 1 24 [.ptr 0 0] [.pack Zs] (EndF 1 (.bool false) ([.pack Zs] ++ [])) := by
  refine DoesK.close ?_
  refine w_body (rs := [.tmp 2]) (tm := [.ptr 0 0, .any, .any, .any, .any, .any, .any, .any, .any, .any, .any, .any]) fn_24 rfl rfl rfl rfl fun R hR => ?_
  (all_goals (try ((first | (with_reducible refine wp_id ?_) | (with_reducible refine does_id ?_)); refine walk ?_; (repeat' (first | exact trivial | with_reducible refine And.intro ?_ ?_)); all_goals (repeat (first | (with_reducible refine ImpB.mk fun hb => ?_) | (with_reducible refine ImpK.mk fun hK => ?_) | (with_reducible refine ImpF.mk fun hF => ?_) | (with_reducible refine ImpQ.mk fun hp => ?_) | (with_reducible refine AllE.mk fun p => ?_) | (with_reducible refine AllR.mk fun rest => ?_) | (with_reducible refine AllK.mk fun K => ?_))))); repeat' (with_reducible refine And.intro ?_ ?_))
  (focus (refine ⟨_, _, gh_close (t := 0) (ts := []) (l := Zs) ⟨⟨_, _, rfl⟩, ?_, by simp⟩, [0], rfl, ?_⟩; all_goals (refine ⟨?_, ?_, ?_⟩ <;> simp only [go_sem, List.range, List.range.loop, List.nodup_cons, List.nodup_nil, List.mem_cons, List.not_mem_nil, or_false, or_self, Int.reduceToNat, Nat.min_eq_left, Nat.min_eq_right, Int.reducePow, Nat.reducePow, Int.reduceLE, Int.reduceLT, Int.reduceMul, Int.reduceAdd, Int.reduceSub, Int.reduceNeg, Bool.not_true, Bool.not_false, Bool.not_not, ↓reduceIte, Nat.reduceAdd, Nat.reduceSub, Nat.reduceMul, Nat.reduceEqDiff, reduceCtorEq, Nat.reduceLT, Nat.reduceLeDiff, Nat.reduceGT]); (try any_goals (refine ⟨?_, ?_⟩)); (try any_goals (with_reducible rfl))))
theorem c_usable_z {h : List Ch} {K : KT} {t : Nat} (H : K (.bool false) h) (o : hth h t = .pack Zs) : Does Try.prog 24 [.ptr t 0] h K :=
  frame_look (b_usable_z ) o (by simp) (fitC_pack _) (br_cons (br_ptr rfl) br_nil) (.inl rfl) (fun _ => rfl) rfl H
abbrev i_usable_z := Ctr.mk (i := 2) (g := 24) @c_usable_z
attribute [instance] i_usable_z
theorem b_find_n (s : Str) : DoesK Try.prog 0 26 [.lit (.pointer none), .str s] [] (EndF 0 (.tup [.ro .byte [], .int .i64 2]) []) := by
  refine DoesK.close ?_
  refine w_body (rs := [.tmp 4, .tmp 5]) (tm := [.lit (.pointer none), .str s, .any, .any, .any, .any, .any, .any, .any, .any, .any, .any, .any, .any, .any, .any, .any, .any, .any, .any, .any, .any, .any, .any, .any, .any, .any, .any]) fn_26 rfl rfl rfl rfl fun R hR => ?_
  (all_goals (try ((first | (with_reducible refine wp_id ?_) | (with_reducible refine does_id ?_)); refine walk ?_; (repeat' (first | exact trivial | with_reducible refine And.intro ?_ ?_)); all_goals (repeat (first | (with_reducible refine ImpB.mk fun hb => ?_) | (with_reducible refine ImpK.mk fun hK => ?_) | (with_reducible refine ImpF.mk fun hF => ?_) | (with_reducible refine ImpQ.mk fun hp => ?_) | (with_reducible refine AllE.mk fun p => ?_) | (with_reducible refine AllR.mk fun rest => ?_) | (with_reducible refine AllK.mk fun K => ?_))))); repeat' (with_reducible refine And.intro ?_ ?_))
  (focus (refine ⟨_, _, Gh.refl, [], rfl, ?_⟩; (refine ⟨?_, ?_, ?_⟩ <;> simp only [go_sem, List.range, List.range.loop, List.nodup_cons, List.nodup_nil, List.mem_cons, List.not_mem_nil, or_false, or_self, Int.reduceToNat, Nat.min_eq_left, Nat.min_eq_right, Int.reducePow, Nat.reducePow, Int.reduceLE, Int.reduceLT, Int.reduceMul, Int.reduceAdd, Int.reduceSub, Int.reduceNeg, Bool.not_true, Bool.not_false, Bool.not_not, ↓reduceIte, Nat.reduceAdd, Nat.reduceSub, Nat.reduceMul, Nat.reduceEqDiff, reduceCtorEq, Nat.reduceLT, Nat.reduceLeDiff, Nat.reduceGT]); (try any_goals (refine ⟨?_, ?_⟩)); (try any_goals (with_reducible rfl))))
theorem c_find_n {h : List Ch} {K : KT} {s : Str} (H : K (.tup [.ro .byte [], .int .i64 2]) h) : Does Try.prog 26 [.lit (.pointer none), .str s] h K :=
  frame_pure (b_find_n s) (br_cons br_lit (br_cons br_str br_nil)) (.inl rfl) (fun _ => rfl) H
abbrev i_find_n := Ctr.mk (i := 1) (g := 26) @c_find_n
attribute [instance] i_find_n
theorem b_find_z (s : Str) : DoesK Try.prog 1 26 [.ptr 0 0, .str s] [.pack Zs] (EndF 1 (.tup [.ro .byte [], .int .i64 2]) ([.pack Zs] ++ [])) := by
  refine DoesK.close ?_
  refine w_body (rs := [.tmp 4, .tmp 5]) (tm := [.ptr 0 0, .str s, .any, .any, .any, .any, .any, .any, .any, .any, .any, .any, .any, .any, .any, .any, .any, .any, .any, .any, .any, .any, .any, .any, .any, .any, .any, .any]) fn_26 rfl rfl rfl rfl fun R hR => ?_
  (all_goals (try ((first | (with_reducible refine wp_id ?_) | (with_reducible refine does_id ?_)); refine walk ?_; (repeat' (first | exact trivial | with_reducible refine And.intro ?_ ?_)); all_goals (repeat (first | (with_reducible refine ImpB.mk fun hb => ?_) | (with_reducible refine ImpK.mk fun hK => ?_) | (with_reducible refine ImpF.mk fun hF => ?_) | (with_reducible refine ImpQ.mk fun hp => ?_) | (with_reducible refine AllE.mk fun p => ?_) | (with_reducible refine AllR.mk fun rest => ?_) | (with_reducible refine AllK.mk fun K => ?_))))); repeat' (with_reducible refine And.intro ?_ ?_))
  (focus (refine ⟨_, _, Gh.refl, [0], rfl, ?_⟩; (refine ⟨?_, ?_, ?_⟩ <;> simp only [go_sem, List.range, List.range.loop, List.nodup_cons, List.nodup_nil, List.mem_cons, List.not_mem_nil, or_false, or_self, Int.reduceToNat, Nat.min_eq_left, Nat.min_eq_right, Int.reducePow, Nat.reducePow, Int.reduceLE, Int.reduceLT, Int.reduceMul, Int.reduceAdd, Int.reduceSub, Int.reduceNeg, Bool.not_true, Bool.not_false, Bool.not_not, ↓reduceIte, Nat.reduceAdd, Nat.reduceSub, Nat.reduceMul, Nat.reduceEqDiff, reduceCtorEq, Nat.reduceLT, Nat.reduceLeDiff, Nat.reduceGT]); (try any_goals (refine ⟨?_, ?_⟩)); (try any_goals (with_reducible rfl))))
theorem c_find_z {h : List Ch} {K : KT} {t : Nat} {s : Str} (H : K (.tup [.ro .byte [], .int .i64 2]) h) (o : hth h t = .pack Zs) : Does Try.prog 26 [.ptr t 0, .str s] h K :=
  frame_look (b_find_z s) o (by simp) (fitC_pack _) (br_cons (br_ptr rfl) (br_cons br_str br_nil)) (.inl rfl) (fun _ => rfl) rfl H
abbrev i_find_z := Ctr.mk (i := 2) (g := 26) @c_find_z
attribute [instance] i_find_z
theorem b_get_n (s : Str) : DoesK Try.prog 0 11 [.lit (.pointer none), .str s] [] (EndF 0 (.tup [.ro .byte [], .int .i64 2]) []) := by
  refine DoesK.close ?_
  refine w_body (rs := [.tmp 4, .tmp 5]) (tm := [.lit (.pointer none), .str s, .any, .any, .any, .any, .any, .any, .any, .any, .any, .any, .any, .any, .any, .any, .any]) fn_11 rfl rfl rfl rfl fun R hR => ?_
  (all_goals (try ((first | (with_reducible refine wp_id ?_) | (with_reducible refine does_id ?_)); refine walk ?_; (repeat' (first | exact trivial | with_reducible refine And.intro ?_ ?_)); all_goals (repeat (first | (with_reducible refine ImpB.mk fun hb => ?_) | (with_reducible refine ImpK.mk fun hK => ?_) | (with_reducible refine ImpF.mk fun hF => ?_) | (with_reducible refine ImpQ.mk fun hp => ?_) | (with_reducible refine AllE.mk fun p => ?_) | (with_reducible refine AllR.mk fun rest => ?_) | (with_reducible refine AllK.mk fun K => ?_))))); repeat' (with_reducible refine And.intro ?_ ?_))
  (focus (refine ⟨_, _, Gh.refl, [], rfl, ?_⟩; (refine ⟨?_, ?_, ?_⟩ <;> simp only [go_sem, List.range, List.range.loop, List.nodup_cons, List.nodup_nil, List.mem_cons, List.not_mem_nil, or_false, or_self, Int.reduceToNat, Nat.min_eq_left, Nat.min_eq_right, Int.reducePow, Nat.reducePow, Int.reduceLE, Int.reduceLT, Int.reduceMul, Int.reduceAdd, Int.reduceSub, Int.reduceNeg, Bool.not_true, Bool.not_false, Bool.not_not, ↓reduceIte, Nat.reduceAdd, Nat.reduceSub, Nat.reduceMul, Nat.reduceEqDiff, reduceCtorEq, Nat.reduceLT, Nat.reduceLeDiff, Nat.reduceGT]); (try any_goals (refine ⟨?_, ?_⟩)); (try any_goals (with_reducible rfl))))
theorem c_get_n {h : List Ch} {K : KT} {s : Str} (H : K (.tup [.ro .byte [], .int .i64 2]) h) : Does Try.prog 11 [.lit (.pointer none), .str s] h K :=
  frame_pure (b_get_n s) (br_cons br_lit (br_cons br_str br_nil)) (.inl rfl) (fun _ => rfl) H
abbrev i_get_n := Ctr.mk (i := 1) (g := 11) @c_get_n
attribute [instance] i_get_n
theorem b_get_z (s : Str) : DoesK Try.prog 1 11 [.ptr 0 0, .str s] [.pack Zs] (EndF 1 (.tup [.ro .byte [], .int .i64 2]) ([.pack Zs] ++ [])) := by
  refine DoesK.close ?_
  refine w_body (rs := [.tmp 4, .tmp 5]) (tm := [.ptr 0 0, .str s, .any, .any, .any, .any, .any, .any, .any, .any, .any, .any, .any, .any, .any, .any, .any]) fn_11 rfl rfl rfl rfl fun R hR => ?_
  (all_goals (try ((first | (with_reducible refine wp_id ?_) | (with_reducible refine does_id ?_)); refine walk ?_; (repeat' (first | exact trivial | with_reducible refine And.intro ?_ ?_)); all_goals (repeat (first | (with_reducible refine ImpB.mk fun hb => ?_) | (with_reducible refine ImpK.mk fun hK => ?_) | (with_reducible refine ImpF.mk fun hF => ?_) | (with_reducible refine ImpQ.mk fun hp => ?_) | (with_reducible refine AllE.mk fun p => ?_) | (with_reducible refine AllR.mk fun rest => ?_) | (with_reducible refine AllK.mk fun K => ?_))))); repeat' (with_reducible refine And.intro ?_ ?_))
  (focus (refine ⟨_, _, Gh.refl, [0], rfl, ?_⟩; (refine ⟨?_, ?_, ?_⟩ <;> simp only [go_sem, List.range, List.range.loop, List.nodup_cons, List.nodup_nil, List.mem_cons, List.not_mem_nil, or_false, or_self, Int.reduceToNat, Nat.min_eq_left, Nat.min_eq_right, Int.reducePow, Nat.reducePow, Int.reduceLE, Int.reduceLT, Int.reduceMul, Int.reduceAdd, Int.reduceSub, Int.reduceNeg, Bool.not_true, Bool.not_false, Bool.not_not, ↓reduceIte, Nat.reduceAdd, Nat.reduceSub, Nat.reduceMul, Nat.reduceEqDiff, reduceCtorEq, Nat.reduceLT, Nat.reduceLeDiff, Nat.reduceGT]); (try any_goals (refine ⟨?_, ?_⟩)); (try any_goals (with_reducible rfl))))
theorem c_get_z {h : List Ch} {K : KT} {t : Nat} {s : Str} (H : K (.tup [.ro .byte [], .int .i64 2]) h) (o : hth h t = .pack Zs) : Does Try.prog 11 [.ptr t 0, .str s] h K :=
  frame_look (b_get_z s) o (by simp) (fitC_pack _) (br_cons (br_ptr rfl) (br_cons br_str br_nil)) (.inl rfl) (fun _ => rfl) rfl H
abbrev i_get_z := Ctr.mk (i := 2) (g := 11) @c_get_z
attribute [instance] i_get_z
theorem b_del_n (s : Str) : DoesK Try.prog 0 10 [.lit (.pointer none), .str s] [] (EndF 0 (.int .i64 2) []) := by
  refine DoesK.close ?_
  refine w_body (rs := [.tmp 4]) (tm := [.lit (.pointer none), .str s, .any, .any, .any, .any, .any, .any, .any, .any, .any, .any, .any, .any, .any, .any, .any, .any, .any, .any, .any]) fn_10 rfl rfl rfl rfl fun R hR => ?_
  (all_goals (try ((first | (with_reducible refine wp_id ?_) | (with_reducible refine does_id ?_)); refine walk ?_; (repeat' (first | exact trivial | with_reducible refine And.intro ?_ ?_)); all_goals (repeat (first | (with_reducible refine ImpB.mk fun hb => ?_) | (with_reducible refine ImpK.mk fun hK => ?_) | (with_reducible refine ImpF.mk fun hF => ?_) | (with_reducible refine ImpQ.mk fun hp => ?_) | (with_reducible refine AllE.mk fun p => ?_) | (with_reducible refine AllR.mk fun rest => ?_) | (with_reducible refine AllK.mk fun K => ?_))))); repeat' (with_reducible refine And.intro ?_ ?_))
  all_goals first | (exfalso; exact absurd hb (by decide)) | skip
  (focus (refine ⟨_, _, Gh.refl, [], rfl, ?_⟩; (refine ⟨?_, ?_, ?_⟩ <;> simp only [go_sem, List.range, List.range.loop, List.nodup_cons, List.nodup_nil, List.mem_cons, List.not_mem_nil, or_false, or_self, Int.reduceToNat, Nat.min_eq_left, Nat.min_eq_right, Int.reducePow, Nat.reducePow, Int.reduceLE, Int.reduceLT, Int.reduceMul, Int.reduceAdd, Int.reduceSub, Int.reduceNeg, Bool.not_true, Bool.not_false, Bool.not_not, ↓reduceIte, Nat.reduceAdd, Nat.reduceSub, Nat.reduceMul, Nat.reduceEqDiff, reduceCtorEq, Nat.reduceLT, Nat.reduceLeDiff, Nat.reduceGT]); (try any_goals (refine ⟨?_, ?_⟩)); (try any_goals (with_reducible rfl))))
theorem c_del_n {h : List Ch} {K : KT} {s : Str} (H : K (.int .i64 2) h) : Does Try.prog 10 [.lit (.pointer none), .str s] h K :=
  frame_pure (b_del_n s) (br_cons br_lit (br_cons br_str br_nil)) (.inl rfl) (fun _ => rfl) H
abbrev i_del_n := Ctr.mk (i := 1) (g := 10) @c_del_n
attribute [instance] i_del_n
theorem b_del_z (s : Str) : DoesK Try.prog 1 10 [.ptr 0 0, .str s] [.pack Zs] (EndF 1 (.int .i64 2) ([.pack Zs] ++ [])) := by
  refine DoesK.close ?_
  refine w_body (rs := [.tmp 4]) (tm := [.ptr 0 0, .str s, .any, .any, .any, .any, .any, .any, .any, .any, .any, .any, .any, .any, .any, .any, .any, .any, .any, .any, .any]) fn_10 rfl rfl rfl rfl fun R hR => ?_
  (all_goals (try ((first | (with_reducible refine wp_id ?_) | (with_reducible refine does_id ?_)); refine walk ?_; (repeat' (first | exact trivial | with_reducible refine And.intro ?_ ?_)); all_goals (repeat (first | (with_reducible refine ImpB.mk fun hb => ?_) | (with_reducible refine ImpK.mk fun hK => ?_) | (with_reducible refine ImpF.mk fun hF => ?_) | (with_reducible refine ImpQ.mk fun hp => ?_) | (with_reducible refine AllE.mk fun p => ?_) | (with_reducible refine AllR.mk fun rest => ?_) | (with_reducible refine AllK.mk fun K => ?_))))); repeat' (with_reducible refine And.intro ?_ ?_))
  all_goals first | (exfalso; exact absurd hb (by decide)) | skip
  (focus (refine ⟨_, _, Gh.refl, [0], rfl, ?_⟩; (refine ⟨?_, ?_, ?_⟩ <;> simp only [go_sem, List.range, List.range.loop, List.nodup_cons, List.nodup_nil, List.mem_cons, List.not_mem_nil, or_false, or_self, Int.reduceToNat, Nat.min_eq_left, Nat.min_eq_right, Int.reducePow, Nat.reducePow, Int.reduceLE, Int.reduceLT, Int.reduceMul, Int.reduceAdd, Int.reduceSub, Int.reduceNeg, Bool.not_true, Bool.not_false, Bool.not_not, ↓reduceIte, Nat.reduceAdd, Nat.reduceSub, Nat.reduceMul, Nat.reduceEqDiff, reduceCtorEq, Nat.reduceLT, Nat.reduceLeDiff, Nat.reduceGT]); (try any_goals (refine ⟨?_, ?_⟩)); (try any_goals (with_reducible rfl))))
theorem c_del_z {h : List Ch} {K : KT} {t : Nat} {s : Str} (H : K (.int .i64 2) h) (o : hth h t = .pack Zs) : Does Try.prog 10 [.ptr t 0, .str s] h K :=
  frame_look (b_del_z s) o (by simp) (fitC_pack _) (br_cons (br_ptr rfl) (br_cons br_str br_nil)) (.inl rfl) (fun _ => rfl) rfl H
abbrev i_del_z := Ctr.mk (i := 2) (g := 10) @c_del_z
attribute [instance] i_del_z
theorem b_put_n (s d : Str) : DoesK Try.prog 0 9 [.lit (.pointer none), .str s, .ro .byte d] [] (EndF 0 (.int .i64 2) []) := by
  refine DoesK.close ?_
  refine w_body (rs := [.tmp 6]) (tm := [.lit (.pointer none), .str s, .ro .byte d, .any, .any, .any, .any, .any, .any, .any, .any, .any, .any, .any, .any, .any, .any, .any, .any, .any, .any, .any, .any, .any, .any, .any, .any, .any, .any, .any, .any, .any, .any, .any, .any, .any, .any, .any, .any, .any, .any, .any, .any, .any, .any, .any, .any, .any, .any, .any, .any, .any, .any, .any, .any, .any, .any, .any, .any]) fn_9 rfl rfl rfl rfl fun R hR => ?_
  (all_goals (try ((first | (with_reducible refine wp_id ?_) | (with_reducible refine does_id ?_)); refine walk ?_; (repeat' (first | exact trivial | with_reducible refine And.intro ?_ ?_)); all_goals (repeat (first | (with_reducible refine ImpB.mk fun hb => ?_) | (with_reducible refine ImpK.mk fun hK => ?_) | (with_reducible refine ImpF.mk fun hF => ?_) | (with_reducible refine ImpQ.mk fun hp => ?_) | (with_reducible refine AllE.mk fun p => ?_) | (with_reducible refine AllR.mk fun rest => ?_) | (with_reducible refine AllK.mk fun K => ?_))))); repeat' (with_reducible refine And.intro ?_ ?_))
  (focus (refine ⟨_, _, Gh.refl, [], rfl, ?_⟩; (refine ⟨?_, ?_, ?_⟩ <;> simp only [go_sem, List.range, List.range.loop, List.nodup_cons, List.nodup_nil, List.mem_cons, List.not_mem_nil, or_false, or_self, Int.reduceToNat, Nat.min_eq_left, Nat.min_eq_right, Int.reducePow, Nat.reducePow, Int.reduceLE, Int.reduceLT, Int.reduceMul, Int.reduceAdd, Int.reduceSub, Int.reduceNeg, Bool.not_true, Bool.not_false, Bool.not_not, ↓reduceIte, Nat.reduceAdd, Nat.reduceSub, Nat.reduceMul, Nat.reduceEqDiff, reduceCtorEq, Nat.reduceLT, Nat.reduceLeDiff, Nat.reduceGT]); (try any_goals (refine ⟨?_, ?_⟩)); (try any_goals (with_reducible rfl))))
theorem c_put_n {h : List Ch} {K : KT} {s d : Str} {a : AV} (H : K (.int .i64 2) h) (q1 : isRO .byte d a): Does Try.prog 9 [.lit (.pointer none), .str s, a] h K :=
  frame_pure (b_put_n s d) (br_cons br_lit (br_cons br_str (br_cons q1.br br_nil))) (.inl (by simp only [brTL, q1.brT]; rfl)) (fun _ => rfl) H
abbrev i_put_n := Ctr.mk (i := 2) (g := 9) @c_put_n
attribute [instance] i_put_n
theorem b_put_z (s d : Str) : DoesK Try.prog 1 9 [.ptr 0 0, .str s, .ro .byte d] [.pack Zs] (EndF 1 (.int .i64 2) ([.pack Zs] ++ [])) := by
  refine DoesK.close ?_
  refine w_body (rs := [.tmp 6]) (tm := [.ptr 0 0, .str s, .ro .byte d, .any, .any, .any, .any, .any, .any, .any, .any, .any, .any, .any, .any, .any, .any, .any, .any, .any, .any, .any, .any, .any, .any, .any, .any, .any, .any, .any, .any, .any, .any, .any, .any, .any, .any, .any, .any, .any, .any, .any, .any, .any, .any, .any, .any, .any, .any, .any, .any, .any, .any, .any, .any, .any, .any, .any, .any]) fn_9 rfl rfl rfl rfl fun R hR => ?_
  (all_goals (try ((first | (with_reducible refine wp_id ?_) | (with_reducible refine does_id ?_)); refine walk ?_; (repeat' (first | exact trivial | with_reducible refine And.intro ?_ ?_)); all_goals (repeat (first | (with_reducible refine ImpB.mk fun hb => ?_) | (with_reducible refine ImpK.mk fun hK => ?_) | (with_reducible refine ImpF.mk fun hF => ?_) | (with_reducible refine ImpQ.mk fun hp => ?_) | (with_reducible refine AllE.mk fun p => ?_) | (with_reducible refine AllR.mk fun rest => ?_) | (with_reducible refine AllK.mk fun K => ?_))))); repeat' (with_reducible refine And.intro ?_ ?_))
  (focus (refine ⟨_, _, Gh.refl, [0], rfl, ?_⟩; (refine ⟨?_, ?_, ?_⟩ <;> simp only [go_sem, List.range, List.range.loop, List.nodup_cons, List.nodup_nil, List.mem_cons, List.not_mem_nil, or_false, or_self, Int.reduceToNat, Nat.min_eq_left, Nat.min_eq_right, Int.reducePow, Nat.reducePow, Int.reduceLE, Int.reduceLT, Int.reduceMul, Int.reduceAdd, Int.reduceSub, Int.reduceNeg, Bool.not_true, Bool.not_false, Bool.not_not, ↓reduceIte, Nat.reduceAdd, Nat.reduceSub, Nat.reduceMul, Nat.reduceEqDiff, reduceCtorEq, Nat.reduceLT, Nat.reduceLeDiff, Nat.reduceGT]); (try any_goals (refine ⟨?_, ?_⟩)); (try any_goals (with_reducible rfl))))
theorem c_put_z {h : List Ch} {K : KT} {t : Nat} {s d : Str} {a : AV} (H : K (.int .i64 2) h) (o : hth h t = .pack Zs) (q1 : isRO .byte d a): Does Try.prog 9 [.ptr t 0, .str s, a] h K :=
  frame_look (b_put_z s d) o (by simp) (fitC_pack _) (br_cons (br_ptr rfl) (br_cons br_str (br_cons q1.br br_nil))) (.inl (by simp only [brTL, q1.brT]; rfl)) (fun _ => rfl) rfl H
abbrev i_put_z := Ctr.mk (i := 3) (g := 9) @c_put_z
attribute [instance] i_put_z
theorem b_names_n : DoesK Try.prog 0 13 [.lit (.pointer none)] [] (EndF 0 (.ro .str []) []) := by
  refine DoesK.close ?_
  refine w_body (rs := [.tmp 2]) (tm := [.lit (.pointer none), .any, .any, .any, .any, .any, .any, .any, .any, .any, .any, .any, .any, .any, .any, .any, .any, .any, .any, .any, .any, .any, .any, .any]) fn_13 rfl rfl rfl rfl fun R hR => ?_
  (all_goals (try ((first | (with_reducible refine wp_id ?_) | (with_reducible refine does_id ?_)); refine walk ?_; (repeat' (first | exact trivial | with_reducible refine And.intro ?_ ?_)); all_goals (repeat (first | (with_reducible refine ImpB.mk fun hb => ?_) | (with_reducible refine ImpK.mk fun hK => ?_) | (with_reducible refine ImpF.mk fun hF => ?_) | (with_reducible refine ImpQ.mk fun hp => ?_) | (with_reducible refine AllE.mk fun p => ?_) | (with_reducible refine AllR.mk fun rest => ?_) | (with_reducible refine AllK.mk fun K => ?_))))); repeat' (with_reducible refine And.intro ?_ ?_))
  (focus (refine ⟨_, _, Gh.refl, [], rfl, ?_⟩; (refine ⟨?_, ?_, ?_⟩ <;> simp only [go_sem, List.range, List.range.loop, List.nodup_cons, List.nodup_nil, List.mem_cons, List.not_mem_nil, or_false, or_self, Int.reduceToNat, Nat.min_eq_left, Nat.min_eq_right, Int.reducePow, Nat.reducePow, Int.reduceLE, Int.reduceLT, Int.reduceMul, Int.reduceAdd, Int.reduceSub, Int.reduceNeg, Bool.not_true, Bool.not_false, Bool.not_not, ↓reduceIte, Nat.reduceAdd, Nat.reduceSub, Nat.reduceMul, Nat.reduceEqDiff, reduceCtorEq, Nat.reduceLT, Nat.reduceLeDiff, Nat.reduceGT]); (try any_goals (refine ⟨?_, ?_⟩)); (try any_goals (with_reducible rfl))))
theorem c_names_n {h : List Ch} {K : KT} (H : K (.ro .str []) h) : Does Try.prog 13 [.lit (.pointer none)] h K :=
  frame_pure (b_names_n ) (br_cons br_lit br_nil) (.inl rfl) (fun _ => rfl) H
abbrev i_names_n := Ctr.mk (i := 1) (g := 13) @c_names_n
attribute [instance] i_names_n
theorem b_names_z : DoesK Try.prog 1 13 [.ptr 0 0] [.pack Zs] (EndF 1 (.ro .str []) ([.pack Zs] ++ [])) := by
  refine DoesK.close ?_
  refine w_body (rs := [.tmp 2]) (tm := [.ptr 0 0, .any, .any, .any, .any, .any, .any, .any, .any, .any, .any, .any, .any, .any, .any, .any, .any, .any, .any, .any, .any, .any, .any, .any]) fn_13 rfl rfl rfl rfl fun R hR => ?_
  (all_goals (try ((first | (with_reducible refine wp_id ?_) | (with_reducible refine does_id ?_)); refine walk ?_; (repeat' (first | exact trivial | with_reducible refine And.intro ?_ ?_)); all_goals (repeat (first | (with_reducible refine ImpB.mk fun hb => ?_) | (with_reducible refine ImpK.mk fun hK => ?_) | (with_reducible refine ImpF.mk fun hF => ?_) | (with_reducible refine ImpQ.mk fun hp => ?_) | (with_reducible refine AllE.mk fun p => ?_) | (with_reducible refine AllR.mk fun rest => ?_) | (with_reducible refine AllK.mk fun K => ?_))))); repeat' (with_reducible refine And.intro ?_ ?_))
  (focus (refine ⟨_, _, Gh.refl, [0], rfl, ?_⟩; (refine ⟨?_, ?_, ?_⟩ <;> simp only [go_sem, List.range, List.range.loop, List.nodup_cons, List.nodup_nil, List.mem_cons, List.not_mem_nil, or_false, or_self, Int.reduceToNat, Nat.min_eq_left, Nat.min_eq_right, Int.reducePow, Nat.reducePow, Int.reduceLE, Int.reduceLT, Int.reduceMul, Int.reduceAdd, Int.reduceSub, Int.reduceNeg, Bool.not_true, Bool.not_false, Bool.not_not, ↓reduceIte, Nat.reduceAdd, Nat.reduceSub, Nat.reduceMul, Nat.reduceEqDiff, reduceCtorEq, Nat.reduceLT, Nat.reduceLeDiff, Nat.reduceGT]); (try any_goals (refine ⟨?_, ?_⟩)); (try any_goals (with_reducible rfl))))
theorem c_names_z {h : List Ch} {K : KT} {t : Nat} (H : K (.ro .str []) h) (o : hth h t = .pack Zs) : Does Try.prog 13 [.ptr t 0] h K :=
  frame_look (b_names_z ) o (by simp) (fitC_pack _) (br_cons (br_ptr rfl) br_nil) (.inl rfl) (fun _ => rfl) rfl H
abbrev i_names_z := Ctr.mk (i := 2) (g := 13) @c_names_z
attribute [instance] i_names_z
theorem b_free_n : DoesK Try.prog 0 12 [.lit (.pointer none)] [] (EndF 0 (.int .i64 0) []) := by
  refine DoesK.close ?_
  refine w_body (rs := [.tmp 2]) (tm := [.lit (.pointer none), .any, .any, .any, .any, .any, .any, .any, .any, .any, .any, .any, .any, .any, .any, .any, .any, .any, .any, .any, .any, .any, .any, .any, .any, .any, .any]) fn_12 rfl rfl rfl rfl fun R hR => ?_
  (all_goals (try ((first | (with_reducible refine wp_id ?_) | (with_reducible refine does_id ?_)); refine walk ?_; (repeat' (first | exact trivial | with_reducible refine And.intro ?_ ?_)); all_goals (repeat (first | (with_reducible refine ImpB.mk fun hb => ?_) | (with_reducible refine ImpK.mk fun hK => ?_) | (with_reducible refine ImpF.mk fun hF => ?_) | (with_reducible refine ImpQ.mk fun hp => ?_) | (with_reducible refine AllE.mk fun p => ?_) | (with_reducible refine AllR.mk fun rest => ?_) | (with_reducible refine AllK.mk fun K => ?_))))); repeat' (with_reducible refine And.intro ?_ ?_))
  (focus (refine ⟨_, _, Gh.refl, [], rfl, ?_⟩; (refine ⟨?_, ?_, ?_⟩ <;> simp only [go_sem, List.range, List.range.loop, List.nodup_cons, List.nodup_nil, List.mem_cons, List.not_mem_nil, or_false, or_self, Int.reduceToNat, Nat.min_eq_left, Nat.min_eq_right, Int.reducePow, Nat.reducePow, Int.reduceLE, Int.reduceLT, Int.reduceMul, Int.reduceAdd, Int.reduceSub, Int.reduceNeg, Bool.not_true, Bool.not_false, Bool.not_not, ↓reduceIte, Nat.reduceAdd, Nat.reduceSub, Nat.reduceMul, Nat.reduceEqDiff, reduceCtorEq, Nat.reduceLT, Nat.reduceLeDiff, Nat.reduceGT]); (try any_goals (refine ⟨?_, ?_⟩)); (try any_goals (with_reducible rfl))))
theorem c_free_n {h : List Ch} {K : KT} (H : K (.int .i64 0) h) : Does Try.prog 12 [.lit (.pointer none)] h K :=
  frame_pure (b_free_n ) (br_cons br_lit br_nil) (.inl rfl) (fun _ => rfl) H
abbrev i_free_n := Ctr.mk (i := 2) (g := 12) @c_free_n
attribute [instance] i_free_n
theorem b_free_z : DoesK Try.prog 1 12 [.ptr 0 0] [.pack Zs] (EndF 1 (.int .i64 0) ([.pack Zs] ++ [])) := by
  refine DoesK.close ?_
  refine w_body (rs := [.tmp 2]) (tm := [.ptr 0 0, .any, .any, .any, .any, .any, .any, .any, .any, .any, .any, .any, .any, .any, .any, .any, .any, .any, .any, .any, .any, .any, .any, .any, .any, .any, .any]) fn_12 rfl rfl rfl rfl fun R hR => ?_
  (all_goals (try ((first | (with_reducible refine wp_id ?_) | (with_reducible refine does_id ?_)); refine walk ?_; (repeat' (first | exact trivial | with_reducible refine And.intro ?_ ?_)); all_goals (repeat (first | (with_reducible refine ImpB.mk fun hb => ?_) | (with_reducible refine ImpK.mk fun hK => ?_) | (with_reducible refine ImpF.mk fun hF => ?_) | (with_reducible refine ImpQ.mk fun hp => ?_) | (with_reducible refine AllE.mk fun p => ?_) | (with_reducible refine AllR.mk fun rest => ?_) | (with_reducible refine AllK.mk fun K => ?_))))); repeat' (with_reducible refine And.intro ?_ ?_))
  (focus (refine ⟨_, _, Gh.refl, [0], rfl, ?_⟩; (refine ⟨?_, ?_, ?_⟩ <;> simp only [go_sem, List.range, List.range.loop, List.nodup_cons, List.nodup_nil, List.mem_cons, List.not_mem_nil, or_false, or_self, Int.reduceToNat, Nat.min_eq_left, Nat.min_eq_right, Int.reducePow, Nat.reducePow, Int.reduceLE, Int.reduceLT, Int.reduceMul, Int.reduceAdd, Int.reduceSub, Int.reduceNeg, Bool.not_true, Bool.not_false, Bool.not_not, ↓reduceIte, Nat.reduceAdd, Nat.reduceSub, Nat.reduceMul, Nat.reduceEqDiff, reduceCtorEq, Nat.reduceLT, Nat.reduceLeDiff, Nat.reduceGT]); (try any_goals (refine ⟨?_, ?_⟩)); (try any_goals (with_reducible rfl))))
theorem c_free_z {h : List Ch} {K : KT} {t : Nat} (H : K (.int .i64 0) h) (o : hth h t = .pack Zs) : Does Try.prog 12 [.ptr t 0] h K :=
  frame_look (b_free_z ) o (by simp) (fitC_pack _) (br_cons (br_ptr rfl) br_nil) (.inl rfl) (fun _ => rfl) rfl H
abbrev i_free_z := Ctr.mk (i := 3) (g := 12) @c_free_z
attribute [instance] i_free_z
theorem b_clone_n : DoesK Try.prog 0 17 [.lit (.pointer none)] [] (EndF 0 (.lit (.pointer none)) []) := by
  refine DoesK.close ?_
  refine w_body (rs := [.tmp 2]) (tm := [.lit (.pointer none), .any, .any, .any, .any, .any, .any, .any, .any, .any, .any, .any, .any, .any, .any, .any, .any, .any, .any, .any, .any, .any, .any, .any, .any, .any, .any, .any, .any, .any, .any, .any, .any, .any, .any, .any]) fn_17 rfl rfl rfl rfl fun R hR => ?_
  (all_goals (try ((first | (with_reducible refine wp_id ?_) | (with_reducible refine does_id ?_)); refine walk ?_; (repeat' (first | exact trivial | with_reducible refine And.intro ?_ ?_)); all_goals (repeat (first | (with_reducible refine ImpB.mk fun hb => ?_) | (with_reducible refine ImpK.mk fun hK => ?_) | (with_reducible refine ImpF.mk fun hF => ?_) | (with_reducible refine ImpQ.mk fun hp => ?_) | (with_reducible refine AllE.mk fun p => ?_) | (with_reducible refine AllR.mk fun rest => ?_) | (with_reducible refine AllK.mk fun K => ?_))))); repeat' (with_reducible refine And.intro ?_ ?_))
  (focus (refine ⟨_, _, Gh.refl, [], rfl, ?_⟩; (refine ⟨?_, ?_, ?_⟩ <;> simp only [go_sem, List.range, List.range.loop, List.nodup_cons, List.nodup_nil, List.mem_cons, List.not_mem_nil, or_false, or_self, Int.reduceToNat, Nat.min_eq_left, Nat.min_eq_right, Int.reducePow, Nat.reducePow, Int.reduceLE, Int.reduceLT, Int.reduceMul, Int.reduceAdd, Int.reduceSub, Int.reduceNeg, Bool.not_true, Bool.not_false, Bool.not_not, ↓reduceIte, Nat.reduceAdd, Nat.reduceSub, Nat.reduceMul, Nat.reduceEqDiff, reduceCtorEq, Nat.reduceLT, Nat.reduceLeDiff, Nat.reduceGT]); (try any_goals (refine ⟨?_, ?_⟩)); (try any_goals (with_reducible rfl))))
theorem c_clone_n {h : List Ch} {K : KT} (H : K (.lit (.pointer none)) h) : Does Try.prog 17 [.lit (.pointer none)] h K :=
  frame_pure (b_clone_n ) (br_cons br_lit br_nil) (.inl rfl) (fun _ => rfl) H
abbrev i_clone_n := Ctr.mk (i := 1) (g := 17) @c_clone_n
attribute [instance] i_clone_n
theorem b_clone_z : DoesK Try.prog 1 17 [.ptr 0 0] [.pack Zs] (EndF 1 (.lit (.pointer none)) ([.pack Zs] ++ [])) := by
  refine DoesK.close ?_
  refine w_body (rs := [.tmp 2]) (tm := [.ptr 0 0, .any, .any, .any, .any, .any, .any, .any, .any, .any, .any, .any, .any, .any, .any, .any, .any, .any, .any, .any, .any, .any, .any, .any, .any, .any, .any, .any, .any, .any, .any, .any, .any, .any, .any, .any]) fn_17 rfl rfl rfl rfl fun R hR => ?_
  (all_goals (try ((first | (with_reducible refine wp_id ?_) | (with_reducible refine does_id ?_)); refine walk ?_; (repeat' (first | exact trivial | with_reducible refine And.intro ?_ ?_)); all_goals (repeat (first | (with_reducible refine ImpB.mk fun hb => ?_) | (with_reducible refine ImpK.mk fun hK => ?_) | (with_reducible refine ImpF.mk fun hF => ?_) | (with_reducible refine ImpQ.mk fun hp => ?_) | (with_reducible refine AllE.mk fun p => ?_) | (with_reducible refine AllR.mk fun rest => ?_) | (with_reducible refine AllK.mk fun K => ?_))))); repeat' (with_reducible refine And.intro ?_ ?_))
  (focus (refine ⟨_, _, Gh.refl, [0], rfl, ?_⟩; (refine ⟨?_, ?_, ?_⟩ <;> simp only [go_sem, List.range, List.range.loop, List.nodup_cons, List.nodup_nil, List.mem_cons, List.not_mem_nil, or_false, or_self, Int.reduceToNat, Nat.min_eq_left, Nat.min_eq_right, Int.reducePow, Nat.reducePow, Int.reduceLE, Int.reduceLT, Int.reduceMul, Int.reduceAdd, Int.reduceSub, Int.reduceNeg, Bool.not_true, Bool.not_false, Bool.not_not, ↓reduceIte, Nat.reduceAdd, Nat.reduceSub, Nat.reduceMul, Nat.reduceEqDiff, reduceCtorEq, Nat.reduceLT, Nat.reduceLeDiff, Nat.reduceGT]); (try any_goals (refine ⟨?_, ?_⟩)); (try any_goals (with_reducible rfl))))
theorem c_clone_z {h : List Ch} {K : KT} {t : Nat} (H : K (.lit (.pointer none)) h) (o : hth h t = .pack Zs) : Does Try.prog 17 [.ptr t 0] h K :=
  frame_look (b_clone_z ) o (by simp) (fitC_pack _) (br_cons (br_ptr rfl) br_nil) (.inl rfl) (fun _ => rfl) rfl H
abbrev i_clone_z := Ctr.mk (i := 2) (g := 17) @c_clone_z
attribute [instance] i_clone_z
end Go.V

set_option maxRecDepth 100000
set_option maxHeartbeats 1000000
namespace Go.V
open Go.Proofs
theorem b_nil (s d : Str) (hs : s.length ≤ 9223372036854775807) (hd : d.length ≤ 9223372036854775807) : DoesK Try.prog 0 6 [.str s, .ro .byte d] [] (EndF 0 (.bool true) []) := by
  refine DoesK.close ?_
  refine w_body (rs := [.tmp 4]) (tm := [.str s, .ro .byte d, .any, .any, .any, .any, .any, .any, .any, .any, .any, .any, .any, .any, .any, .any, .any, .any, .any, .any, .any, .any, .any, .any, .any, .any, .any, .any, .any, .any, .any, .any, .any, .any, .any, .any, .any, .any, .any, .any, .any, .any, .any, .any, .any, .any, .any, .any, .any, .any, .any, .any, .any, .any, .any, .any, .any, .any, .any, .any, .any, .any, .any, .any, .any, .any, .any, .any, .any, .any, .any, .any, .any, .any, .any, .any, .any, .any, .any, .any, .any, .any, .any, .any, .any, .any, .any, .any, .any, .any]) fn_6 rfl rfl rfl rfl fun R hR => ?_
  (all_goals (try ((first | (with_reducible refine wp_id ?_) | (with_reducible refine does_id ?_)); refine walk ?_; (repeat' (first | exact trivial | with_reducible refine And.intro ?_ ?_)); all_goals (repeat (first | (with_reducible refine ImpB.mk fun hb => ?_) | (with_reducible refine ImpK.mk fun hK => ?_) | (with_reducible refine ImpF.mk fun hF => ?_) | (with_reducible refine ImpQ.mk fun hp => ?_) | (with_reducible refine AllE.mk fun p => ?_) | (with_reducible refine AllR.mk fun rest => ?_) | (with_reducible refine AllK.mk fun K => ?_))))); repeat' (with_reducible refine And.intro ?_ ?_))
  all_goals first | (exfalso; exact absurd hb (by decide)) | ((focus (refine ⟨_, _, Gh.refl, [], rfl, ?_⟩; (refine ⟨?_, ?_, ?_⟩ <;> simp only [go_sem, List.range, List.range.loop, List.nodup_cons, List.nodup_nil, List.mem_cons, List.not_mem_nil, or_false, or_self, Int.reduceToNat, Nat.min_eq_left, Nat.min_eq_right, Int.reducePow, Nat.reducePow, Int.reduceLE, Int.reduceLT, Int.reduceMul, Int.reduceAdd, Int.reduceSub, Int.reduceNeg, Bool.not_true, Bool.not_false, Bool.not_not, ↓reduceIte, Nat.reduceAdd, Nat.reduceSub, Nat.reduceMul, Nat.reduceEqDiff, reduceCtorEq, Nat.reduceLT, Nat.reduceLeDiff, Nat.reduceGT]); (try any_goals (refine ⟨?_, ?_⟩)); (try any_goals (with_reducible rfl)))); done)
end Go.V

set_option maxRecDepth 100000
set_option maxHeartbeats 1000000
namespace Go.V
open Go.Proofs
/-- in order, no name twice -/
def Srt (l : List File) : Prop := l.Pairwise fun f g => f.name < g.name
theorem bless {x y : Str} : Op.bytesLess x y = decide (x < y) := bytesLess_eq x y
theorem lt_tri {x y : Str} (h : ¬ x < y) (h2 : x ≠ y) : y < x := by
  rcases List.le_iff_lt_or_eq.1 (List.not_lt.1 h) with h | h
  · exact h
  · exact absurd h.symm h2
theorem srt_nodup {l : List File} (h : Srt l) : ((kvF l).map (·.1)).Nodup := by
  unfold kvF
  rw [List.map_map]
  have : ((fun p : Str × Str => p.1) ∘ fun f : File => (f.name, f.data)) = fun f => f.name := rfl
  rw [this, List.nodup_iff_pairwise_ne, List.pairwise_map]
  exact h.imp fun h e => by rw [e] at h; exact List.lt_irrefl _ h
theorem kvF_names (l : List File) : (kvF l).map (·.1) = namF l := by
  unfold kvF namF
  rw [List.map_map]
  rfl
theorem get_above {l : List File} {s : Str} (h : ∀ f ∈ l, s < f.name) : mgetS (kvF l) s = none := by
  induction l with
  | nil => rfl
  | cons f l ih =>
    have h1 := h f (by simp)
    have hne : f.name ≠ s := fun e => by rw [e] at h1; exact List.lt_irrefl _ h1
    have := ih (fun g hg => h g (by simp [hg]))
    unfold mgetS kvF at this ⊢
    simp only [List.map_cons, mget, if_neg hne]
    exact this
theorem get_F {l : List File} {s : Str} (h : Srt l) : mgetS (kvF l) s = if fHas l s then some (fAt l (fIx l s)).data else none := by
  induction l with
  | nil => rfl
  | cons f l ih =>
    unfold Srt at h ih
    rw [List.pairwise_cons] at h
    by_cases hlt : f.name < s
    · have hne : f.name ≠ s := fun e => by rw [e] at hlt; exact List.lt_irrefl _ hlt
      have hb : Op.bytesLess f.name s = true := by rw [bless]; exact decide_eq_true hlt
      have h3 := ih h.2
      unfold fHas fIx
      rw [if_pos hb, if_pos hb]
      have e : mgetS (kvF (f :: l)) s = mgetS (kvF l) s := by
        unfold mgetS kvF
        simp only [List.map_cons, mget, if_neg hne]
      rw [e, h3]
      simp [fAt]
    · have hb : Op.bytesLess f.name s = false := by rw [bless]; exact decide_eq_false hlt
      unfold fHas fIx
      rw [hb]
      simp only [Bool.false_eq_true, if_false]
      by_cases he : f.name = s
      · rw [decide_eq_true he]
        unfold mgetS kvF
        simp [mget, he]
      · have h2 := lt_tri hlt he
        rw [decide_eq_false he]
        refine get_above fun g hg => ?_
        rcases List.mem_cons.1 hg with rfl | hg
        · exact h2
        · exact List.lt_trans h2 (h.1 g hg)
theorem del_F {l : List File} {s : Str} (h : fHas l s = true) : kvF (l.take (fIx l s) ++ l.drop (fIx l s + 1)) = mdelS (kvF l) s := by
  induction l with
  | nil => cases h
  | cons f l ih =>
    unfold fHas at h
    unfold fIx
    by_cases hb : Op.bytesLess f.name s = true
    · rw [if_pos hb] at h ⊢
      have hne : f.name ≠ s := fun e => by rw [e, bless] at hb; exact List.lt_irrefl _ (by simpa using hb)
      have := ih h
      unfold mdelS kvF at this ⊢
      simp only [List.take_succ_cons, List.drop_succ_cons, List.cons_append, List.map_cons, mdel, if_neg hne]
      rw [this]
    · rw [if_neg hb] at h ⊢
      have he : f.name = s := by simpa using h
      unfold mdelS kvF
      simp [mdel, he]
theorem ins_srt {l : List File} {s d : Str} (h : Srt l) (hn : ∀ f ∈ l, f.name ≠ s) : Srt (l.take (fIx l s) ++ [⟨s, d⟩] ++ l.drop (fIx l s)) := by
  induction l with
  | nil => simp [Srt]
  | cons f l ih =>
    unfold Srt at h ih ⊢
    rw [List.pairwise_cons] at h
    unfold fIx
    by_cases hb : Op.bytesLess f.name s = true
    · rw [if_pos hb]
      have hlt : f.name < s := by rw [bless] at hb; simpa using hb
      have h3 := ih h.2 (fun g hg => hn g (by simp [hg]))
      simp only [List.take_succ_cons, List.drop_succ_cons, List.cons_append]
      rw [List.pairwise_cons]
      refine ⟨fun g hg => ?_, h3⟩
      simp only [List.append_assoc, List.mem_append, List.mem_cons, List.not_mem_nil, or_false] at hg
      rcases hg with hg | hg | hg
      · exact h.1 g (List.mem_of_mem_take hg)
      · rw [hg]; exact hlt
      · exact h.1 g (List.mem_of_mem_drop hg)
    · rw [if_neg hb]
      have hlt : ¬ f.name < s := by rw [bless] at hb; simpa using hb
      have h2 := lt_tri hlt (hn f (by simp))
      simp only [List.take_zero, List.drop_zero, List.nil_append, List.cons_append]
      rw [List.pairwise_cons, List.pairwise_cons]
      refine ⟨fun g hg => ?_, h.1, h.2⟩
      rcases List.mem_cons.1 hg with rfl | hg
      · exact h2
      · exact List.lt_trans h2 (h.1 g hg)
/-- the store and the reference's store -/
structure Inv (m r : Int) (kv : List (Str × Str)) (l : List File) : Prop where
  srt : Srt l
  perm : kv.Perm (kvF l)
  sum : (sumL kv : Int) ≤ r
  len : (kv.length : Int) ≤ m
theorem kvF_len (l : List File) : (kvF l).length = l.length := List.length_map _
variable {m r : Int} {kv : List (Str × Str)} {l : List File}
theorem Inv.nodup (h : Inv m r kv l) : (kv.map (·.1)).Nodup := ((h.perm.map _).nodup_iff).2 (srt_nodup h.srt)
theorem Inv.get (h : Inv m r kv l) (s : Str) : mgetS kv s = if fHas l s then some (fAt l (fIx l s)).data else none := by
  rw [← get_F h.srt]
  exact mget_same (k := .str) (e := .bytes) ⟨h.perm, h.nodup⟩ s
theorem Inv.find (h : Inv m r kv l) (s : Str) : findE kv s = rgetE l s := by
  unfold findE rgetE
  rw [h.get s]
  cases fHas l s <;> rfl
theorem Inv.names (h : Inv m r kv l) : namesS kv = namF l := by
  unfold namesS
  rw [sortS_eq (h.perm.map _), kvF_names]
  refine List.Perm.eq_of_pairwise (le := (· ≤ ·)) (fun a b _ _ h1 h2 => List.le_antisymm h1 h2) (sortS_sorted _) ?_ (sortS_perm _)
  unfold namF
  rw [List.pairwise_map]
  exact h.srt.imp fun h => List.le_of_lt h
theorem Inv.llen (h : Inv m r kv l) : l.length = kv.length := by rw [← kvF_len l, h.perm.length_eq]
theorem Inv.lsum (h : Inv m r kv l) : sumL (kvF l) = sumL kv := (sumL_perm h.perm).symm
theorem del_perm {s : Str} (hn : nameB s = true) : (kvF (rdelL l s)) = if fHas l s then mdelS (kvF l) s else kvF l := by
  unfold rdelL rgetE
  rw [if_pos hn]
  cases hh : fHas l s
  · simp
  · simp only [if_true]
    exact del_F hh
theorem Inv.del (h : Inv m r kv l) (s : Str) : Inv m r (if (findE kv s).2 = 0 then mdelS kv s else kv) (rdelL l s) := by
  rw [h.find s]
  by_cases hz : (rgetE l s).2 = 0
  · have hn : nameB s = true := by
      unfold rgetE at hz
      split at hz
      · assumption
      · simp at hz
    have hh : fHas l s = true := by
      unfold rgetE at hz
      rw [if_pos hn] at hz
      split at hz
      · assumption
      · simp at hz
    rw [if_pos hz]
    have hp : (mdelS kv s).Perm (kvF (rdelL l s)) := by
      rw [del_perm hn, hh, if_pos rfl]
      exact (same_del (k := .str) (e := .bytes) ⟨h.perm, h.nodup⟩ s).1
    have hs := rdel_sum l s
    have hl := rdel_len l s
    have h1 := hp.length_eq
    have h2 := sumL_perm hp
    have h3 := h.len
    have h4 := h.sum
    rw [kvF_len] at h1
    rw [h.lsum] at hs
    rw [h.llen] at hl
    refine ⟨?_, hp, by omega, by omega⟩
    unfold rdelL
    rw [if_pos hz]
    have hsub : (l.take (fIx l s) ++ l.drop (fIx l s + 1)).Sublist l := by
      conv => rhs; rw [← List.take_append_drop (fIx l s) l]
      refine List.Sublist.append (List.Sublist.refl _) ?_
      rw [← List.drop_drop]
      exact List.drop_sublist _ _
    exact h.srt.sublist hsub
  · rw [if_neg hz]
    have : rdelL l s = l := by unfold rdelL; rw [if_neg hz]
    rw [this]
    exact h
theorem mdel_get {kv : List (Str × Str)} {s x : Str} (h : mgetS kv s = some x) : (mdelS kv s).length + 1 = kv.length ∧ sumL (mdelS kv s) + x.length = sumL kv := by
  induction kv with
  | nil => cases h
  | cons p kv ih =>
    have e : sumL (p :: kv) = p.2.length + sumL kv := by simp [sumL]
    unfold mgetS mdelS at *
    by_cases hp : p.1 = s
    · simp only [mget, if_pos hp, Option.some.injEq] at h
      simp only [mdel, if_pos hp, List.length_cons]
      rw [e, h]
      exact ⟨trivial, by omega⟩
    · simp only [mget, if_neg hp] at h
      have := ih h
      have e2 : sumL (p :: mdel (k := .str) (e := .bytes) kv s) = p.2.length + sumL (mdel (k := .str) (e := .bytes) kv s) := by simp [sumL]
      simp only [mdel, if_neg hp, List.length_cons]
      rw [e, e2]
      omega
theorem ite_iff {α : Type} {p q : Prop} [Decidable p] [Decidable q] {a b : α} (h : p ↔ q) : (if p then a else b) = if q then a else b := by
  by_cases hp : p
  · rw [if_pos hp, if_pos (h.1 hp)]
  · rw [if_neg hp, if_neg (fun hq => hp (h.2 hq))]
theorem Inv.put (h : Inv m r kv l) (s d : Str) : putE m r kv s d = rputE m r l s d := by
  unfold putE rputE
  by_cases hn : nameB s = true
  · rw [if_pos hn, if_pos hn]
    by_cases hl : 65536 < d.length
    · rw [if_pos hl, if_pos hl]
    · rw [if_neg hl, if_neg hl]
      have hg := h.get s
      have hdp := del_perm (l := l) hn
      have h3 := h.len
      have hlen := h.llen
      cases hh : fHas l s
      · rw [hh] at hg hdp
        simp only [Bool.false_eq_true, if_false] at hg hdp
        have e1 : (rdelL l s).length = l.length := by rw [← kvF_len, hdp, kvF_len]
        rw [hg, hdp, h.lsum, e1]
        have : ((none : Option Str) = none ∧ (kv.length : Int) = m ∨ r - sumL kv + (((none : Option Str).getD []).length : Int) < d.length) ↔ (m ≤ (l.length : Int) ∨ r - sumL kv < d.length) := by
          simp only [true_and, Option.getD_none, List.length_nil]
          omega
        exact ite_iff this
      · rw [hh] at hg hdp
        simp only [if_true] at hg hdp
        have hg2 := get_F (s := s) h.srt
        rw [hh, if_pos rfl] at hg2
        obtain ⟨a1, a2⟩ := mdel_get hg2
        have e1 : (rdelL l s).length + 1 = l.length := by rw [← kvF_len, hdp, a1, kvF_len]
        rw [hg, hdp]
        rw [h.lsum] at a2
        have : ((some (fAt l (fIx l s)).data : Option Str) = none ∧ (kv.length : Int) = m ∨ r - sumL kv + (((some (fAt l (fIx l s)).data : Option Str).getD []).length : Int) < d.length) ↔ (m ≤ ((rdelL l s).length : Int) ∨ r - sumL (mdelS (kvF l) s) < d.length) := by
          simp only [reduceCtorEq, false_and, false_or, Option.getD_some]
          omega
        exact ite_iff this
  · rw [if_neg hn, if_neg hn]
theorem not_key {kv : List (Str × Str)} {s : Str} (h : mgetS kv s = none) : kv.filter (fun p => !decide (p.1 = s)) = kv := by
  rw [List.filter_eq_self]
  intro p hp
  simp only [Bool.not_eq_true', decide_eq_false_iff_not]
  intro e
  induction kv with
  | nil => cases hp
  | cons q kv ih =>
    unfold mgetS at h ih
    by_cases hq : q.1 = s
    · simp [mget, hq] at h
    · simp only [mget, if_neg hq] at h
      rcases List.mem_cons.1 hp with rfl | hp
      · exact hq e
      · exact ih h hp
theorem kvF_ins (t : List File) (k : Nat) (s d : Str) : (kvF (t.take k ++ [⟨s, d⟩] ++ t.drop k)).Perm ((s, d) :: kvF t) := by
  have h2 : kvF t = kvF (t.take k) ++ kvF (t.drop k) := by unfold kvF; rw [← List.map_append, List.take_append_drop]
  have h1 : kvF (t.take k ++ [⟨s, d⟩] ++ t.drop k) = kvF (t.take k) ++ (s, d) :: kvF (t.drop k) := by unfold kvF; simp
  rw [h1, h2]
  exact List.perm_middle
theorem Inv.set (h : Inv m r kv l) (s d : Str) : Inv m r (putM m r kv s d) (rputL m r l s d) := by
  have hput := h.put s d
  unfold putM rputL
  rw [← hput]
  by_cases hz : putE m r kv s d = 0
  · rw [if_pos hz, if_pos hz]
    have hn : nameB s = true := by
      unfold putE at hz
      split at hz
      · assumption
      · simp at hz
    have hl : ¬ 65536 < d.length := by
      unfold putE at hz
      rw [if_pos hn] at hz
      split at hz
      · simp at hz
      · assumption
    have hc : ¬ (((mgetS kv s) = none ∧ (kv.length : Int) = m) ∨ r - sumL kv + ((mgetS kv s).getD []).length < d.length) := by
      unfold putE at hz
      rw [if_pos hn, if_neg hl] at hz
      split at hz
      · simp at hz
      · assumption
    have hg := h.get s
    have hfl : (kv.filter fun p => !decide (p.1 = s)).Perm (kvF (rdelL l s)) := by
      rw [del_perm hn]
      cases hh : fHas l s
      · rw [hh] at hg
        rw [not_key hg]
        exact h.perm
      · simp only [if_true]
        show List.Perm _ (mdel (k := .str) (e := .bytes) (kvF l) s)
        rw [mdel_filter (k := .str) (e := .bytes) (srt_nodup h.srt)]
        exact h.perm.filter _
    have hp : (msetS kv s d).Perm (kvF ((rdelL l s).take (fIx (rdelL l s) s) ++ [⟨s, d⟩] ++ (rdelL l s).drop (fIx (rdelL l s) s))) :=
      ((mset_perm (k := .str) (e := .bytes) h.nodup).trans (hfl.cons _)).trans (kvF_ins _ _ _ _).symm
    have h1 := hp.length_eq
    have h2 := sumL_perm hp
    have k1 := (kvF_ins (rdelL l s) (fIx (rdelL l s) s) s d).length_eq
    have k2 := sumL_perm (kvF_ins (rdelL l s) (fIx (rdelL l s) s) s d)
    have e3 : sumL ((s, d) :: kvF (rdelL l s)) = d.length + sumL (kvF (rdelL l s)) := by simp [sumL]
    rw [e3] at k2
    rw [List.length_cons, kvF_len (rdelL l s)] at k1
    have h3 := h.len
    have h4 := h.sum
    have hdp := del_perm (l := l) hn
    have hsrt : Srt (rdelL l s) ∧ ∀ f ∈ rdelL l s, f.name ≠ s := by
      refine ⟨(h.del s).srt, fun f hf e => ?_⟩
      have hm : (f.name, f.data) ∈ kvF (rdelL l s) := List.mem_map.2 ⟨f, hf, rfl⟩
      rw [← hfl.mem_iff, List.mem_filter] at hm
      simp [e] at hm
    refine ⟨ins_srt hsrt.1 hsrt.2, hp, ?_, ?_⟩
    · cases hh : fHas l s
      · rw [hh] at hg hdp
        simp only [Bool.false_eq_true, if_false] at hg hdp
        rw [hdp, h.lsum] at k2
        rw [hg] at hc
        simp only [Option.getD_none, List.length_nil] at hc
        omega
      · rw [hh] at hg hdp
        simp only [if_true] at hg hdp
        have hg2 := get_F (s := s) h.srt
        rw [hh, if_pos rfl] at hg2
        obtain ⟨a1, a2⟩ := mdel_get hg2
        rw [h.lsum] at a2
        rw [hdp] at k2
        rw [hg] at hc
        simp only [Option.getD_some] at hc
        omega
    · cases hh : fHas l s
      · rw [hh] at hg hdp
        simp only [Bool.false_eq_true, if_false] at hg hdp
        have e1 : (rdelL l s).length = l.length := by rw [← kvF_len, hdp, kvF_len]
        have := h.llen
        rw [hg] at hc
        simp only [true_and] at hc
        omega
      · rw [hh] at hg hdp
        simp only [if_true] at hg hdp
        have hg2 := get_F (s := s) h.srt
        rw [hh, if_pos rfl] at hg2
        obtain ⟨a1, a2⟩ := mdel_get hg2
        have e1 : (rdelL l s).length + 1 = l.length := by rw [← kvF_len, hdp, a1, kvF_len]
        have := h.llen
        omega
  · rw [if_neg hz, if_neg hz]
    exact h
end Go.V
