/-
  archive: Items of an archive of one application process.
  archive: the examples (alive).
  slices.Insert of one element that holds addresses.
  archive: an archive of any number of application processes, as it lies.
  archive: find, entries in an archive of any number of application processes.
  archive: Gaps and Items in an archive of any number of application processes.
-/
import Derived.Test.YtoohlpieakeecaaPart14
set_option linter.unusedVariables false
set_option linter.unusedSimpArgs false
set_option maxRecDepth 100000
set_option maxHeartbeats 8000000
namespace Go.V
open Go.Proofs
def toI (x : Ent) : Itm := ⟨x.apid, x.cnt, x.time, x.data⟩
def itmK (xs : List Ent) (k : Nat) : List Itm := (xs.take k).map toI
theorem itmK_next {xs : List Ent} {k : Nat} (h : k < xs.length) : itmK xs (k + 1) = itmK xs k ++ [toI (xs.getD k Ent.zero)] := by
  unfold itmK
  rw [List.take_succ_eq_append_getElem h, List.map_append, List.getD_eq_getElem?_getD, List.getElem?_eq_getElem h]
  rfl
theorem itmK_len {xs : List Ent} {k : Nat} (h : k ≤ xs.length) : (itmK xs k).length = k := by unfold itmK; rw [List.length_map, List.length_take]; omega
theorem b_itmO (p : Int) (xs : List Ent) (hl : 0 < xs.length) (hc : xs.length ≤ 900000) (hd : ∀ k, (xs.getD k Ent.zero).data.length ≤ 1099511627776) :
    DoesK Try.prog 1 20 [.ptr 0 0, .int .i64 p] [.pack (AO p xs)] (EndF 1 (.ro .itm (xs.map toI)) ([.pack (AO p xs)] ++ [])) := by
  refine DoesK.close ?_
  refine w_body (rs := [.tmp 4]) (tm := [.ptr 0 0, .int .i64 p, .any, .any, .any, .any, .any, .any, .any, .any, .any, .any, .any, .any, .any, .any, .any, .any, .any, .any, .any, .any, .any, .any]) fn_20 rfl rfl rfl rfl fun R hR => ?_
  refine w_open 0 rfl rfl ?_
  simp only [go_sem, decide_true, decide_false, Int.reduceToNat, Nat.min_eq_left, Nat.min_eq_right, Int.reducePow, Nat.reducePow, Int.reduceLE, Int.reduceLT, Int.reduceMul, Int.reduceAdd, Int.reduceSub, Int.reduceNeg, Bool.not_true, Bool.not_false, Bool.not_not, ↓reduceIte, Nat.reduceAdd, Nat.reduceSub, Nat.reduceMul, Nat.reduceEqDiff, reduceCtorEq, Nat.reduceLT, Nat.reduceLeDiff, Nat.reduceGT]
  (all_goals (try ((first | (with_reducible refine wp_id ?_) | (with_reducible refine does_id ?_) | (with_reducible refine ops_id ?_)); refine walk ?_; (repeat' (first | exact trivial | with_reducible refine And.intro ?_ ?_)); all_goals (repeat (first | (with_reducible refine ImpB.mk fun hb => ?_) | (with_reducible refine ImpK.mk fun hK => ?_) | (with_reducible refine ImpF.mk fun hF => ?_) | (with_reducible refine ImpQ.mk fun hp => ?_) | (with_reducible refine AllE.mk fun p => ?_) | (with_reducible refine AllR.mk fun rest => ?_) | (with_reducible refine AllK.mk fun K => ?_))))); repeat' (with_reducible refine And.intro ?_ ?_))
  refine Wp.ghost (gh_adopt (s := 5) .itm trivial) ?_
  simp only [go_sem, decide_true, decide_false, Int.reduceToNat, Nat.min_eq_left, Nat.min_eq_right, Int.reducePow, Nat.reducePow, Int.reduceLE, Int.reduceLT, Int.reduceMul, Int.reduceAdd, Int.reduceSub, Int.reduceNeg, Bool.not_true, Bool.not_false, Bool.not_not, ↓reduceIte, Nat.reduceAdd, Nat.reduceSub, Nat.reduceMul, Nat.reduceEqDiff, reduceCtorEq, Nat.reduceLT, Nat.reduceLeDiff, Nat.reduceGT]
  any_goals ((try (refine w_seq fun K hK => ?_)); (try (refine w_block ?_)); refine w_loop (A := Nat) (fun k => k ≤ xs.length) (fun k => xs.length - k) (fun k => [(5, .sl 3 .itm 0 k), (12, .int .i64 k)]) (fun k => [(3, .rows .itm (itmK xs k))]) (0) (ws := ?ws1) (tk := ?tk1) ?hw1 ?ht1 ?hi ?h0 ?LH1; (case hw1 => simp only [go_sem, decide_true, decide_false, Int.reduceToNat, Nat.min_eq_left, Nat.min_eq_right, Int.reducePow, Nat.reducePow, Int.reduceLE, Int.reduceLT, Int.reduceMul, Int.reduceAdd, Int.reduceSub, Int.reduceNeg, Bool.not_true, Bool.not_false, Bool.not_not, ↓reduceIte, Nat.reduceAdd, Nat.reduceSub, Nat.reduceMul, Nat.reduceEqDiff, reduceCtorEq, Nat.reduceLT, Nat.reduceLeDiff, Nat.reduceGT]; exact rfl); (case ht1 => simp only [go_sem, decide_true, decide_false, Int.reduceToNat, Nat.min_eq_left, Nat.min_eq_right, Int.reducePow, Nat.reducePow, Int.reduceLE, Int.reduceLT, Int.reduceMul, Int.reduceAdd, Int.reduceSub, Int.reduceNeg, Bool.not_true, Bool.not_false, Bool.not_not, ↓reduceIte, Nat.reduceAdd, Nat.reduceSub, Nat.reduceMul, Nat.reduceEqDiff, reduceCtorEq, Nat.reduceLT, Nat.reduceLeDiff, Nat.reduceGT]; exact rfl); (case' LH1 => rintro k E t hx hE ht; simp only [go_sem] at ht; subst ht; simp only [go_sem]; try dsimp only at hx))
  case hi => exact Nat.zero_le _
  case h0 =>
    (focus (refine ⟨_, _, Gh.refl, [0, 1, 2, 3], rfl, ?_⟩; (refine fitq ?_ ?_ ?_ <;> try exact trivial); (try any_goals (refine ⟨?_, ?_⟩)); (try any_goals (with_reducible rfl))))
    all_goals (repeat' (first | (refine And.intro ?_ ?_) | rfl))
  case LH1 =>
    have hk0 : k ≤ xs.length := hx
    have hw : IntKind.i64.wrap ((k : Int) + 1) = ((k + 1 : Nat) : Int) := by rw [wrap_i64 _ (by omega) (by omega)]; omega
    have hkl := itmK_len hk0
    by_cases hk : k < xs.length
    · have hkd : decide ((k : Int) < (xs.length : Int)) = true := decide_eq_true (by omega)
      have q2 := hd k
      have hn := itmK_next hk
      obtain ⟨y, hy⟩ : ∃ y, xs.getD k Ent.zero = y := ⟨_, rfl⟩
      rw [hy] at q2 hn
      have hn2 : itmK xs (k + 1) = itmK xs k ++ [⟨y.apid, y.cnt, y.time, y.data⟩] := hn
      (have zx1 := @hkd; have zx2 := @hw; have zx3 := @hy; have zx4 := @hkl; all_goals (try ((first | (with_reducible refine wp_id ?_) | (with_reducible refine does_id ?_) | (with_reducible refine ops_id ?_)); refine walk ?_; (repeat' (first | exact trivial | with_reducible refine And.intro ?_ ?_)); all_goals (repeat (first | (with_reducible refine ImpB.mk fun hb => ?_) | (with_reducible refine ImpK.mk fun hK => ?_) | (with_reducible refine ImpF.mk fun hF => ?_) | (with_reducible refine ImpQ.mk fun hp => ?_) | (with_reducible refine AllE.mk fun p => ?_) | (with_reducible refine AllR.mk fun rest => ?_) | (with_reducible refine AllK.mk fun K => ?_))))); repeat' (with_reducible refine And.intro ?_ ?_))
      any_goals first | exact Int.natCast_nonneg _ | (show (k : Int) < (xs.length : Int); omega) | (show k < xs.length; omega) | (show (k + 1) * 48 ≤ 140737488355328; omega) | (show k ≤ (_ : Nat); omega)
      refine ⟨k + 1, ⟨(by omega : k + 1 ≤ xs.length), (by first | omega | (dsimp only; omega))⟩, ?_⟩
      dsimp only
      rw [hn2]
      (focus (refine ⟨_, _, Gh.refl, [0, 1, 2, 6], rfl, ?_⟩; (refine fitq ?_ ?_ ?_ <;> try exact trivial); (try any_goals (refine ⟨?_, ?_⟩)); (try any_goals (with_reducible rfl))))
      all_goals (repeat' (first | (refine And.intro ?_ ?_) | rfl))
    · have hkd : decide ((k : Int) < (xs.length : Int)) = false := decide_eq_false (by omega)
      have hke : k = xs.length := by omega
      have hg : itmK xs k = xs.map toI := by rw [hke]; unfold itmK; rw [List.take_length]
      rw [hg] at hkl ⊢
      refine Wp.ghost (gh_frz (t := 3) (e := .itm) (xs := xs.map toI) rfl ?_ ?_) ?_
      · simp only [go_sem, decide_true, decide_false, Int.reduceToNat, Nat.min_eq_left, Nat.min_eq_right, Int.reducePow, Nat.reducePow, Int.reduceLE, Int.reduceLT, Int.reduceMul, Int.reduceAdd, Int.reduceSub, Int.reduceNeg, Bool.not_true, Bool.not_false, Bool.not_not, ↓reduceIte, Nat.reduceAdd, Nat.reduceSub, Nat.reduceMul, Nat.reduceEqDiff, reduceCtorEq, Nat.reduceLT, Nat.reduceLeDiff, Nat.reduceGT]
        exact ⟨by rw [List.length_map]; omega, fun q => q.elim⟩
      · simp only [go_sem, decide_true, decide_false, Int.reduceToNat, Nat.min_eq_left, Nat.min_eq_right, Int.reducePow, Nat.reducePow, Int.reduceLE, Int.reduceLT, Int.reduceMul, Int.reduceAdd, Int.reduceSub, Int.reduceNeg, Bool.not_true, Bool.not_false, Bool.not_not, ↓reduceIte, Nat.reduceAdd, Nat.reduceSub, Nat.reduceMul, Nat.reduceEqDiff, reduceCtorEq, Nat.reduceLT, Nat.reduceLeDiff, Nat.reduceGT]
        exact fun q => q.elim
      have htk : (xs.map toI).take k = xs.map toI := List.take_of_length_le (by rw [List.length_map]; omega)
      simp only [go_sem, decide_true, decide_false, Int.reduceToNat, Nat.min_eq_left, Nat.min_eq_right, Int.reducePow, Nat.reducePow, Int.reduceLE, Int.reduceLT, Int.reduceMul, Int.reduceAdd, Int.reduceSub, Int.reduceNeg, Bool.not_true, Bool.not_false, Bool.not_not, ↓reduceIte, Nat.reduceAdd, Nat.reduceSub, Nat.reduceMul, Nat.reduceEqDiff, reduceCtorEq, Nat.reduceLT, Nat.reduceLeDiff, Nat.reduceGT, htk]
      (have zx1 := @hkd; all_goals (try ((first | (with_reducible refine wp_id ?_) | (with_reducible refine does_id ?_) | (with_reducible refine ops_id ?_)); refine walk ?_; (repeat' (first | exact trivial | with_reducible refine And.intro ?_ ?_)); all_goals (repeat (first | (with_reducible refine ImpB.mk fun hb => ?_) | (with_reducible refine ImpK.mk fun hK => ?_) | (with_reducible refine ImpF.mk fun hF => ?_) | (with_reducible refine ImpQ.mk fun hp => ?_) | (with_reducible refine AllE.mk fun p => ?_) | (with_reducible refine AllR.mk fun rest => ?_) | (with_reducible refine AllK.mk fun K => ?_))))); repeat' (with_reducible refine And.intro ?_ ?_))
      (focus (refine ⟨_, _, gh_close (t := 0) (ts := [1, 2]) (l := AO p xs) ⟨⟨_, _, rfl⟩, ?_, by simp⟩, [0], rfl, ?_⟩; all_goals (refine fitq ?_ ?_ ?_ <;> try exact trivial); (try any_goals (refine ⟨?_, ?_⟩)); (try any_goals (with_reducible rfl))))
      all_goals (repeat' (first | (refine And.intro ?_ ?_) | rfl))
structure okD (xs : List Ent) : Prop where
  pos : 0 < xs.length
  len : xs.length ≤ 900000
  dat : ∀ k, (xs.getD k Ent.zero).data.length ≤ 1099511627776
theorem c_itmS {h : List Ch} {K : KT} {u : Nat} {p q : Int} {xs : List Ent} (H : K (.ro .itm (xs.map toI)) h) (o : hth h u = .pack (ASL q xs)) (e1 : okD xs) (s1 : p = q) : Does Try.prog 20 [.ptr u 0, .int .i64 p] h K := by
  subst s1
  have o2 := o
  rw [ASL_pos e1.pos] at o2
  exact frame_obj0 (b_itmO p xs e1.pos e1.len e1.dat) o2 (by simp) (fitC_pack _) (br_cons (br_ptr rfl) (br_cons br_int br_nil)) (.inl rfl) (fun _ => rfl) rfl (by rw [set_hth o2 (by simp)]; exact H)
abbrev i_itmS := Ctr.mk (i := 0) (g := 20) @c_itmS
attribute [instance] i_itmS
end Go.V

set_option maxRecDepth 100000
set_option maxHeartbeats 8000000
namespace Go.V
open Go.Proofs
attribute [-go_sem] AE AO
theorem okE_of {xs : List Ent} (h1 : xs.length ≤ 1000) (h2 : decide (-1000000 ≤ (eAt xs (xs.length - 1)).count ∧ (eAt xs (xs.length - 1)).count ≤ 1000000) = true) : okE xs := by
  have := of_decide_eq_true h2
  exact ⟨by omega, by omega, by omega⟩
abbrev xa1 : List Ent := [⟨16382, 0, 16382, 0, []⟩]
abbrev xa2 : List Ent := [⟨16382, 0, 16382, 0, []⟩, ⟨16385, 0, 1, 0, []⟩]
abbrev xa3 : List Ent := [⟨16382, 0, 16382, 0, []⟩, ⟨16383, 0, 16383, 0, []⟩, ⟨16385, 0, 1, 0, []⟩]
abbrev xb1 : List Ent := [⟨5, 2, 5, 0, []⟩]
abbrev xb2 : List Ent := [⟨-4, 2, 16380, 0, []⟩, ⟨5, 2, 5, 0, []⟩]
abbrev xb3 : List Ent := [⟨-4, 2, 16380, 0, []⟩, ⟨5, 2, 5, 0, []⟩, ⟨8197, 2, 8197, 0, []⟩]
theorem b_alive : DoesK Try.prog 0 8 [] [] (EndF 0 (.bool true) []) := by
  refine DoesK.close ?_
  have hro : RoLit := .mk
  have i1 : isIt 0 16382 0 := ⟨by decide, by decide, by decide, by decide, by decide, by decide⟩
  have i2 : isIt 0 1 0 := ⟨by decide, by decide, by decide, by decide, by decide, by decide⟩
  have i3 : isIt 0 16383 0 := ⟨by decide, by decide, by decide, by decide, by decide, by decide⟩
  have i4 : isIt 2 5 0 := ⟨by decide, by decide, by decide, by decide, by decide, by decide⟩
  have i5 : isIt 2 16380 0 := ⟨by decide, by decide, by decide, by decide, by decide, by decide⟩
  have i6 : isIt 2 8197 0 := ⟨by decide, by decide, by decide, by decide, by decide, by decide⟩
  have o1 : okE xa1 := okE_of (by decide) (by decide)
  have o2 : okE xa2 := okE_of (by decide) (by decide)
  have o3 : okE xa3 := okE_of (by decide) (by decide)
  have o4 : okE xb1 := okE_of (by decide) (by decide)
  have o5 : okE xb2 := okE_of (by decide) (by decide)
  have a1 : addS 0 1 0 xa1 = (xa2, 0) := by decide
  have a2 : addS 0 16383 0 xa2 = (xa3, 0) := by decide
  have a3 : addS 0 1 0 xa3 = (xa3, 9) := by decide
  have a4 : addS 2 16380 0 xb1 = (xb2, 0) := by decide
  have a5 : addS 2 8197 0 xb2 = (xb3, 0) := by decide
  have g1 : gapsF xa3 = [⟨16384, 16385⟩] := by decide
  have o6 : okC xa3 := ⟨by decide, fun k => by
    rcases k with _ | _ | _ | k
    · exact ⟨by decide, by decide⟩
    · exact ⟨by decide, by decide⟩
    · exact ⟨by decide, by decide⟩
    · exact (by decide : (-4611686018427387904 : Int) ≤ Ent.zero.count ∧ Ent.zero.count ≤ 4611686018427387904)⟩
  have o7 : okD xb3 := ⟨by decide, by decide, fun k => by
    rcases k with _ | _ | _ | k <;> exact (by decide : (0 : Nat) ≤ 1099511627776)⟩
  have dT : xb3.map toI = [⟨2, 16380, 0, []⟩, ⟨2, 5, 0, []⟩, ⟨2, 8197, 0, []⟩] := rfl
  generalize hxa1 : xa1 = A1 at *
  generalize hxa2 : xa2 = A2 at *
  generalize hxa3 : xa3 = A3 at *
  generalize hxb1 : xb1 = B1 at *
  generalize hxb2 : xb2 = B2 at *
  generalize hxb3 : xb3 = B3 at *
  have l3 : A3.length = 3 := by rw [← hxa3]; rfl
  refine w_body (rs := [.tmp 0]) (tm := [.any, .any, .any, .any, .any, .any, .any, .any, .any, .any, .any, .any, .any, .any, .any, .any, .any, .any, .any, .any, .any, .any, .any, .any, .any, .any, .any, .any, .any, .any, .any, .any, .any, .any, .any, .any, .any, .any, .any, .any, .any, .any, .any, .any, .any, .any, .any, .any, .any, .any, .any, .any, .any, .any, .any, .any, .any, .any, .any, .any, .any, .any, .any, .any, .any, .any, .any, .any, .any, .any, .any, .any, .any, .any, .any, .any]) fn_8 rfl rfl rfl rfl fun R hR => ?_
  (have zx1 := @g1; have zx2 := @dT; have zx3 := @hxa1; have zx4 := @hxb1; have zx5 := @l3; all_goals (try ((first | (with_reducible refine wp_id ?_) | (with_reducible refine does_id ?_) | (with_reducible refine ops_id ?_)); refine walk ?_; (repeat' (first | exact trivial | with_reducible refine And.intro ?_ ?_)); all_goals (repeat (first | (with_reducible refine ImpB.mk fun hb => ?_) | (with_reducible refine ImpK.mk fun hK => ?_) | (with_reducible refine ImpF.mk fun hF => ?_) | (with_reducible refine ImpQ.mk fun hp => ?_) | (with_reducible refine AllE.mk fun p => ?_) | (with_reducible refine AllR.mk fun rest => ?_) | (with_reducible refine AllK.mk fun K => ?_))))); repeat' (with_reducible refine And.intro ?_ ?_))
  all_goals first | exact absurd hb (by decide) | exact (by decide : (0 : Int) < ((3 : Nat) : Int)) | exact (by decide : (2 : Int) < ((3 : Nat) : Int)) | skip
  (focus (refine ⟨_, _, Gh.refl, [], rfl, ?_⟩; (refine fitq ?_ ?_ ?_ <;> try exact trivial); (try any_goals (refine ⟨?_, ?_⟩)); (try any_goals (with_reducible rfl))))
  all_goals (repeat' (first | (refine And.intro ?_ ?_) | rfl))
theorem c_alive {h : List Ch} {K : KT} (H : K (.bool true) h) : Does Try.prog 8 [] h K :=
  frame_pure b_alive br_nil (.inl rfl) (fun _ => rfl) H
abbrev i_alive := Ctr.mk (i := 0) (g := 8) @c_alive
attribute [instance] i_alive
end Go.V

set_option maxRecDepth 100000
set_option maxHeartbeats 8000000
namespace Go.V
open Go.Proofs Go.Lib Go.Shelf Go.RowKit
theorem ins_okC [ETab] {P : Program} {F T E s : Nat} (hr : Here P F) (hk : kdT P T = .slice E) (hsz : szT P E = s) (hs0 : s ≠ 0) (hzl : zlenT P E = s) (hby : bytesT P E ≤ 1024)
    (hE : ∀ (a : Option Addr) (n c vb vo vc : Nat) (v : Value) (w w1 : World), n ≤ c → c ≤ 9223372036854775807 → (a = none → n = 0 ∧ c = 0) →
      (Builtin.append_ #[T, T] T #[.slice a n c, .slice (some ⟨vb, vo, none⟩) 1 vc]).run P w = .ok v w1 → Calls P F #[.slice a n c, .int .i64 n, .slice (some ⟨vb, vo, none⟩) 1 vc] w fun e w' => e = .returned v ∧ w' = w1)
    (hS : ∀ (b n c vb vo vc i : Nat) (cur : Array Value) (ty : TypeId) (vs : List Value) (w : World), i < n → n + 1 ≤ c → c ≤ 9223372036854775807 → vb ≠ b → w.heap[b]? = some (.cells cur ty (0, 0)) → c * s ≤ cur.size → (∀ v ∈ cur.toList.take (n * s), v.oneCell' = true) →
      vs.length = s → (∀ j v, vs[j]? = some v → w.cell? ⟨vb, vo + j, none⟩ = some v) → (∀ v ∈ vs, v.oneCell' = true) → ∀ (tA : TypeId) (kA : Nat), w.shape? vb = some (tA, kA) → w.frozen? ⟨vb, vo, none⟩ = false → w.frozen? ⟨vb, kA, none⟩ = false →
      Calls P F #[.slice (some ⟨b, 0, none⟩) n c, .int .i64 i, .slice (some ⟨vb, vo, none⟩) 1 vc] w fun e' w' => e' = .returned (.slice (some ⟨b, 0, none⟩) (n + 1) c) ∧ ∃ row, row.toList.take ((n + 1) * s) = cur.toList.take (i * s) ++ vs ++ (cur.toList.take (n * s)).drop (i * s) ∧ row.size = cur.size ∧ w' = w.drew.setRow b row)
    (hG : ∀ (b n c vb vo vc i : Nat) (cur : Array Value) (ty : TypeId) (vs : List Value) (w : World), i < n → n ≤ c → c < n + 1 → (n + 1) * bytesT P E ≤ 140737488355328 → w.heap[b]? = some (.cells cur ty (0, 0)) → c * s ≤ cur.size → (∀ v ∈ cur.toList.take (n * s), v.oneCell' = true) →
      vs.length = s → vb < w.heap.size → (∀ j v, vs[j]? = some v → w.cell? ⟨vb, vo + j, none⟩ = some v) → (∀ v ∈ vs, v.oneCell' = true) →
      Calls P F #[.slice (some ⟨b, 0, none⟩) n c, .int .i64 i, .slice (some ⟨vb, vo, none⟩) 1 vc] w fun e' w' => ∃ G row, e' = .returned (.slice (some ⟨w.heap.size, 0, none⟩) (n + 1) G) ∧ n + 1 ≤ G ∧ G ≤ maxLen ∧
        row.toList.take ((n + 1) * s) = cur.toList.take (i * s) ++ vs ++ (cur.toList.take (n * s)).drop (i * s) ∧ row.size = G * s ∧ w'.heap[w.heap.size]? = some (.cells row E (0, 0)) ∧
        (∀ m, m < w.heap.size → w'.heap[m]? = w.heap[m]?) ∧ w'.heap.size = w.heap.size + 1 ∧ w'.os = w.os ∧ w'.tape = w.tape ∧ w'.output = w.output ∧ w.drawn ≤ w'.drawn)
    {h : List Ch} {K : KT} {t u n i : Nat} {xs ys : List AV} (hn : xs.length = n * s) (hy : ys.length = s) (hi : i ≤ n) (hlen : n ≤ 1000000000) (hne : t ≠ u) (hxo : okCells xs) (hyo : okCells ys) (o : hth h t = .crow xs) (o1 : hth h u = .crow ys)
    (H : K (.csl h.length (n + 1) s) (h.set t .gone ++ [.crow (xs.take (i * s) ++ ys ++ xs.drop (i * s))])) : Does P F [.csl t n s, .int .i64 (i : Int), .csl u 1 s] h K := by
  refine ⟨hr, fun R μ w vs hv H0 => ?_⟩
  have hg := hth_get o (by simp)
  have hg1 := hth_get o1 (by simp)
  cases hv with
  | cons hs h2 =>
  cases h2 with
  | cons hii h3 =>
  cases h3 with
  | cons hx h4 =>
  cases h4
  cases hii
  have his : i * s ≤ n * s := Nat.mul_le_mul_right _ hi
  have hll : (xs.take (i * s) ++ ys ++ xs.drop (i * s)).length = (n + 1) * s := by
    rw [List.length_append, List.length_append, List.length_take, List.length_drop, hn, hy, Nat.min_eq_left his, Nat.add_mul, Nat.one_mul]
    omega
  rcases Nat.lt_or_ge i n with hlt | hge
  · -- in the middle
    obtain ⟨B, hB, ⟨b, cur, ty, rfl, hb, hrel⟩, hown⟩ := H0.rel.get hg
    obtain ⟨B1, hB1, ⟨vb, varr, vty, rfl, hvb, hvrel⟩, hown1⟩ := H0.rel.get hg1
    generalize hone : (1 : Nat) = ONE at hx
    cases hs with
    | @csl _ _ _ _ b2 k2 c h1 hl hk2 hm =>
    cases hx with
    | @csl _ _ _ _ vb2 kv2 vc k1 kl kk2 km =>
    subst hone
    rw [hB] at h1
    rw [hB1] at k1
    simp only [Option.some.injEq, Bind.arr.injEq] at h1 k1
    obtain ⟨rfl, rfl⟩ := h1
    obtain ⟨rfl, rfl⟩ := k1
    have hvs0 : LRel R μ ys (varr.toList.take s) := by rw [hy] at hvrel; exact hvrel
    obtain ⟨vs, hvs⟩ : ∃ vs, vs = varr.toList.take s := ⟨_, rfl⟩
    rw [← hvs] at hvs0
    have hvlen : vs.length = s := by rw [← hvs0.len, hy]
    have hone1 : ∀ v ∈ vs, v.oneCell' = true := lrel_one hvs0 (okCells_cell hyo)
    have hcell : ∀ j v, vs[j]? = some v → w.cell? ⟨vb, 0 + j, none⟩ = some v := fun j v hj => by
      rw [Nat.zero_add, cell_at hvb, ← Array.getElem?_toList]
      rw [hvs, List.getElem?_take] at hj
      split at hj
      · exact hj
      · cases hj
    rw [hn] at hrel
    have hcur1 : ∀ v ∈ cur.toList.take (n * s), v.oneCell' = true := lrel_one hrel (okCells_cell hxo)
    have hbne : vb ≠ b := fun q => by
      subst q
      exact own_apart H0.nodup hne hg hB hg1 hB1 vb (by simp [ownC]) (by simp [ownC])
    have hvw : vb < w.heap.size := (Array.getElem?_eq_some_iff.1 hvb).1
    have hnew : ∀ row : Array Value, row.toList.take ((n + 1) * s) = cur.toList.take (i * s) ++ vs ++ (cur.toList.take (n * s)).drop (i * s) →
        LRel R μ (xs.take (i * s) ++ ys ++ xs.drop (i * s)) (row.toList.take (xs.take (i * s) ++ ys ++ xs.drop (i * s)).length) := fun row hrow => by
      rw [hll, hrow]
      have e1 : cur.toList.take (i * s) = (cur.toList.take (n * s)).take (i * s) := by
        rw [List.take_take, Nat.min_eq_left his]
      rw [e1]
      exact ((hrel.take _).app hvs0).app (hrel.drop _)
    by_cases hroom : n + 1 ≤ c
    · refine (hS b n c vb 0 vc i cur ty vs w hlt hroom (by unfold maxLen at hm; omega) hbne hb hk2 hcur1 hvlen hcell hone1 vty varr.size (by simp [World.shape?, hvb]) (by simp [World.frozen?, hvb]) (by simp [World.frozen?, hvb])).mono ?_
      rintro e' w' ⟨rfl, row, hrow, hrz, rfl⟩
      obtain ⟨H1, hst⟩ := H0.move (c' := .crow (xs.take (i * s) ++ ys ++ xs.drop (i * s))) (B' := .arr b cur.size) (w' := w.drew.setRow b row) hg hB (by simp [ownC]) (fun m _ hm => setRow_other w.drew b m _ (fun q => hm (by simp [ownC, q]))) (by simp)
        ⟨b, row, ty, by rw [hrz], setRow_heap w.drew b cur row ty (0, 0) hb, (hnew row hrow).mono (RO.le.refl R) (Ext.app _ _)⟩ rfl rfl rfl (Nat.le_succ _)
      exact ⟨_, R, _, _, _, rfl, H, rel_csl H0.rel.len hroom hk2 hm, H1, Ext.app _ _, hst⟩
    · refine (hG b n c vb 0 vc i cur ty vs w hlt (by omega) (by omega) ?_ hb hk2 hcur1 hvlen hvw hcell hone1).mono ?_
      · have := Nat.mul_le_mul (show n + 1 ≤ 1000000001 by omega) hby
        omega
      rintro e' w' ⟨G, row, rfl, hg1', hg2, hrow, hrz, hhp, hold, hws, q1, q2, q3, q4⟩
      have hgone := H0.set (c' := .gone) (w' := w) hg hB (gone_sub _ _) (fun _ _ _ => rfl) (Nat.le_refl _) trivial rfl rfl rfl
      obtain ⟨H1, hst⟩ := hgone.1.push (c := .crow (xs.take (i * s) ++ ys ++ xs.drop (i * s))) (B := .arr w.heap.size row.size) (w' := w') hold (by omega) (by simp [ownC]) (fun m hm => by simp [ownC] at hm; subst hm; exact ⟨Nat.le_refl _, by omega⟩)
        ⟨w.heap.size, row, E, rfl, hhp, (hnew row hrow).mono (RO.le.refl R) (Ext.app _ _)⟩ q1 q2 q3 q4
      exact ⟨_, R, _, _, _, rfl, H, rel_csl H0.rel.len hg1' (by rw [hrz]; exact Nat.le_refl _) hg2, H1, Ext.app _ _, hgone.2.trans hst⟩
  · -- at the end
    obtain rfl : i = n := by omega
    have hK : appCK P T (.csl t i s) u 1 s h (fun v h' => v = .csl h.length (i + 1) s ∧ h' = h.set t .gone ++ [.crow (xs ++ ys)]) := by
      unfold appCK
      rw [hk]
      simp only [o, o1, hsz]
      rw [Nat.one_mul]
      have ht1 : ys.take s = ys := List.take_of_length_le (by omega)
      have ht2 : xs.take (i * s) = xs := List.take_of_length_le (by omega)
      have hbb := Nat.mul_le_mul (show i + 1 ≤ 1000000001 by omega) hby
      simp only [ht1, ht2]
      refine ⟨⟨hs0, hzl, ?_, ?_, hyo, ?_⟩, ⟨hne, ?_, ?_, ?_, ?_⟩, ?_⟩
      all_goals first | exact trivial | rfl | omega | (unfold maxBytes; omega) | exact ⟨rfl, rfl⟩ | exact ⟨trivial, trivial⟩ | skip
    have hfin : xs.take (i * s) ++ ys ++ xs.drop (i * s) = xs ++ ys := by rw [← hn, List.take_length, List.drop_length, List.append_nil]
    rw [hfin] at H
    generalize hone : (1 : Nat) = ONE at hx
    have hx0 := hx
    cases hx with
    | @csl _ _ _ _ vb vk vc k1 kl kk2 km =>
    have hs1 := hs
    cases hs with
    | @csl _ _ _ _ b k c h1 hl hk2 hm =>
    subst hone
    obtain ⟨v, w1, R', μ', h', av, hrun, ⟨rfl, rfl⟩, hrel, H1, hext, hst⟩ := appCK_ok (ty := T) H0 ⟨_, hk⟩ hs1 hx0 hK
    refine (hE (some ⟨b, 0, none⟩) i c vb 0 vc v w w1 hl (by unfold maxLen at hm; omega) (fun q => by cases q) hrun).mono ?_
    rintro e' w' ⟨rfl, rfl⟩
    exact ⟨_, R', μ', _, _, rfl, H, hrel, H1, hext, hst⟩
theorem insS_prc (b n c vb vo vc i : Nat) (cur : Array Value) (ty : TypeId) (vs : List Value) (w : World) (hi : i < n) (hroom : n + 1 ≤ c) (hc63 : c ≤ 9223372036854775807) (hvb : vb ≠ b)
    (hb : w.heap[b]? = some (.cells cur ty (0, 0))) (hsz : c * 2 ≤ cur.size) (h1c : ∀ v ∈ cur.toList.take (n * 2), v.oneCell' = true)
    (hvl : vs.length = 2) (hvs : ∀ j v, vs[j]? = some v → w.cell? ⟨vb, vo + j, none⟩ = some v) (h1v : ∀ v ∈ vs, v.oneCell' = true)
    (tA : TypeId) (kA : Nat) (hsa : w.shape? vb = some (tA, kA)) (hfa : w.frozen? ⟨vb, vo, none⟩ = false) (hfe : w.frozen? ⟨vb, kA, none⟩ = false) :
    Calls Try.prog 30 #[.slice (some ⟨b, 0, none⟩) n c, .int .i64 i, .slice (some ⟨vb, vo, none⟩) 1 vc] w fun e w' => e = .returned (.slice (some ⟨b, 0, none⟩) (n + 1) c) ∧ ∃ row, row.toList.take ((n + 1) * 2) = cur.toList.take (i * 2) ++ vs ++ (cur.toList.take (n * 2)).drop (i * 2) ∧ row.size = cur.size ∧ w' = w.drew.setRow b row := by
  have hz1 : ¬ ((1 : Int) = 0) := by omega
  have hz2 : ¬ ((i : Int) = (n : Int)) := by omega
  have hw1 : IntKind.i64.wrap ((i : Int) + (1 : Int)) = (i : Int) + (1 : Int) := by rw [IntKind.wrap_i64]; omega
  have hb1 : (0 : Int) ≤ (i : Int) + (1 : Int) := by omega
  have hin : i ≤ n := by omega
  have htn : ((i : Int) + (1 : Int)).toNat = i + 1 := by omega
  have hb3 : (i : Int) ≤ (n : Int) + (1 : Int) := by omega
  have hb2 : ¬ (c = i + 1) := by omega
  have hb4 : ¬ (c = i) := by omega
  have hsz4 : (Try.prog.info? 63).map (·.size) = some 2 := by kernel_rfl
  have hu : Try.prog.underlying 55 = some (.slice 63) := Try.underlying55
  have hsb : ∃ tB kB, w.shape? b = some (tB, kB) ∧ kB ≠ 0 := by
    refine ⟨ty, cur.size, by simp [World.shape?, hb], by omega⟩
  obtain ⟨tB, kB, hsb, hkB⟩ := hsb
  have hov : ∀ lb cb, (callFunc 48 #[.slice (some ⟨vb, vo, none⟩) 1 vc, .slice (some ⟨b, (i + 1) * 2, none⟩) lb cb]).run Try.prog w = .ok (.value (.bool false)) w := fun lb cb => by
    rw [run_callFunc_extern Try.func48 (by kernel_rfl) (by kernel_rfl) (by kernel_rfl) (e := Extern.SlicesOverlaps.overlaps #[55, 55] #[4]) (by kernel_rfl),
      Lib.run_overlaps_apart w 55 4 63 hu 2 Try.sizeOf63 ⟨vb, vo, none⟩ ⟨b, (i + 1) * 2, none⟩ 1 vc lb cb hvb tA tB kA kB hsa hsb hkB hfa hfe]
    rfl
  have mixed := mixed
  obtain ⟨cs, hcs⟩ : ∃ cs, cs = (cur.toList.take (n * 2)).drop (i * 2) := ⟨_, rfl⟩
  have hcl : cs.length = (n - i) * 2 := by
    rw [hcs, List.length_drop, List.length_take, Array.length_toList, Nat.min_eq_left (by omega), Nat.sub_mul]
  have hg1 : w.drew.heap[b]? = some (.cells cur ty (0, 0)) := hb
  obtain ⟨r1, hr1⟩ : ∃ r1, r1 = (cur.toList.take ((i + 1) * 2) ++ cs ++ cur.toList.drop ((i + 1) * 2 + cs.length)).toArray := ⟨_, rfl⟩
  have hcp1 : ∀ ty' dc sc, (Builtin.copy_ #[55, 55] ty' #[.slice (some ⟨b, (i + 1) * 2, none⟩) (n - i) dc, .slice (some ⟨b, i * 2, none⟩) (n + 1 - i) sc]).run Try.prog w.drew = .ok (goInt (Nat.min (n + 1 - i) (n - i))) (w.drew.setRow b r1) := fun ty' dc sc => by
    rw [hr1]
    refine run_copy_rowK _ w.drew _ _ ty' 63 b ((i + 1) * 2) (n - i) dc ⟨b, i * 2, none⟩ (n + 1 - i) sc cur ty cs 2 hu hsz4 hg1 ?_ ?_ ?_ ?_
    · rw [hcl, show Nat.min (n + 1 - i) (n - i) = n - i by simp only [Nat.min_def]; split <;> omega]
    · intro j v hj
      rw [Addr.add_lit]
      rw [hcs, List.getElem?_drop] at hj
      have hlt : i * 2 + j < n * 2 := by
        rcases Nat.lt_or_ge (i * 2 + j) (n * 2) with q | q
        · exact q
        · rw [List.getElem?_take_eq_none q] at hj; cases hj
      rw [List.getElem?_take_of_lt hlt] at hj
      simp only [World.cell?, hg1]
      simpa using hj
    · rw [hcl]; omega
    · intro v hv
      rw [hcs] at hv
      exact h1c v (List.mem_of_mem_drop hv)
  have hg2 : (w.drew.setRow b r1).heap[b]? = some (.cells r1 ty (0, 0)) := setRow_heap _ _ _ _ _ _ hg1
  have hr1z : r1.size = cur.size := by
    rw [hr1]
    simp only [List.size_toArray, List.length_append, List.length_take, List.length_drop, Array.length_toList, hcl]
    omega
  obtain ⟨r2, hr2⟩ : ∃ r2, r2 = (r1.toList.take (i * 2) ++ vs ++ r1.toList.drop (i * 2 + vs.length)).toArray := ⟨_, rfl⟩
  have hcp2 : ∀ ty' dc, (Builtin.copy_ #[55, 55] ty' #[.slice (some ⟨b, i * 2, none⟩) (n + 1 - i) dc, .slice (some ⟨vb, vo, none⟩) 1 vc]).run Try.prog (w.drew.setRow b r1) = .ok (goInt (Nat.min 1 (n + 1 - i))) (w.drew.setRow b r2) := fun ty' dc => by
    rw [← setRow_setRow w.drew b r1 r2, hr2]
    refine run_copy_rowK _ _ _ _ ty' 63 b (i * 2) (n + 1 - i) dc ⟨vb, vo, none⟩ 1 vc r1 ty vs 2 hu hsz4 hg2 ?_ ?_ ?_ h1v
    · rw [hvl, show Nat.min 1 (n + 1 - i) = 1 by simp only [Nat.min_def]; split <;> omega, Nat.one_mul]
    · intro j v hj
      rw [Addr.add_lit]
      have q := hvs j v hj
      have e : (w.drew.setRow b r1).heap[vb]? = w.heap[vb]? := by rw [setRow_other _ _ _ _ hvb]; rfl
      simp only [World.cell?] at q ⊢
      rw [e]
      exact q
    · rw [hvl, hr1z]; omega
  have hz2r : r2.size = cur.size := by
    rw [hr2]
    simp only [List.size_toArray, List.length_append, List.length_take, List.length_drop, Array.length_toList, hvl, hr1z, hsz]
    omega
  have hfin : r2.toList.take ((n + 1) * 2) = cur.toList.take (i * 2) ++ vs ++ (cur.toList.take (n * 2)).drop (i * 2) := by
    rw [← hcs, hr2, hr1]
    simp only []
    exact ins_list (by rw [Array.length_toList]; omega) (Nat.mul_le_mul_right _ hin) hcl hvl
  clear hr1 hr2 hcs
  go_enter Try.func30, Try.ntmps30
  go_wp2_with (simp only [hov])
  go_region_law_o (refine step_copy_runI rfl _ _ 55 55 rfl _ _ (by simp [Act.eval, Act.put]) (by simp [Act.eval, Act.put]) (hcp1 _ _ _) ?_)
  go_wp2_with (at_builtin; refine wpList_copy_runI _ rfl _ _ 55 55 rfl _ _ rfl rfl (hcp2 _ _) ?_)
  go_ret
  exact ⟨rfl, r2, hfin, hz2r, rfl⟩
theorem insG_prc (b n c vb vo vc i : Nat) (cur : Array Value) (ty : TypeId) (vs : List Value) (w : World) (hi : i < n) (hnc : n ≤ c) (hroom : c < n + 1) (hbig : (n + 1) * 32 ≤ 140737488355328)
    (hb : w.heap[b]? = some (.cells cur ty (0, 0))) (hsz : c * 2 ≤ cur.size) (h1c : ∀ v ∈ cur.toList.take (n * 2), v.oneCell' = true)
    (hvl : vs.length = 2) (hvw : vb < w.heap.size) (hvs : ∀ j v, vs[j]? = some v → w.cell? ⟨vb, vo + j, none⟩ = some v) (h1v : ∀ v ∈ vs, v.oneCell' = true) :
    Calls Try.prog 30 #[.slice (some ⟨b, 0, none⟩) n c, .int .i64 i, .slice (some ⟨vb, vo, none⟩) 1 vc] w fun e w' => ∃ G row, e = .returned (.slice (some ⟨w.heap.size, 0, none⟩) (n + 1) G) ∧ n + 1 ≤ G ∧ G ≤ maxLen ∧
      row.toList.take ((n + 1) * 2) = cur.toList.take (i * 2) ++ vs ++ (cur.toList.take (n * 2)).drop (i * 2) ∧ row.size = G * 2 ∧ w'.heap[w.heap.size]? = some (.cells row 63 (0, 0)) ∧
      (∀ m, m < w.heap.size → w'.heap[m]? = w.heap[m]?) ∧ w'.heap.size = w.heap.size + 1 ∧ w'.os = w.os ∧ w'.tape = w.tape ∧ w'.output = w.output ∧ w.drawn ≤ w'.drawn := by
  have mixed := mixed
  obtain ⟨i0, z, hi0, hz0, hzs⟩ := zeroI (P := Try.prog) (el := 63) (by rw [sz_63]; decide) (by unfold zlenT; rw [ze_63, sz_63]; rfl)
  rw [sz_63] at hzs
  have hib : i0.bytes = 32 := by
    have q := by_63
    unfold bytesT at q
    rw [hi0] at q
    exact q
  have hsz4 : (Try.prog.info? 63).map (·.size) = some 2 := by kernel_rfl
  have his : i0.size = 2 := by rw [hi0] at hsz4; simpa using hsz4
  have hzs : z.cells.size = 2 := hzs
  have hu : Try.prog.underlying 55 = some (.slice 63) := Try.underlying55
  have hz1 : ¬ ((1 : Int) = 0) := by omega
  have hz2 : ¬ ((i : Int) = (n : Int)) := by omega
  have hz3 : (c : Int) < (n : Int) + (1 : Int) := by omega
  have hbw : b < w.heap.size := (Array.getElem?_eq_some_iff.1 hb).1
  have hkk : (n : Int) + (1 : Int) - (i : Int) = ((n + 1 - i : Nat) : Int) := by omega
  have hik : i + (n + 1 - i) = n + 1 := by omega
  have hcn : c = n := by omega
  have hink : i * 2 ≤ n * 2 := Nat.mul_le_mul_right _ (by omega)
  have hold : (Builtin.firstCells i0.size i (.slice (some ⟨b, 0, none⟩) i c)).run Try.prog w.drew = .ok (cur.toList.take (i * 2)).toArray w.drew := by
    rw [his]
    refine run_firstCells_some w.drew 2 i ⟨b, 0, none⟩ i c (cur.toList.take (i * 2)) (by rw [List.length_take, Array.length_toList]; omega) fun j v hj => ?_
    rw [addr_add, Nat.zero_add]
    show w.cell? _ = _
    rw [cell_at hb, ← Array.getElem?_toList]
    rw [List.getElem?_take] at hj
    split at hj
    · exact hj
    · simp at hj
  obtain ⟨G, hG⟩ : ∃ G, G = grownCap w (n + 1) c 63 := ⟨_, rfl⟩
  obtain ⟨ROW, hROW⟩ : ∃ ROW : Array Value, ROW = (cur.toList.take (i * 2)).toArray ++ Builtin.zeroCells z.cells (n + 1 - i) ++ Builtin.zeroCells z.cells (G - (n + 1)) := ⟨_, rfl⟩
  have hrz : ∀ ty', (Builtin.append_ #[55, 3] ty' #[.slice (some ⟨b, 0, none⟩) i c, .int .i64 ((n : Int) + (1 : Int) - (i : Int))]).run Try.prog w =
      .ok (.slice (some ⟨w.heap.size, 0, none⟩) (n + 1) G) (w.drew.alloc (.cells ROW 63)) := fun ty' => by
    have h := Lib.run_append_grow_zeros w 55 3 ty' 63 i0 z .i64 .i64 hu Try.underlying3 hi0 hz0 (some ⟨b, 0, none⟩) i c (cur.toList.take (i * 2)) hold (n + 1 - i) (by omega) (by omega) (by omega) (by omega) (by rw [hib]; omega) (by rw [hib, hik]; exact growslice_fits hroom hbig)
    rw [hik, ← hG, ← hROW] at h
    rw [hkk]
    exact h
  have hGn : n + 1 ≤ G := by rw [hG]; exact grownCap_ge w _ _ _
  have hGM : G ≤ maxLen := by rw [hG]; exact grownCap_le_maxLen w _ _ _ (by unfold maxLen; omega)
  have hG63 : G ≤ 9223372036854775807 := by unfold maxLen at hGM; omega
  have hRl : ROW.size = G * 2 := by
    rw [hROW]
    simp only [Array.size_append, List.size_toArray, List.length_take, Array.length_toList, Builtin.zeroCells, Array.size_map, Array.size_range, hzs]
    omega
  obtain ⟨cs, hcs⟩ : ∃ cs, cs = (cur.toList.take (n * 2)).drop (i * 2) := ⟨_, rfl⟩
  have hcl : cs.length = (n - i) * 2 := by
    rw [hcs, List.length_drop, List.length_take, Array.length_toList, Nat.min_eq_left (by omega), Nat.sub_mul]
  obtain ⟨r1, hr1⟩ : ∃ r1, r1 = (ROW.toList.take (i * 2) ++ vs ++ ROW.toList.drop (i * 2 + vs.length)).toArray := ⟨_, rfl⟩
  obtain ⟨r2, hr2⟩ : ∃ r2, r2 = (r1.toList.take ((i + 1) * 2) ++ cs ++ r1.toList.drop ((i + 1) * 2 + cs.length)).toArray := ⟨_, rfl⟩
  have hr1z : r1.size = G * 2 := by
    rw [hr1]
    simp only [List.size_toArray, List.length_append, List.length_take, List.length_drop, Array.length_toList, hvl, hRl]
    omega
  have hr2z : r2.size = G * 2 := by
    rw [hr2]
    simp only [List.size_toArray, List.length_append, List.length_take, List.length_drop, Array.length_toList, hcl, hr1z]
    omega
  obtain ⟨N, hN⟩ : ∃ N, N = w.heap.size := ⟨_, rfl⟩
  have hcpA : ∀ (W : World), W.heap = (w.alloc (.cells ROW 63)).heap → ∀ ty' dc, (Builtin.copy_ #[55, 55] ty' #[.slice (some ⟨w.heap.size, i * 2, none⟩) (n + 1 - i) dc, .slice (some ⟨vb, vo, none⟩) 1 vc]).run Try.prog W = .ok (goInt (Nat.min 1 (n + 1 - i))) (W.setRow w.heap.size r1) := fun W hW ty' dc => by
    have hg : W.heap[w.heap.size]? = some (.cells ROW 63 (0, 0)) := by rw [hW]; exact heap_alloc_new w _
    rw [hr1]
    refine run_copy_rowK _ W _ _ ty' 63 w.heap.size (i * 2) (n + 1 - i) dc ⟨vb, vo, none⟩ 1 vc ROW 63 vs 2 hu hsz4 hg ?_ ?_ ?_ h1v
    · rw [hvl, show Nat.min 1 (n + 1 - i) = 1 by simp only [Nat.min_def]; split <;> omega, Nat.one_mul]
    · intro j v hj
      rw [Addr.add_lit]
      have q := hvs j v hj
      have e : W.heap[vb]? = w.heap[vb]? := by rw [hW]; exact RowKit.Below.heap_alloc w _ vb hvw
      simp only [World.cell?] at q ⊢
      rw [e]
      exact q
    · rw [hvl, hRl]; omega
  have hcpB : ∀ (W : World), W.heap = ((w.alloc (.cells ROW 63)).setRow w.heap.size r1).heap → ∀ ty' dc sc, (Builtin.copy_ #[55, 55] ty' #[.slice (some ⟨w.heap.size, (i + 1) * 2, none⟩) (n - i) dc, .slice (some ⟨b, i * 2, none⟩) (n - i) sc]).run Try.prog W = .ok (goInt (Nat.min (n - i) (n - i))) (W.setRow w.heap.size r2) := fun W hW ty' dc sc => by
    have hg : W.heap[w.heap.size]? = some (.cells r1 63 (0, 0)) := by rw [hW]; exact setRow_heap _ _ _ _ _ _ (heap_alloc_new w _)
    rw [hr2]
    refine run_copy_rowK _ W _ _ ty' 63 w.heap.size ((i + 1) * 2) (n - i) dc ⟨b, i * 2, none⟩ (n - i) sc r1 63 cs 2 hu hsz4 hg ?_ ?_ ?_ ?_
    · rw [hcl, show Nat.min (n - i) (n - i) = n - i by simp only [Nat.min_def]; split <;> omega]
    · intro j v hj
      rw [Addr.add_lit]
      rw [hcs, List.getElem?_drop] at hj
      have hlt : i * 2 + j < n * 2 := by
        rcases Nat.lt_or_ge (i * 2 + j) (n * 2) with q | q
        · exact q
        · rw [List.getElem?_take_eq_none q] at hj; cases hj
      rw [List.getElem?_take_of_lt hlt] at hj
      have e : W.heap[b]? = w.heap[b]? := by
        rw [hW, setRow_other _ _ _ _ (by omega)]; exact RowKit.Below.heap_alloc w _ b hbw
      simp only [World.cell?, e, hb]
      simpa using hj
    · rw [hcl, hr1z]; omega
    · intro v hv
      rw [hcs] at hv
      exact h1c v (List.mem_of_mem_drop hv)
  have hfin : r2.toList.take ((n + 1) * 2) = cur.toList.take (i * 2) ++ vs ++ (cur.toList.take (n * 2)).drop (i * 2) := by
    rw [← hcs, hr2, hr1, hROW]
    exact insG_list (by rw [List.length_take, Array.length_toList]; omega) hvl (by rw [hcl]; omega)
  clear hkk hik hold hROW hG hRl hr1 hr2 hcs hcn hink
  have hin : i ≤ n := by omega
  have hw1 : IntKind.i64.wrap ((i : Int) + (1 : Int)) = (i : Int) + (1 : Int) := by rw [IntKind.wrap_i64]; omega
  have hb1 : (0 : Int) ≤ (i : Int) + (1 : Int) := by omega
  have htn : ((i : Int) + (1 : Int)).toNat = i + 1 := by omega
  have hb3 : (i : Int) ≤ (n : Int) := by omega
  have hGi : ¬ (G = i) := by omega
  have hGim : ¬ (G = i + 1) := by omega
  have hci : ¬ (c = i) := by omega
  have hbN : b ≠ w.heap.size := by omega
  have hA := hcpA ((w.alloc (.cells ROW 63)).drew) rfl
  have hB := hcpB (((w.alloc (.cells ROW 63)).drew.setRow w.heap.size r1).drew) rfl
  clear hcpA hcpB
  go_enter Try.func30, Try.ntmps30
  go_wp2_with (first
    | (at_builtin; refine Lib.wpList_append_run _ rfl _ _ _ _ rfl _ _ rfl rfl _ _ (hrz _) ?_)
    | (at_builtin; refine wpList_copy_runI _ rfl _ _ 55 55 rfl _ _ rfl rfl (hA _ _) ?_))
  go_region_law_o (refine step_copy_runI rfl _ _ 55 55 rfl (.slice (some ⟨w.heap.size, (i + 1) * 2, none⟩) (n - i) (G - (i + 1))) (.slice (some ⟨b, i * 2, none⟩) (n - i) (c - i)) (by simp [Act.eval, Act.put]) (by simp [Act.eval, Act.put]) (hB 3 (G - (i + 1)) (c - i)) ?_)
  go_wp2
  go_ret
  refine ⟨G, r2, rfl, hGn, hGM, hfin, hr2z, ?_, fun m hm => ?_, ?_, rfl, rfl, rfl, ?_⟩
  · exact setRow_heap _ _ r1 _ _ _ (setRow_heap _ _ ROW _ _ _ (heap_alloc_new w _))
  · rw [setRow_other _ _ _ _ (by omega)]
    show ((w.alloc (.cells ROW 63)).setRow w.heap.size r1).heap[m]? = _
    rw [setRow_other _ _ _ _ (by omega)]
    exact RowKit.Below.heap_alloc w _ m hm
  · simp
  · simp; omega
theorem insE_prc (s : Option Addr) (n c vb vo vc : Nat) (v : Value) (w w1 : World) (hnc : n ≤ c) (hc63 : c ≤ 9223372036854775807) (hnil : s = none → n = 0 ∧ c = 0)
    (hrun : (Builtin.append_ #[55, 55] 55 #[.slice s n c, .slice (some ⟨vb, vo, none⟩) 1 vc]).run Try.prog w = .ok v w1) :
    Calls Try.prog 30 #[.slice s n c, .int .i64 n, .slice (some ⟨vb, vo, none⟩) 1 vc] w fun e w' => e = .returned v ∧ w' = w1 := by
  have mixed := mixed
  have hz1 : ¬ ((1 : Int) = 0) := by omega
  go_enter Try.func30, Try.ntmps30
  cases s with
  | none =>
    obtain ⟨rfl, rfl⟩ := hnil rfl
    go_wp2_with (at_builtin; refine Lib.wpList_append_run _ rfl _ _ _ _ rfl _ _ rfl rfl _ _ hrun ?_)
    go_ret
    exact ⟨rfl, rfl⟩
  | some a =>
    obtain ⟨ab, ao, asp⟩ := a
    go_wp2_with (at_builtin; refine Lib.wpList_append_run _ rfl _ _ _ _ rfl _ _ rfl rfl _ _ hrun ?_)
    all_goals (go_ret; exact ⟨rfl, rfl⟩)
end Go.V

set_option maxRecDepth 100000
set_option maxHeartbeats 8000000
namespace Go.V
open Go.Proofs
structure Prc where
  apid : Int
  list : List Ent
def Prc.zero : Prc := ⟨0, []⟩
abbrev pAt (ps : List Prc) (i : Nat) : Prc := ps.getD i Prc.zero
def flatP : List Nat → List Prc → List AV
  | t :: ts, p :: ps => .int .i64 p.apid :: .sl t .ent 0 p.list.length :: flatP ts ps
  | _, _ => []
theorem flatP_len : ∀ {ts : List Nat} {ps : List Prc}, ts.length = ps.length → (flatP ts ps).length = ps.length * 2
  | [], [], _ => rfl
  | t :: ts, p :: ps, h => by
    have := flatP_len (ts := ts) (ps := ps) (by simpa using h)
    simp only [flatP, List.length_cons, this]
    omega
  | [], _ :: _, h => by simp at h
  | _ :: _, [], h => by simp at h
theorem flatP_cells : ∀ (ts : List Nat) (ps : List Prc), okCells (flatP ts ps)
  | [], _ => trivial
  | _ :: _, [] => trivial
  | t :: ts, p :: ps => ⟨rfl, rfl, flatP_cells ts ps⟩
theorem flatP_at : ∀ {ts : List Nat} {ps : List Prc} {i : Nat}, ts.length = ps.length → i < ps.length → nthA (flatP ts ps) (i * 2) = .int .i64 (pAt ps i).apid ∧ nthA (flatP ts ps) (i * 2 + 1) = .sl (ts.getD i 0) .ent 0 (pAt ps i).list.length
  | [], [], _, _, h => by simp at h
  | t :: ts, p :: ps, 0, _, _ => ⟨rfl, rfl⟩
  | t :: ts, p :: ps, i + 1, h, h2 => by
    have := flatP_at (ts := ts) (ps := ps) (i := i) (by simpa using h) (by simpa using h2)
    rw [show (i + 1) * 2 = i * 2 + 1 + 1 by omega]
    exact this
  | [], _ :: _, _, h, _ => by simp at h
  | _ :: _, [], _, h, _ => by simp at h
theorem flatP_set : ∀ {ts : List Nat} {ps : List Prc} {i t' : Nat} {p' : Prc}, ts.length = ps.length → i < ps.length → p'.apid = (pAt ps i).apid → (flatP ts ps).set (i * 2 + 1) (.sl t' .ent 0 p'.list.length) = flatP (ts.set i t') (ps.set i p')
  | [], [], _, _, _, _, h, _ => by simp at h
  | t :: ts, p :: ps, 0, _, p', _, _, h3 => by
    have h3 : p'.apid = p.apid := h3
    simp [flatP, h3]
  | t :: ts, p :: ps, i + 1, t', p', h, h2, h3 => by
    have := flatP_set (t' := t') (p' := p') (ts := ts) (ps := ps) (i := i) (by simpa using h) (by simpa using h2) h3
    rw [show (i + 1) * 2 + 1 = (i * 2 + 1) + 1 + 1 by omega]
    simp only [flatP, List.set_cons_succ, this]
  | [], _ :: _, _, _, _, h, _, _ => by simp at h
  | _ :: _, [], _, _, _, h, _, _ => by simp at h
theorem flatP_ins : ∀ {ts : List Nat} {ps : List Prc} {i t' : Nat} {p' : Prc}, ts.length = ps.length → i ≤ ps.length → (flatP ts ps).take (i * 2) ++ [.int .i64 p'.apid, .sl t' .ent 0 p'.list.length] ++ (flatP ts ps).drop (i * 2) = flatP (ts.take i ++ t' :: ts.drop i) (ps.take i ++ p' :: ps.drop i)
  | ts, ps, 0, _, _, _, _ => by simp [flatP]
  | t :: ts, p :: ps, i + 1, t', p', h, h2 => by
    have := flatP_ins (t' := t') (p' := p') (ts := ts) (ps := ps) (i := i) (by simpa using h) (by simpa using h2)
    rw [show (i + 1) * 2 = i * 2 + 1 + 1 by omega]
    simp only [flatP, List.take_succ_cons, List.drop_succ_cons, List.cons_append] at this ⊢
    rw [← this]
  | [], [], _ + 1, _, _, _, h => by simp at h
  | [], _ :: _, _, _, _, h, _ => by simp at h
  | _ :: _, [], _, _, _, h, _ => by simp at h
/-- the archive's object -/
def rowP (p : Prc) : Ch := .rows .ent p.list
def AMr (ps : List Prc) : List Ch := .crow (flatP (List.range' 2 ps.length) ps) :: ps.map rowP
def AM (ps : List Prc) : List Ch := if ps.length = 0 then AE else .cells [.bool true, .csl 1 ps.length 2] :: AMr ps
/-- it lies open -/
structure Arc (h : List Ch) (v : Nat) (ts : List Nat) (ps : List Prc) : Prop where
  pos : 0 < ps.length
  o : hth h 0 = .cells [.bool true, .csl v ps.length 2]
  o1 : hth h v = .crow (flatP ts ps)
  len : ts.length = ps.length
  rows : ∀ i, i < ps.length → hth h (ts.getD i 0) = .rows .ent (pAt ps i).list
  nd : (0 :: v :: ts).Nodup
theorem fitP {σ : List Nat} : ∀ {ts : List Nat} {ps : List Prc} {k : Nat}, ts.length = ps.length → (∀ i, i < ts.length → σ[k + i]? = some (ts.getD i 0)) → fitL σ (flatP (List.range' k ps.length) ps) (flatP ts ps)
  | [], [], _, _, _ => trivial
  | t :: ts, p :: ps, k, h, hs => by
    have h0 := hs 0 (by simp)
    have h1 := fitP (σ := σ) (ts := ts) (ps := ps) (k := k + 1) (by simpa using h) fun i hi => by
      have := hs (i + 1) (by simpa using hi)
      rw [show k + 1 + i = k + (i + 1) by omega]
      simpa using this
    rw [List.length_cons, List.range'_succ]
    refine ⟨⟨rfl, rfl⟩, ⟨by simpa using h0, rfl, rfl, rfl⟩, h1⟩
  | [], _ :: _, _, h, _ => by simp at h
  | _ :: _, [], _, h, _ => by simp at h
theorem fitRows {σ : List Nat} {h : List Ch} : ∀ {ts : List Nat} {ps : List Prc}, ts.length = ps.length → (∀ i, i < ps.length → hth h (ts.getD i 0) = .rows .ent (pAt ps i).list) → fitHs σ h (ps.map rowP) ts
  | [], [], _, _ => trivial
  | t :: ts, p :: ps, h1, h2 => by
    have h0 : hth h t = .rows .ent p.list := h2 0 (by simp)
    refine ⟨hth_lt (by rw [h0]; simp), ?_, fitRows (by simpa using h1) fun i hi => ?_⟩
    · rw [h0]
      show (match asE .ent .ent p.list with | some ys => p.list = ys | none => False)
      rw [asE_self]
    · have := h2 (i + 1) (by simpa using hi)
      simpa using this
  | [], _ :: _, h, _ => by simp at h
  | _ :: _, [], h, _ => by simp at h
theorem Arc.shut {h : List Ch} {v : Nat} {ts : List Nat} {ps : List Prc} (a : Arc h v ts ps) : Shut h 0 (v :: ts) (AM ps) := by
  have e : AM ps = .cells [.bool true, .csl 1 ps.length 2] :: AMr ps := if_neg (by have := a.pos; omega)
  rw [e]
  refine ⟨⟨_, _, rfl⟩, ⟨hth_lt (by rw [a.o]; simp), ?_, hth_lt (by rw [a.o1]; simp), ?_, fitRows a.len a.rows⟩, a.nd⟩
  · rw [a.o]
    exact ⟨rfl, ⟨rfl, rfl, rfl⟩, trivial⟩
  · rw [a.o1]
    refine ⟨?_, fitP (k := 2) a.len fun i hi => ?_⟩
    · rw [flatP_len a.len, flatP_len (by simp)]
    · rw [show 2 + i = i + 1 + 1 by omega]
      rw [List.getElem?_cons_succ, List.getElem?_cons_succ, List.getD_eq_getElem?_getD, List.getElem?_eq_getElem hi]
      rfl
theorem end_arc {h : List Ch} {v : Nat} {ts : List Nat} {ps : List Prc} {r : AV} (a : Arc h v ts ps) (hr : fitA [0] r r) : ∃ v' h2, Gh [r] h [v'] h2 ∧ EndF 1 r ([.pack (AM ps)] ++ []) v' h2 := by
  have hc : hth (closeH h 0 (v :: ts) (AM ps)) 0 = .pack (AM ps) := by
    unfold closeH
    exact hth_set_eq (by rw [goneH_len]; exact hth_lt (by rw [a.o]; simp))
  refine ⟨_, _, gh_close a.shut, [0], rfl, ⟨hr, trivial⟩, ⟨hth_lt (by rw [hc]; simp), by rw [hc]; exact rfl, trivial⟩, by simp⟩
theorem Arc.app {h : List Ch} {v : Nat} {ts : List Nat} {ps : List Prc} (a : Arc h v ts ps) (l : List Ch) : Arc (h ++ l) v ts ps :=
  ⟨a.pos, by rw [hth_app (hth_lt (by rw [a.o]; simp)), a.o], by rw [hth_app (hth_lt (by rw [a.o1]; simp)), a.o1], a.len, fun i hi => by rw [hth_app (hth_lt (by rw [a.rows i hi]; simp)), a.rows i hi], a.nd⟩
theorem Arc.lt {h : List Ch} {v : Nat} {ts : List Nat} {ps : List Prc} (a : Arc h v ts ps) : ∀ t ∈ 0 :: v :: ts, t < h.length := by
  intro t ht
  rcases List.mem_cons.1 ht with rfl | ht
  · exact hth_lt (by rw [a.o]; simp)
  rcases List.mem_cons.1 ht with rfl | ht
  · exact hth_lt (by rw [a.o1]; simp)
  · obtain ⟨i, hi, rfl⟩ := List.getElem_of_mem ht
    have := a.rows i (by rw [← a.len]; exact hi)
    have e : ts.getD i 0 = ts[i] := by rw [List.getD_eq_getElem?_getD, List.getElem?_eq_getElem hi]; rfl
    rw [← e]
    exact hth_lt (by rw [this]; simp)
theorem rho0 (t : Nat) (h : 0 < t) : rhoO 0 1 t = t := by
  cases t with
  | zero => omega
  | succ n => show 1 + n = n + 1; omega
theorem renP : ∀ {k : Nat} {ps : List Prc}, 0 < k → renL (rhoO 0 1) (flatP (List.range' k ps.length) ps) = flatP (List.range' k ps.length) ps
  | _, [], _ => rfl
  | k, p :: ps, h => by
    rw [List.length_cons, List.range'_succ]
    simp only [flatP, renL, renA, rho0 k h]
    rw [renP (by omega)]
theorem renRows {ρ : Nat → Nat} : ∀ (ps : List Prc), renCs ρ (ps.map rowP) = ps.map rowP
  | [] => rfl
  | p :: ps => by
    show renC ρ (rowP p) :: renCs ρ (ps.map rowP) = rowP p :: ps.map rowP
    rw [renRows ps]; rfl
theorem hth_rows : ∀ {ps : List Prc} {i : Nat}, i < ps.length → hth (ps.map rowP) i = .rows .ent (pAt ps i).list
  | [], _, h => by simp at h
  | p :: ps, 0, _ => rfl
  | p :: ps, i + 1, h => hth_rows (ps := ps) (by simpa using h)
theorem arc_open {ps : List Prc} (hp : 0 < ps.length) : Arc (AM ps) 1 (List.range' 2 ps.length) ps := by
  have e : AM ps = .cells [.bool true, .csl 1 ps.length 2] :: AMr ps := if_neg (by omega)
  rw [e]
  refine ⟨hp, rfl, rfl, by simp, fun i hi => ?_, ?_⟩
  · have e2 : (List.range' 2 ps.length).getD i 0 = i + 1 + 1 := by
      rw [List.getD_eq_getElem?_getD, List.getElem?_range' hi]
      show 2 + 1 * i = _
      omega
    rw [e2]
    exact hth_rows hi
  · refine List.nodup_cons.2 ⟨fun q => ?_, List.nodup_cons.2 ⟨fun q => ?_, List.nodup_range'⟩⟩
    · rcases List.mem_cons.1 q with q | q
      · omega
      · have := List.mem_range'_1.1 q; omega
    · have := List.mem_range'_1.1 q; omega
theorem w_openM {P : Program} {k : Nat} {c : Code} {tm : List AV} {ps : List Prc} {q : Post} (hp : 0 < ps.length) (H : Wp P k c tm (AM ps) q) : Wp P k c tm [.pack (AM ps)] q := by
  have e : AM ps = .cells [.bool true, .csl 1 ps.length 2] :: AMr ps := if_neg (by omega)
  refine w_open (h' := AM ps) (vs := [.bool true, .csl 1 ps.length 2]) (rest := AMr ps) 0 (by rw [e]; rfl) ?_ H
  rw [e]
  show Ch.cells (renL (rhoO 0 1) [.bool true, .csl 1 ps.length 2]) :: renCs (rhoO 0 1) (AMr ps) = _
  have e2 : renCs (rhoO 0 1) (AMr ps) = AMr ps := by
    show renC (rhoO 0 1) (.crow (flatP (List.range' 2 ps.length) ps)) :: renCs (rhoO 0 1) (ps.map rowP) = _
    rw [renRows]
    show Ch.crow (renL _ _) :: _ = _
    rw [renP (by omega)]
    rfl
  rw [e2]
  rfl
theorem c_insM {h : List Ch} {K : KT} {t u n i g m : Nat} {xs : List AV} {p : Int} (H : K (.csl h.length (n + 1) 2) (h.set t .gone ++ [.crow (xs.take (i * 2) ++ [.int .i64 p, .sl g .ent 0 m] ++ xs.drop (i * 2))])) (o : hth h t = .crow xs) (o1 : hth h u = .crow [.int .i64 p, .sl g .ent 0 m]) (s1 : xs.length = n * 2) (s2 : i ≤ n) (s3 : n ≤ 1000000) (s4 : t ≠ u) (s5 : okCells xs) : Does Try.prog 30 [.csl t n 2, .int .i64 (i : Int), .csl u 1 2] h K :=
  ins_okC ⟨_, fn_30, rfl, rfl⟩ (T := 55) (E := 63) (s := 2) kd_55 sz_63 (by decide) (by unfold zlenT; rw [ze_63]; rfl) (by rw [by_63]; decide) insE_prc insS_prc (by rw [by_63]; exact insG_prc) s1 rfl s2 (by omega) s4 s5 (show okCells [.int .i64 p, .sl g .ent 0 m] from ⟨rfl, rfl, trivial⟩) o o1 H
abbrev i_insM := Ctr.mk (i := 1) (g := 30) @c_insM
attribute [instance] i_insM
end Go.V

set_option maxRecDepth 100000
set_option maxHeartbeats 8000000
namespace Go.V
open Go.Proofs
def findP : List Prc → Int → Nat
  | [], _ => 0
  | p :: ps, a => if a ≤ p.apid then 0 else findP ps a + 1
theorem findP_at : ∀ {ps : List Prc} {a : Int} {k : Nat}, (∀ i, i < k → ¬ a ≤ (pAt ps i).apid) → k < ps.length → a ≤ (pAt ps k).apid → findP ps a = k
  | [], _, _, _, h, _ => by simp at h
  | p :: ps, a, 0, _, _, h => if_pos h
  | p :: ps, a, k + 1, h1, h2, h3 => by
    have h0 : ¬ a ≤ p.apid := h1 0 (by omega)
    have := findP_at (ps := ps) (a := a) (k := k) (fun i hi => h1 (i + 1) (by omega)) (by simpa using h2) h3
    show (if a ≤ p.apid then 0 else findP ps a + 1) = _
    rw [if_neg h0, this]
theorem findP_end : ∀ {ps : List Prc} {a : Int}, (∀ i, i < ps.length → ¬ a ≤ (pAt ps i).apid) → findP ps a = ps.length
  | [], _, _ => rfl
  | p :: ps, a, h => by
    have h0 : ¬ a ≤ p.apid := h 0 (by simp)
    have := findP_end (ps := ps) (a := a) fun i hi => h (i + 1) (by simpa using hi)
    show (if a ≤ p.apid then 0 else findP ps a + 1) = _
    rw [if_neg h0, this]; rfl
theorem findP_le : ∀ (ps : List Prc) (a : Int), findP ps a ≤ ps.length
  | [], _ => Nat.le_refl 0
  | p :: ps, a => by
    have := findP_le ps a
    unfold findP
    split
    · exact Nat.zero_le _
    · rw [List.length_cons]; omega
def isP (ps : List Prc) (a : Int) : Bool := decide (findP ps a < ps.length ∧ (pAt ps (findP ps a)).apid = a)
structure PL (ts : List Nat) (ps : List Prc) (n : Nat) : Prop where
  len : ts.length = ps.length
  n : n = ps.length
  max : ps.length ≤ 1000000
theorem k_findM {n0 : Nat} {h : List Ch} {K : KT} {u v n : Nat} {a : Int} {ts : List Nat} {ps : List Prc} (o : hth h u = .cells [.bool true, .csl v n 2]) (o1 : hth h v = .crow (flatP ts ps)) (e1 : PL ts ps n) (H : K (.tup [.int .i64 (findP ps a : Nat), .bool (isP ps a)]) h) : DoesK Try.prog n0 29 [.ptr u 0, .int .i64 a] h K := by
  obtain ⟨hl, rfl, hm⟩ := e1
  have hfl := flatP_len hl
  refine w_body (rs := [.tmp 4, .tmp 5]) (tm := [.ptr u 0, .int .i64 a, .any, .any, .any, .any, .any, .any, .any, .any, .any, .any, .any, .any, .any, .any, .any, .any, .any, .any, .any, .any, .any, .any, .any, .any, .any, .any, .any, .any, .any, .any, .any, .any, .any, .any, .any, .any, .any, .any, .any, .any]) fn_29 rfl rfl rfl rfl fun R hR => ?_
  (have zx1 := @o; all_goals (try ((first | (with_reducible refine wp_id ?_) | (with_reducible refine does_id ?_) | (with_reducible refine ops_id ?_)); refine walk ?_; (repeat' (first | exact trivial | with_reducible refine And.intro ?_ ?_)); all_goals (repeat (first | (with_reducible refine ImpB.mk fun hb => ?_) | (with_reducible refine ImpK.mk fun hK => ?_) | (with_reducible refine ImpF.mk fun hF => ?_) | (with_reducible refine ImpQ.mk fun hp => ?_) | (with_reducible refine AllE.mk fun p => ?_) | (with_reducible refine AllR.mk fun rest => ?_) | (with_reducible refine AllK.mk fun K => ?_))))); repeat' (with_reducible refine And.intro ?_ ?_))
  any_goals ((try (refine w_seq fun K hK => ?_)); (try (refine w_block ?_)); refine w_loopS (A := Nat) (fun k => k ≤ ps.length ∧ ∀ i, i < k → ¬ a ≤ (pAt ps i).apid) (fun k => ps.length - k) (fun k => [(12, .int .i64 k)]) (0) (ws := ?ws1) (tk := ?tk1) ?hw1 ?ht1 ?hi ?h0 ?LH1; (case hw1 => simp only [go_sem, decide_true, decide_false, Int.reduceToNat, Nat.min_eq_left, Nat.min_eq_right, Int.reducePow, Nat.reducePow, Int.reduceLE, Int.reduceLT, Int.reduceMul, Int.reduceAdd, Int.reduceSub, Int.reduceNeg, Bool.not_true, Bool.not_false, Bool.not_not, ↓reduceIte, Nat.reduceAdd, Nat.reduceSub, Nat.reduceMul, Nat.reduceEqDiff, reduceCtorEq, Nat.reduceLT, Nat.reduceLeDiff, Nat.reduceGT]; exact rfl); (case ht1 => simp only [go_sem, decide_true, decide_false, Int.reduceToNat, Nat.min_eq_left, Nat.min_eq_right, Int.reducePow, Nat.reducePow, Int.reduceLE, Int.reduceLT, Int.reduceMul, Int.reduceAdd, Int.reduceSub, Int.reduceNeg, Bool.not_true, Bool.not_false, Bool.not_not, ↓reduceIte, Nat.reduceAdd, Nat.reduceSub, Nat.reduceMul, Nat.reduceEqDiff, reduceCtorEq, Nat.reduceLT, Nat.reduceLeDiff, Nat.reduceGT]; exact rfl); (case' LH1 => rintro k E t hx hE ht; simp only [go_sem] at ht; subst ht; simp only [go_sem]; try dsimp only at hx))
  case hi => exact ⟨Nat.zero_le _, fun i hi => absurd hi (by omega)⟩
  case h0 => (focus (simp only [go_sem]; (repeat' (first | exact sub_nil | refine sub_cons ?_ ?_)); (any_goals (first | exact .inl rfl | exact .inr rfl)); (try any_goals (refine .inr ?_)); (try any_goals (refine congrArg _ ?_))))
  case LH1 =>
    obtain ⟨hk0, hka⟩ := hx
    by_cases hk : k < ps.length
    · have hkd : decide ((k : Int) < (ps.length : Int)) = true := decide_eq_true (by omega)
      have hw : IntKind.i64.wrap ((k : Int) + 1) = ((k + 1 : Nat) : Int) := by rw [wrap_i64 _ (by omega) (by omega)]; omega
      obtain ⟨n1, n2⟩ := flatP_at hl hk
      obtain ⟨y, hy⟩ : ∃ y, (pAt ps k).apid = y := ⟨_, rfl⟩
      rw [hy] at n1
      by_cases hc : a ≤ y
      · have d1 : decide (a ≤ y) = true := decide_eq_true hc
        have hf : findP ps a = k := findP_at hka hk (by rw [hy]; exact hc)
        have hi2 : isP ps a = decide (y = a) := by
          unfold isP
          rw [hf, hy]
          simp [hk]
        rw [hf, hi2] at H
        (have zx1 := @hkd; have zx2 := @hw; have zx3 := @o; have zx4 := @o1; have zx5 := @n1; have zx6 := @d1; have zx7 := @hfl; all_goals (try ((first | (with_reducible refine wp_id ?_) | (with_reducible refine does_id ?_) | (with_reducible refine ops_id ?_)); refine walk ?_; (repeat' (first | exact trivial | with_reducible refine And.intro ?_ ?_)); all_goals (repeat (first | (with_reducible refine ImpB.mk fun hb => ?_) | (with_reducible refine ImpK.mk fun hK => ?_) | (with_reducible refine ImpF.mk fun hF => ?_) | (with_reducible refine ImpQ.mk fun hp => ?_) | (with_reducible refine AllE.mk fun p => ?_) | (with_reducible refine AllR.mk fun rest => ?_) | (with_reducible refine AllK.mk fun K => ?_))))); repeat' (with_reducible refine And.intro ?_ ?_))
        all_goals first | exact H | exact Int.natCast_nonneg _ | (show (k : Int) < (ps.length : Int); omega) | (show k * 2 < ps.length * 2; omega) | skip
      · have d1 : decide (a ≤ y) = false := decide_eq_false hc
        (have zx1 := @hkd; have zx2 := @hw; have zx3 := @o; have zx4 := @o1; have zx5 := @n1; have zx6 := @d1; have zx7 := @hfl; all_goals (try ((first | (with_reducible refine wp_id ?_) | (with_reducible refine does_id ?_) | (with_reducible refine ops_id ?_)); refine walk ?_; (repeat' (first | exact trivial | with_reducible refine And.intro ?_ ?_)); all_goals (repeat (first | (with_reducible refine ImpB.mk fun hb => ?_) | (with_reducible refine ImpK.mk fun hK => ?_) | (with_reducible refine ImpF.mk fun hF => ?_) | (with_reducible refine ImpQ.mk fun hp => ?_) | (with_reducible refine AllE.mk fun p => ?_) | (with_reducible refine AllR.mk fun rest => ?_) | (with_reducible refine AllK.mk fun K => ?_))))); repeat' (with_reducible refine And.intro ?_ ?_))
        any_goals first | exact Int.natCast_nonneg _ | (show (k : Int) < (ps.length : Int); omega) | (show k * 2 < ps.length * 2; omega)
        refine ⟨k + 1, ⟨⟨(by omega : k + 1 ≤ ps.length), fun i hi => ?_⟩, (by first | omega | (dsimp only; omega))⟩, ?_, rfl⟩
        · rcases Nat.lt_or_ge i k with q | q
          · exact hka i q
          · obtain rfl : i = k := by omega
            rw [hy]
            exact hc
        · (focus (simp only [go_sem]; (repeat' (first | exact sub_nil | refine sub_cons ?_ ?_)); (any_goals (first | exact .inl rfl | exact .inr rfl)); (try any_goals (refine .inr ?_)); (try any_goals (refine congrArg _ ?_))))
    · have hkd : decide ((k : Int) < (ps.length : Int)) = false := decide_eq_false (by omega)
      have hf : findP ps a = ps.length := findP_end fun i hi => hka i (by omega)
      have hi2 : isP ps a = false := by
        unfold isP
        rw [hf]
        simp
      rw [hf, hi2] at H
      (have zx1 := @hkd; have zx2 := @o; all_goals (try ((first | (with_reducible refine wp_id ?_) | (with_reducible refine does_id ?_) | (with_reducible refine ops_id ?_)); refine walk ?_; (repeat' (first | exact trivial | with_reducible refine And.intro ?_ ?_)); all_goals (repeat (first | (with_reducible refine ImpB.mk fun hb => ?_) | (with_reducible refine ImpK.mk fun hK => ?_) | (with_reducible refine ImpF.mk fun hF => ?_) | (with_reducible refine ImpQ.mk fun hp => ?_) | (with_reducible refine AllE.mk fun p => ?_) | (with_reducible refine AllR.mk fun rest => ?_) | (with_reducible refine AllK.mk fun K => ?_))))); repeat' (with_reducible refine And.intro ?_ ?_))
      exact H
theorem c_findM {h : List Ch} {K : KT} {u v n : Nat} {a : Int} {ts : List Nat} {ps : List Prc} (H : K (.tup [.int .i64 (findP ps a : Nat), .bool (isP ps a)]) h) (o : hth h u = .cells [.bool true, .csl v n 2]) (o1 : hth h v = .crow (flatP ts ps)) (e1 : PL ts ps n) : Does Try.prog 29 [.ptr u 0, .int .i64 a] h K := Does.of_K (k_findM o o1 e1 H)
abbrev i_findM := Ctr.mk (i := 2) (g := 29) @c_findM
attribute [instance] i_findM
theorem isP_at {ps : List Prc} {a : Int} (h : isP ps a = true) : findP ps a < ps.length ∧ (pAt ps (findP ps a)).apid = a := of_decide_eq_true h
/-- the packets of an application process -/
def getP (ps : List Prc) (a : Int) : List Ent := if isP ps a = true then (pAt ps (findP ps a)).list else []
end Go.V

set_option maxRecDepth 100000
set_option maxHeartbeats 8000000
namespace Go.V
open Go.Proofs
attribute [-go_sem] AE AO
/-- a memory whose pointers stay in it -/
def SelfFit (h : List Ch) : Prop := ∀ σ : List Nat, (∀ i, i < h.length → σ[i]? = some i) → ∀ i, i < h.length → fitC σ (hth h i) (hth h i)
theorem fitHs_of {σ : List Nat} {h : List Ch} : ∀ {gs : List Ch} {ts : List Nat}, gs.length = ts.length → (∀ i, i < gs.length → ts.getD i 0 < h.length ∧ fitC σ (hth gs i) (hth h (ts.getD i 0))) → fitHs σ h gs ts
  | [], [], _, _ => trivial
  | g :: gs, t :: ts, h1, h2 => by
    have h0 := h2 0 (by simp)
    exact ⟨h0.1, h0.2, fitHs_of (by simpa using h1) fun i hi => by
      have h3 := h2 (i + 1) (by simpa using hi)
      exact h3⟩
  | [], _ :: _, h, _ => by simp at h
  | _ :: _, [], h, _ => by simp at h
theorem rng_at {n t : Nat} (h : t < n) : (List.range n)[t]? = some t := by rw [List.getElem?_range h]
theorem rng_at2 {n t : Nat} {l : List Nat} (h : t < n) : (List.range n ++ l)[t]? = some t := by
  rw [List.getElem?_append_left (by simpa using h)]; exact rng_at h
theorem rng_at3 {n j : Nat} {l : List Nat} : (List.range n ++ l)[n + j]? = l[j]? := by
  rw [List.getElem?_append_right (by simp)]
  simp
theorem rng_at0 {n x : Nat} {l : List Nat} : (List.range n ++ (x :: l))[n]? = some x := rng_at3 (j := 0)
theorem rng_D {n i : Nat} {l : List Nat} (h : i < n) : (List.range n ++ l).getD i 0 = i := by
  rw [List.getD_eq_getElem?_getD, rng_at2 h]; rfl
theorem at_drop {k : Nat} {gt tm : List AV} {h l : List Ch} (hk : k ≤ h.length) (hs : SelfFit h) (ht : fitL (List.range h.length ++ []) gt tm) : At k gt h tm (h ++ l) := by
  refine ⟨_, _, Gh.refl, List.range h.length ++ [], ?_, ht, fitHs_of (by simp) fun i hi => ?_, by simp [List.nodup_range]⟩
  · rw [List.append_nil, List.take_range, Nat.min_eq_left hk]
  · rw [rng_D hi, hth_app hi]
    exact ⟨by rw [List.length_append]; omega, hs _ (fun j hj => rng_at2 hj) i hi⟩
theorem at_same {k : Nat} {gt tm : List AV} {h : List Ch} (hk : k ≤ h.length) (hs : SelfFit h) (ht : fitL (List.range h.length ++ []) gt tm) : At k gt h tm h := by
  have := at_drop (l := []) hk hs ht
  rwa [List.append_nil] at this
theorem at_drop1 {k j : Nat} {gt tm : List AV} {h l : List Ch} {e : Ety} {xs : List e.T} (hk : k ≤ h.length) (hs : SelfFit h) (hj : hth l j = .rows e xs) (ht : fitL (List.range h.length ++ [h.length + j]) gt tm) : At k gt (h ++ [.rows e xs]) tm (h ++ l) := by
  have hjl : j < l.length := hth_lt (by rw [hj]; simp)
  refine ⟨_, _, Gh.refl, List.range h.length ++ [h.length + j], ?_, ht, fitHs_of (by simp) fun i hi => ?_, ?_⟩
  · rw [List.take_append_of_le_length (by simpa using hk), List.take_range, Nat.min_eq_left hk]
  · rw [List.length_append] at hi
    by_cases c : i < h.length
    · rw [rng_D c, hth_app c, hth_app c]
      exact ⟨by rw [List.length_append]; omega, hs _ (fun j hj => rng_at2 hj) i c⟩
    · have : i = h.length + 0 := by simp at hi; omega
      subst this
      have e1 : (List.range h.length ++ [h.length + j]).getD (h.length + 0) 0 = h.length + j := by
        rw [List.getD_eq_getElem?_getD, rng_at3]; rfl
      rw [e1, hth_app_r, hth_app_r, hj]
      exact ⟨by rw [List.length_append]; omega, by show (match asE e e xs with | some ys => xs = ys | none => False); rw [asE_self]⟩
  · refine List.nodup_append.2 ⟨List.nodup_range, by simp, fun a ha b hb => ?_⟩
    have := List.mem_range.1 ha
    rw [List.mem_singleton.1 hb]
    omega
theorem SelfFit.app {h l : List Ch} (hs : SelfFit h) (hl : ∀ c ∈ l, ∀ σ, fitC σ c c) : SelfFit (h ++ l) := by
  intro σ hσ i hi
  rw [List.length_append] at hi hσ
  by_cases c : i < h.length
  · rw [hth_app c]
    exact hs σ (fun j hj => hσ j (by omega)) i c
  · obtain ⟨j, rfl⟩ : ∃ j, i = h.length + j := ⟨i - h.length, by omega⟩
    rw [hth_app_r]
    have hj : j < l.length := by omega
    have e : hth l j = l[j] := by
      have := hth_some hj
      rw [List.getElem?_eq_getElem hj] at this
      exact (Option.some.inj this).symm
    rw [e]
    exact hl _ (List.getElem_mem hj) σ
theorem fitP2 {σ : List Nat} : ∀ {ts : List Nat} {ps : List Prc}, (∀ t ∈ ts, σ[t]? = some t) → fitL σ (flatP ts ps) (flatP ts ps)
  | [], _, _ => trivial
  | _ :: _, [], _ => trivial
  | t :: ts, p :: ps, h => ⟨⟨rfl, rfl⟩, ⟨h t (by simp), rfl, rfl, rfl⟩, fitP2 fun x hx => h x (by simp [hx])⟩
theorem AM_len {ps : List Prc} (hp : 0 < ps.length) : (AM ps).length = ps.length + 2 := by
  have e : AM ps = .cells [.bool true, .csl 1 ps.length 2] :: AMr ps := if_neg (by omega)
  rw [e]
  simp [AMr]
theorem AM_self {ps : List Prc} (hp : 0 < ps.length) : SelfFit (AM ps) := by
  intro σ hσ i hi
  have hl := AM_len hp
  have e : AM ps = .cells [.bool true, .csl 1 ps.length 2] :: AMr ps := if_neg (by omega)
  rw [hl] at hσ hi
  rw [e]
  match i, hi with
  | 0, _ => exact ⟨rfl, ⟨hσ 1 (by omega), rfl, rfl⟩, trivial⟩
  | 1, _ => exact ⟨rfl, fitP2 fun t ht => hσ t (by have := List.mem_range'_1.1 ht; omega)⟩
  | i + 2, hi =>
    show fitC σ (hth (ps.map rowP) i) (hth (ps.map rowP) i)
    rw [hth_rows (by omega)]
    show (match asE .ent .ent (pAt ps i).list with | some ys => (pAt ps i).list = ys | none => False)
    rw [asE_self]
theorem symH (h : List Ch) : ((∀ l, hth (h ++ l) h.length = hth l 0) ∧ ∀ l j, hth (h ++ l) (h.length + j) = hth l j) ∧ ((∀ l c, (h ++ l).set h.length c = h ++ l.set 0 c) ∧ ∀ l j c, (h ++ l).set (h.length + j) c = h ++ l.set j c) ∧ ∀ l l', h ++ l ++ l' = h ++ (l ++ l') := by
  refine ⟨⟨fun l => hth_app_r (j := 0), fun l j => hth_app_r⟩, ⟨fun l c => ?_, fun l j c => ?_⟩, fun l l' => List.append_assoc _ _ _⟩
  · rw [List.set_append_right _ _ (Nat.le_refl _), Nat.sub_self]
  · rw [List.set_append_right _ _ (Nat.le_add_right _ _), Nat.add_sub_cancel_left]
theorem frL_flat {t : Nat} {e : Ety} {xs : List e.T} : ∀ {ts : List Nat} {ps : List Prc}, t ∉ ts → frL t e xs (flatP ts ps) = flatP ts ps
  | [], _, _ => rfl
  | _ :: _, [], _ => rfl
  | s :: ts, p :: ps, h => by
    have h1 : ¬ s = t := fun q => h (by rw [q]; simp)
    show _ :: frA t e xs (.sl s .ent 0 p.list.length) :: frL t e xs (flatP ts ps) = _
    rw [frL_flat fun q => h (List.mem_cons_of_mem _ q)]
    show _ :: (if s = t then _ else _) :: _ = _
    rw [if_neg h1]; rfl
theorem frObL_flat {t : Nat} {e : Ety} {m : Nat} : ∀ {ts : List Nat} {ps : List Prc}, t ∉ ts → frObL t e m (flatP ts ps)
  | [], _, _ => trivial
  | _ :: _, [], _ => trivial
  | s :: ts, p :: ps, h => ⟨trivial, fun q => absurd q (fun q => h (by rw [q]; simp)), frObL_flat fun q => h (List.mem_cons_of_mem _ q)⟩
theorem frHs_rows {t : Nat} {e : Ety} {xs : List e.T} : ∀ (ps : List Prc), frHs t e xs (ps.map rowP) = ps.map rowP
  | [] => rfl
  | p :: ps => by
    show frC t e xs (rowP p) :: frHs t e xs (ps.map rowP) = _
    rw [frHs_rows ps]; rfl
theorem frObH_rows {t : Nat} {e : Ety} {m : Nat} : ∀ (ps : List Prc), frObH t e m (ps.map rowP)
  | [] => trivial
  | p :: ps => ⟨trivial, frObH_rows ps⟩
theorem frHs_app {t : Nat} {e : Ety} {xs : List e.T} : ∀ (h l : List Ch), frHs t e xs (h ++ l) = frHs t e xs h ++ frHs t e xs l
  | [], _ => rfl
  | c :: h, l => by
    show frC t e xs c :: frHs t e xs (h ++ l) = frC t e xs c :: (frHs t e xs h ++ frHs t e xs l)
    rw [frHs_app h l]
theorem frObH_app {t : Nat} {e : Ety} {m : Nat} : ∀ {h l : List Ch}, frObH t e m h → frObH t e m l → frObH t e m (h ++ l)
  | [], _, _, b => b
  | _ :: _, _, a, b => ⟨a.1, frObH_app a.2 b⟩
theorem AM_fr {ps : List Prc} (hp : 0 < ps.length) (e : Ety) (xs : List e.T) : frHs (AM ps).length e xs (AM ps) = AM ps ∧ frObH (AM ps).length e xs.length (AM ps) := by
  have hl := AM_len hp
  have e0 : AM ps = .cells [.bool true, .csl 1 ps.length 2] :: AMr ps := if_neg (by omega)
  have hni : (AM ps).length ∉ List.range' 2 ps.length := fun q => by have := List.mem_range'_1.1 q; omega
  generalize (AM ps).length = t at hni
  rw [e0]
  constructor
  · show frC t e xs _ :: frC t e xs (.crow (flatP (List.range' 2 ps.length) ps)) :: frHs t e xs (ps.map rowP) = _
    rw [frHs_rows]
    show _ :: Ch.crow (frL t e xs (flatP (List.range' 2 ps.length) ps)) :: _ = _
    rw [frL_flat hni]; rfl
  · exact ⟨⟨trivial, trivial, trivial⟩, frObL_flat hni, frObH_rows ps⟩
theorem end_arcRo {h : List Ch} {v : Nat} {ts : List Nat} {ps : List Prc} {e : Ety} {xs : List e.T} {n : Nat} (a : Arc h v ts ps) (hn : n = xs.length) (F : frHs h.length e xs h = h ∧ frObH h.length e xs.length h) : ∃ v' h2, Gh [.sl h.length e 0 n] (h ++ [.rows e xs]) [v'] h2 ∧ EndF 1 (.ro e xs) ([.pack (AM ps)] ++ []) v' h2 := by
  subst hn
  have e1 : frHs h.length e xs ((h ++ [Ch.rows e xs]).set h.length .gone) = h ++ [.gone] := by
    rw [List.set_append_right _ _ (Nat.le_refl _), Nat.sub_self, frHs_app, F.1]; rfl
  have e2 : frL h.length e xs [.sl h.length e 0 xs.length] = [.ro e xs] := by
    show [if h.length = h.length then AV.ro e ((xs.drop 0).take xs.length) else _] = _
    rw [if_pos rfl, List.drop_zero, List.take_length]
  have G := gh_frz (tm := [.sl h.length e 0 xs.length]) (h := h ++ [Ch.rows e xs]) (t := h.length) (e := e) (xs := xs) (hth_app_r (j := 0)) ⟨fun _ => ⟨rfl, by omega⟩, trivial⟩ (frObH_app F.2 (show frObH h.length e xs.length [Ch.rows e xs] from ⟨trivial, trivial⟩))
  rw [e1, e2] at G
  have a2 := a.app [.gone]
  have hc : hth (closeH (h ++ [.gone]) 0 (v :: ts) (AM ps)) 0 = .pack (AM ps) := by
    unfold closeH
    exact hth_set_eq (by rw [goneH_len]; exact a2.lt 0 (by simp))
  refine ⟨_, _, Gh.trans G (gh_close a2.shut), [0], rfl, ⟨?_, trivial⟩, ⟨hth_lt (by rw [hc]; simp), by rw [hc]; exact rfl, trivial⟩, by simp⟩
  show (match asE e e xs with | some ys => xs = ys | none => False)
  rw [asE_self]
end Go.V
