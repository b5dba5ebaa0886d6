/-
  slices.Sorted(maps.Keys(m)) at integer keys: the shelf's contracts over the abstract memory.
  The program's link: usable, clock, Sent, Pending.
  The program's link: Send.
  The program's link: Receive.
-/
import Derived.Test.YtnlndokgejiafaaPart12
import Derived.Shelf.SlIterI.Sorted
import Derived.Ground.GgzProg
set_option linter.unusedVariables false
set_option linter.unusedSimpArgs false
set_option maxRecDepth 100000
set_option maxHeartbeats 1000000
namespace Go.Proofs
open Go.Shelf
shelf_lay_g SlLaysZI.n7 Ggz 7 at Try 32 as Try.lkKeys
shelf_lay_g SlLaysZI.n6 Ggz 6 at Try 31 as Try.lkSorted
end Go.Proofs
namespace Go.V
open Go.Proofs Go.Sort Go.RowKit
theorem Try.lkSorts (m : Nat) : AnyZI.SortsIn Try.prog Try.lkSorted_ren Fence.wide m :=
  ⟨fun blk off cap ss W hH hblk hsz => callsIn_wide.2 (AnyM.slices_Sort_int Try.mSortZ blk off cap ss W hH hblk hsz),
   fun p cap W => callsIn_wide.2 (AnyM.slices_Sort_int_none Try.mSortZ p cap W)⟩
/-- the closure that maps.Keys returns -/
theorem c_keys {h : List Ch} {K : KT} {t : Nat} {kv : List (Int × Arr)} (H : K (.fn 43 [.ptr h.length 0]) (h ++ [.cells [.mp t]])) (o : hth h t = .map .int .arr kv) : Does Try.prog 32 [.mp t] h K := by
  refine ⟨⟨_, fn_32, rfl, rfl⟩, fun R μ w vs hv H0 => ?_⟩
  cases hv with
  | cons hv h2 =>
  cases h2
  cases hv with
  | mp h1 =>
  rename_i b
  refine ((callsIn_wide (n := 1)).1 (AnyZI.keys_in Try.lkKeys Fence.wide 1 trivial rfl (some b) w)).mono ?_
  rintro e w' ⟨rfl, rfl⟩
  have hb : HOk R μ h w := H0
  obtain ⟨H1, hst⟩ := H0.push (w' := w.alloc (.cells #[.map (some b)] _)) (c := .cells [.mp t]) (B := .cel w.heap.size) (fun n hn => RowKit.Below.heap_alloc w _ n hn) (by simp) (by simp [ownC]) (fun n hn => by simp [ownC] at hn; subst hn; simp)
    ⟨w.heap.size, _, _, rfl, heap_alloc_new w _, .cons (.mp ((Ext.app μ [_]).mp h1)) .nil⟩ rfl rfl rfl
  refine ⟨_, R, _, _, _, rfl, H, ?_, H1, Ext.app _ _, hst⟩
  exact .fn (.cons (.ptr (B := .cel w.heap.size) (by rw [H0.rel.len, List.getElem?_append_right (Nat.le_refl _), Nat.sub_self]; rfl) rfl) .nil)
abbrev i_keys := Ctr.mk (i := 0) (g := 32) @c_keys
attribute [instance] i_keys
theorem mkeys {R : RO} {T : Type} : ∀ {kv0 : List (Int × T)} {es : List MapEntry}, LRel R [] (kv0.map fun p => KTy.av .int p.1) (es.map (·.key)) → es.map (·.key) = kv0.map fun p => Value.int .i64 p.1
  | [], [], _ => rfl
  | [], _ :: _, h => by cases h
  | _ :: _, [], h => by cases h
  | p :: kv, x :: es, h => by
    rw [List.map_cons, List.map_cons] at h
    cases h with
    | cons h1 h2 =>
    have e := mkeys h2
    have e1 : x.key = Value.int .i64 p.1 := by
      have h1' : Rel R [] (.int .i64 p.1) x.key := h1
      generalize x.key = v at h1' ⊢
      cases h1'
      rfl
    rw [List.map_cons, List.map_cons, e, e1]
def valN : Value → Int
  | .int _ n => n
  | _ => 0
theorem sortZ_congr {l m : List Int} (h : l.Perm m) : sortZ l = sortZ m := mergeSort_of_perm_i h
theorem c_sorted {h : List Ch} {K : KT} {t u : Nat} {kv : List (Int × Arr)} (H : K (.sl h.length .int 0 kv.length) (h ++ [.rows .int (sortZ (kv.map fun p => p.1))])) (o : hth h u = .cells [.mp t]) (o1 : hth h t = .map .int .arr kv) (s1 : ∀ p ∈ kv, IntKind.i64.has p.1) (s2 : kv.length ≤ 1000000) : Does Try.prog 31 [.fn 43 [.ptr u 0]] h K := by
  refine ⟨⟨_, fn_31, rfl, rfl⟩, fun R μ w vs hv H0 => ?_⟩
  cases hv with
  | cons hv h2 =>
  cases h2
  cases hv with
  | fn hl =>
  cases hl with
  | cons hp h3 =>
  cases h3
  cases hp with
  | ptr hB hb =>
  rename_i B b
  obtain ⟨B', hB', hr, _⟩ := H0.rel.get (hth_get o (by simp))
  have : B' = B := by rw [hB] at hB'; exact (Option.some.inj hB').symm
  subst this
  obtain ⟨n, arr, ty, rfl, hn, hl⟩ := hr
  obtain rfl : n = b := Option.some.inj hb
  generalize hal : arr.toList = al at hl
  cases hl with
  | cons hm h4 =>
  cases h4
  cases hm with
  | mp hμ =>
  rename_i bm
  obtain rfl : arr = #[.map (some bm)] := by rw [← Array.toList_inj, hal]
  obtain ⟨es, clock, kv0, heb, hmr, hbn, hsm⟩ := map_at H0 hμ (hth_get o1 (by simp))
  have hk := mkeys hmr.1
  have hml : maxLen = 9223372036854775807 := rfl
  have hlen : es.size = kv.length := by
    have e1 := congrArg List.length hk
    rw [List.length_map, List.length_map, Array.length_toList] at e1
    rw [e1, hsm.1.length_eq]
  let R1 : Value → Option (DataW Unit × List MemPlace) := fun _ => some (.lit (.bool true), [])
  have hkey : ∀ x ∈ es.toList, ∃ a, x.key = .int .i64 a ∧ IntKind.i64.has a := fun x hx => by
    have : x.key ∈ es.toList.map (·.key) := List.mem_map_of_mem hx
    rw [hk] at this
    obtain ⟨p, hp, e⟩ := List.mem_map.1 this
    exact ⟨p.1, e.symm, s1 p (hsm.1.mem_iff.1 hp)⟩
  have hrd : ∀ x ∈ es.toList, Go.WideElems.rd Try.prog 3 R1 x = some (.int .i64 (valN x.key), .lit (.bool true)) := fun x hx => by
    obtain ⟨a, ha, hh⟩ := hkey x hx
    obtain ⟨key, val, born⟩ := x
    subst ha
    refine Go.WideElems.rd_mk (yv := (.lit (.bool true), [])) ?_ rfl
    have hw : (Lit.int .i64 a).wf = true := by have hh' : IntKind.i64.min ≤ a ∧ a ≤ 9223372036854775807 := hh; simpa [Lit.wf] using hh'
    simp [keyOf, Try.underlying3, mapKey, valN, hw]
  have hfit : Go.WideElems.Fit Try.prog 3 R1 es clock := ⟨by omega, ⟨hbn.1, hbn.2, by
    rw [hk]
    refine List.Pairwise.map _ ?_ (List.pairwise_map.1 hsm.2)
    intro p q hne e
    exact hne (by injection e)⟩, fun x hx => ⟨_, hrd x hx⟩⟩
  have hown := World.ownsMap_of_fit (R := R1) heb hfit (fun _ _ _ h => h)
  generalize hD : (DataW.map ((es.toList.map (Go.WideElems.rg Try.prog 3 R1)).foldr DataW.insert []) : DataW Unit) = D at hown
  have hperm : (intKeys D).Perm (kv.map fun p => p.1) := by
    rw [← hD]
    refine ((Go.WideShapes.sorted_perm _).map fun p => intOf p.1).trans ?_
    rw [List.map_map]
    have e : es.toList.map ((fun p : Lit × DataW Unit => intOf p.1) ∘ Go.WideElems.rg Try.prog 3 R1) = (es.toList.map (·.key)).map valN := by
      rw [List.map_map]
      refine List.map_congr_left fun x hx => ?_
      show intOf (Go.WideElems.rg Try.prog 3 R1 x).1 = valN x.key
      rw [Go.WideElems.rg_of (hrd x hx)]
      rfl
    rw [e, hk, List.map_map]
    exact hsm.1.map _
  have hsize : Maps.size D = kv.length := by
    have := hperm.length_eq
    rw [List.length_map] at this
    rw [← this, ← hD]
    unfold intKeys
    rw [List.length_map]
    rfl
  have hcell : w.cell? ⟨n, 0, none⟩ = some (.map (some bm)) := by simp [World.cell?, hn]
  have hnlt : n < w.heap.size := (Array.getElem?_eq_some_iff.1 hn).1
  have hseq := AnyZI.keys_gives (ρ := Try.lkKeys_ren) { Try.lkKeys with } Fence.wide 2 trivial rfl (by omega) n bm _ D w hnlt hcell hown
  have cS := AnyZI.sorted_in Try.lkSorted Fence.wide 5 trivial trivial trivial trivial rfl (by omega) (Try.lkSorts _) (enters_of Try.func42 (by kernel_rfl) rfl) 43 #[.pointer (some ⟨n, 0, none⟩)] trivial (enters_of Try.func43 (by kernel_rfl) rfl) _ (Maps.size D) (by rw [hsize]; omega) (by rw [hsize]; omega) _ hseq
  refine ((callsIn_wide (n := 5)).1 cS).mono ?_
  rintro e w' ⟨v, ss, rfl, hS, hrow, hnil, hbe⟩
  have hss : sortZ ss = sortZ (kv.map fun p => p.1) := sortZ_congr (hS.trans hperm)
  have hsl : ss.length = kv.length := by rw [(hS.trans hperm).length_eq, List.length_map]
  rw [← hss, ← hsl] at H
  rcases hrow.2 with ⟨rfl, hz⟩ | ⟨g, cap, cur, rfl, hg1, hg2, hg3, hg4, hg5, hg6⟩
  · obtain rfl : ss = [] := List.eq_nil_of_length_eq_zero hz
    obtain ⟨H1, hst⟩ := H0.push (w' := w') (c := .rows .int (sortZ [])) (B := .none) (fun m hm => hbe.block m hm) hbe.size (by simp [ownC]) (fun m hm => by simp [ownC] at hm) (.inl ⟨rfl, List.eq_nil_of_length_eq_zero (sortZ_len [])⟩) hbe.os hbe.tape hbe.output
    exact ⟨_, R, _, _, _, rfl, H, .sl0 (.inl (by rw [H0.rel.len, List.getElem?_append_right (Nat.le_refl _), Nat.sub_self]; rfl)), H1, Ext.app _ _, hst⟩
  · obtain ⟨H1, hst⟩ := H0.push (w' := w') (c := .rows .int (sortZ ss)) (B := .blk g cap) (fun m hm => hbe.block m hm) hbe.size (by simp [ownC]) (fun m hm => by simp [ownC] at hm; subst hm; exact ⟨hg1, (Array.getElem?_eq_some_iff.1 hg2).1⟩)
      (.inr ⟨g, cap, cur, _, rfl, hg2, by rw [hg5]; rfl, by rw [sortZ_len]; exact hg3, hg4, by
        rw [show Ety.sz .int = 1 from rfl, sortZ_len, hg6]
        exact of_ints _⟩) hbe.os hbe.tape hbe.output
    refine ⟨_, R, _, _, _, rfl, H, ?_, H1, Ext.app _ _, hst⟩
    have := Rel.sl (R := R) (μ := μ ++ [.blk g cap]) (t := h.length) (e := .int) (start := 0) (len := ss.length) (c := cap) (by rw [H0.rel.len, List.getElem?_append_right (Nat.le_refl _), Nat.sub_self]; rfl) (Nat.zero_add _) hg3 hg4
    rw [Nat.zero_mul] at this
    exact this
abbrev i_sorted := Ctr.mk (i := 0) (g := 31) @c_sorted
attribute [instance] i_sorted
end Go.V

set_option maxRecDepth 100000
set_option maxHeartbeats 8000000
namespace Go.V
open Go.Proofs
/-- a link as it lies -/
def LKO (s : Lk) : List Ch := [.cells [.bool true, .int .i64 s.c.dl, .ro .rng s.c.out, .ro .int s.c.lost, .ro .flp s.c.flips, .int .i64 s.now, .int .i64 s.sent, .mp 1], .map .int .arr s.P]
attribute [go_sem] LKO
theorem b_usable (dl now sent : Int) (out : List Rng) (lost : List Int) (flips : List Flp) (P : List (Int × Arr)) : DoesK Try.prog 1 26 [.ptr 0 0] [.pack (LKO ⟨⟨dl, out, lost, flips⟩, now, sent, P⟩)] (EndF 1 (.bool true) ([.pack (LKO ⟨⟨dl, out, lost, flips⟩, now, sent, P⟩)] ++ [])) := by
  refine DoesK.close ?_
  refine w_body (rs := [.tmp 2]) (tm := [.ptr 0 0, .any, .any, .any, .any, .any, .any, .any, .any, .any, .any]) fn_26 rfl rfl rfl rfl fun R hR => ?_
  (all_goals (try ((first | (with_reducible refine wp_id ?_) | (with_reducible refine does_id ?_) | (with_reducible refine ops_id ?_)); refine walk ?_; (repeat' (first | exact trivial | with_reducible refine And.intro ?_ ?_)); all_goals (repeat (first | (with_reducible refine ImpB.mk fun hb => ?_) | (with_reducible refine ImpK.mk fun hK => ?_) | (with_reducible refine ImpF.mk fun hF => ?_) | (with_reducible refine ImpQ.mk fun hp => ?_) | (with_reducible refine AllE.mk fun p => ?_) | (with_reducible refine AllR.mk fun rest => ?_) | (with_reducible refine AllK.mk fun K => ?_))))); repeat' (with_reducible refine And.intro ?_ ?_))
  (focus (refine ⟨_, _, gh_close (t := 0) (ts := [1]) (l := LKO ⟨⟨dl, out, lost, flips⟩, now, sent, P⟩) ⟨⟨_, _, rfl⟩, ?_, by simp⟩, [0], rfl, ?_⟩; all_goals (refine ⟨?_, ?_, ?_⟩ <;> simp only [go_sem, List.range, List.range.loop, List.nodup_cons, List.nodup_nil, List.mem_cons, List.not_mem_nil, or_false, or_self, decide_true, decide_false, Int.reduceToNat, Nat.min_eq_left, Nat.min_eq_right, Int.reducePow, Nat.reducePow, Int.reduceLE, Int.reduceLT, Int.reduceMul, Int.reduceAdd, Int.reduceSub, Int.reduceNeg, Bool.not_true, Bool.not_false, Bool.not_not, ↓reduceIte, Nat.reduceAdd, Nat.reduceSub, Nat.reduceMul, Nat.reduceEqDiff, reduceCtorEq, Nat.reduceLT, Nat.reduceLeDiff, Nat.reduceGT]); (try any_goals (refine ⟨?_, ?_⟩)); (try any_goals (with_reducible rfl))))
  all_goals (repeat' (first | (refine And.intro ?_ ?_) | exact List.Perm.refl _ | rfl))
theorem c_usable {h : List Ch} {K : KT} {u : Nat} {dl now sent : Int} {out : List Rng} {lost : List Int} {flips : List Flp} {P : List (Int × Arr)} (H : K (.bool true) h) (o : hth h u = .pack (LKO ⟨⟨dl, out, lost, flips⟩, now, sent, P⟩)) : Does Try.prog 26 [.ptr u 0] h K :=
  frame_look (b_usable dl now sent out lost flips P) o (by simp) (fitC_pack _) (br_cons (br_ptr rfl) br_nil) (.inl rfl) (fun _ => rfl) rfl H
abbrev i_usable := Ctr.mk (i := 0) (g := 26) @c_usable
attribute [instance] i_usable
theorem b_clock (dl now sent : Int) (out : List Rng) (lost : List Int) (flips : List Flp) (P : List (Int × Arr)) (n : Int) : DoesK Try.prog 1 27 [.ptr 0 0, .int .i64 n] [.pack (LKO ⟨⟨dl, out, lost, flips⟩, now, sent, P⟩)] (EndF 1 (.tup []) ([.pack (LKO ⟨⟨dl, out, lost, flips⟩, (atL now n), sent, P⟩)] ++ [])) := by
  refine DoesK.close ?_
  unfold atL
  by_cases c : n ≤ 1099511627776
  · have d : decide (n ≤ 1099511627776) = true := decide_eq_true c
    have e : (if now < n ∧ n ≤ 1099511627776 then n else now) = max now n := by split <;> omega
    rw [e]
    refine w_body (rs := []) (tm := [.ptr 0 0, .int .i64 n, .any, .any, .any, .any, .any, .any, .any, .any, .any, .any, .any, .any, .any]) fn_27 rfl rfl rfl rfl fun R hR => ?_
    (have zx1 := @d; all_goals (try ((first | (with_reducible refine wp_id ?_) | (with_reducible refine does_id ?_) | (with_reducible refine ops_id ?_)); refine walk ?_; (repeat' (first | exact trivial | with_reducible refine And.intro ?_ ?_)); all_goals (repeat (first | (with_reducible refine ImpB.mk fun hb => ?_) | (with_reducible refine ImpK.mk fun hK => ?_) | (with_reducible refine ImpF.mk fun hF => ?_) | (with_reducible refine ImpQ.mk fun hp => ?_) | (with_reducible refine AllE.mk fun p => ?_) | (with_reducible refine AllR.mk fun rest => ?_) | (with_reducible refine AllK.mk fun K => ?_))))); repeat' (with_reducible refine And.intro ?_ ?_))
    (focus (refine ⟨_, _, gh_close (t := 0) (ts := [1]) (l := LKO ⟨⟨dl, out, lost, flips⟩, max now n, sent, P⟩) ⟨⟨_, _, rfl⟩, ?_, by simp⟩, [0], rfl, ?_⟩; all_goals (refine ⟨?_, ?_, ?_⟩ <;> simp only [go_sem, List.range, List.range.loop, List.nodup_cons, List.nodup_nil, List.mem_cons, List.not_mem_nil, or_false, or_self, decide_true, decide_false, Int.reduceToNat, Nat.min_eq_left, Nat.min_eq_right, Int.reducePow, Nat.reducePow, Int.reduceLE, Int.reduceLT, Int.reduceMul, Int.reduceAdd, Int.reduceSub, Int.reduceNeg, Bool.not_true, Bool.not_false, Bool.not_not, ↓reduceIte, Nat.reduceAdd, Nat.reduceSub, Nat.reduceMul, Nat.reduceEqDiff, reduceCtorEq, Nat.reduceLT, Nat.reduceLeDiff, Nat.reduceGT]); (try any_goals (refine ⟨?_, ?_⟩)); (try any_goals (with_reducible rfl))))
    all_goals (repeat' (first | (refine And.intro ?_ ?_) | exact List.Perm.refl _ | rfl))
  · have d : decide (n ≤ 1099511627776) = false := decide_eq_false c
    have e : (if now < n ∧ n ≤ 1099511627776 then n else now) = now := if_neg (fun q => c q.2)
    rw [e]
    refine w_body (rs := []) (tm := [.ptr 0 0, .int .i64 n, .any, .any, .any, .any, .any, .any, .any, .any, .any, .any, .any, .any, .any]) fn_27 rfl rfl rfl rfl fun R hR => ?_
    (have zx1 := @d; all_goals (try ((first | (with_reducible refine wp_id ?_) | (with_reducible refine does_id ?_) | (with_reducible refine ops_id ?_)); refine walk ?_; (repeat' (first | exact trivial | with_reducible refine And.intro ?_ ?_)); all_goals (repeat (first | (with_reducible refine ImpB.mk fun hb => ?_) | (with_reducible refine ImpK.mk fun hK => ?_) | (with_reducible refine ImpF.mk fun hF => ?_) | (with_reducible refine ImpQ.mk fun hp => ?_) | (with_reducible refine AllE.mk fun p => ?_) | (with_reducible refine AllR.mk fun rest => ?_) | (with_reducible refine AllK.mk fun K => ?_))))); repeat' (with_reducible refine And.intro ?_ ?_))
    (focus (refine ⟨_, _, Gh.refl, [0], rfl, ?_⟩; (refine ⟨?_, ?_, ?_⟩ <;> simp only [go_sem, List.range, List.range.loop, List.nodup_cons, List.nodup_nil, List.mem_cons, List.not_mem_nil, or_false, or_self, decide_true, decide_false, Int.reduceToNat, Nat.min_eq_left, Nat.min_eq_right, Int.reducePow, Nat.reducePow, Int.reduceLE, Int.reduceLT, Int.reduceMul, Int.reduceAdd, Int.reduceSub, Int.reduceNeg, Bool.not_true, Bool.not_false, Bool.not_not, ↓reduceIte, Nat.reduceAdd, Nat.reduceSub, Nat.reduceMul, Nat.reduceEqDiff, reduceCtorEq, Nat.reduceLT, Nat.reduceLeDiff, Nat.reduceGT]); (try any_goals (refine ⟨?_, ?_⟩)); (try any_goals (with_reducible rfl))))
    all_goals (repeat' (first | (refine And.intro ?_ ?_) | exact List.Perm.refl _ | rfl))
theorem c_clock {h : List Ch} {K : KT} {u : Nat} {dl now sent : Int} {out : List Rng} {lost : List Int} {flips : List Flp} {P : List (Int × Arr)} {n : Int} (H : K (.tup []) (h.set u (.pack (LKO ⟨⟨dl, out, lost, flips⟩, (atL now n), sent, P⟩)))) (o : hth h u = .pack (LKO ⟨⟨dl, out, lost, flips⟩, now, sent, P⟩)) : Does Try.prog 27 [.ptr u 0, .int .i64 n] h K :=
  frame_obj0 (b_clock dl now sent out lost flips P n) o (by simp) (fitC_pack _) (br_cons (br_ptr rfl) (br_cons br_int br_nil)) (.inl rfl) (fun _ => rfl) rfl H
abbrev i_clock := Ctr.mk (i := 0) (g := 27) @c_clock
attribute [instance] i_clock
theorem b_Sent (dl now sent : Int) (out : List Rng) (lost : List Int) (flips : List Flp) (P : List (Int × Arr)) : DoesK Try.prog 1 13 [.ptr 0 0] [.pack (LKO ⟨⟨dl, out, lost, flips⟩, now, sent, P⟩)] (EndF 1 (.int .i64 sent) ([.pack (LKO ⟨⟨dl, out, lost, flips⟩, now, sent, P⟩)] ++ [])) := by
  refine DoesK.close ?_
  refine w_body (rs := [.tmp 2]) (tm := [.ptr 0 0, .any, .any, .any, .any, .any, .any, .any, .any, .any]) fn_13 rfl rfl rfl rfl fun R hR => ?_
  (all_goals (try ((first | (with_reducible refine wp_id ?_) | (with_reducible refine does_id ?_) | (with_reducible refine ops_id ?_)); refine walk ?_; (repeat' (first | exact trivial | with_reducible refine And.intro ?_ ?_)); all_goals (repeat (first | (with_reducible refine ImpB.mk fun hb => ?_) | (with_reducible refine ImpK.mk fun hK => ?_) | (with_reducible refine ImpF.mk fun hF => ?_) | (with_reducible refine ImpQ.mk fun hp => ?_) | (with_reducible refine AllE.mk fun p => ?_) | (with_reducible refine AllR.mk fun rest => ?_) | (with_reducible refine AllK.mk fun K => ?_))))); repeat' (with_reducible refine And.intro ?_ ?_))
  (focus (refine ⟨_, _, gh_close (t := 0) (ts := [1]) (l := LKO ⟨⟨dl, out, lost, flips⟩, now, sent, P⟩) ⟨⟨_, _, rfl⟩, ?_, by simp⟩, [0], rfl, ?_⟩; all_goals (refine ⟨?_, ?_, ?_⟩ <;> simp only [go_sem, List.range, List.range.loop, List.nodup_cons, List.nodup_nil, List.mem_cons, List.not_mem_nil, or_false, or_self, decide_true, decide_false, Int.reduceToNat, Nat.min_eq_left, Nat.min_eq_right, Int.reducePow, Nat.reducePow, Int.reduceLE, Int.reduceLT, Int.reduceMul, Int.reduceAdd, Int.reduceSub, Int.reduceNeg, Bool.not_true, Bool.not_false, Bool.not_not, ↓reduceIte, Nat.reduceAdd, Nat.reduceSub, Nat.reduceMul, Nat.reduceEqDiff, reduceCtorEq, Nat.reduceLT, Nat.reduceLeDiff, Nat.reduceGT]); (try any_goals (refine ⟨?_, ?_⟩)); (try any_goals (with_reducible rfl))))
  all_goals (repeat' (first | (refine And.intro ?_ ?_) | exact List.Perm.refl _ | rfl))
theorem k_Sent {h : List Ch} {K : KT} {u : Nat} {dl now sent : Int} {out : List Rng} {lost : List Int} {flips : List Flp} {P : List (Int × Arr)} (H : K (.int .i64 sent) h) (o : hth h u = .pack (LKO ⟨⟨dl, out, lost, flips⟩, now, sent, P⟩)) : Does Try.prog 13 [.ptr u 0] h K :=
  frame_look (b_Sent dl now sent out lost flips P) o (by simp) (fitC_pack _) (br_cons (br_ptr rfl) br_nil) (.inl rfl) (fun _ => rfl) rfl H
theorem b_Pending (dl now sent : Int) (out : List Rng) (lost : List Int) (flips : List Flp) (P : List (Int × Arr)) : DoesK Try.prog 1 12 [.ptr 0 0] [.pack (LKO ⟨⟨dl, out, lost, flips⟩, now, sent, P⟩)] (EndF 1 (.int .i64 P.length) ([.pack (LKO ⟨⟨dl, out, lost, flips⟩, now, sent, P⟩)] ++ [])) := by
  refine DoesK.close ?_
  refine w_body (rs := [.tmp 2]) (tm := [.ptr 0 0, .any, .any, .any, .any, .any, .any, .any, .any, .any, .any]) fn_12 rfl rfl rfl rfl fun R hR => ?_
  (all_goals (try ((first | (with_reducible refine wp_id ?_) | (with_reducible refine does_id ?_) | (with_reducible refine ops_id ?_)); refine walk ?_; (repeat' (first | exact trivial | with_reducible refine And.intro ?_ ?_)); all_goals (repeat (first | (with_reducible refine ImpB.mk fun hb => ?_) | (with_reducible refine ImpK.mk fun hK => ?_) | (with_reducible refine ImpF.mk fun hF => ?_) | (with_reducible refine ImpQ.mk fun hp => ?_) | (with_reducible refine AllE.mk fun p => ?_) | (with_reducible refine AllR.mk fun rest => ?_) | (with_reducible refine AllK.mk fun K => ?_))))); repeat' (with_reducible refine And.intro ?_ ?_))
  (focus (refine ⟨_, _, gh_close (t := 0) (ts := [1]) (l := LKO ⟨⟨dl, out, lost, flips⟩, now, sent, P⟩) ⟨⟨_, _, rfl⟩, ?_, by simp⟩, [0], rfl, ?_⟩; all_goals (refine ⟨?_, ?_, ?_⟩ <;> simp only [go_sem, List.range, List.range.loop, List.nodup_cons, List.nodup_nil, List.mem_cons, List.not_mem_nil, or_false, or_self, decide_true, decide_false, Int.reduceToNat, Nat.min_eq_left, Nat.min_eq_right, Int.reducePow, Nat.reducePow, Int.reduceLE, Int.reduceLT, Int.reduceMul, Int.reduceAdd, Int.reduceSub, Int.reduceNeg, Bool.not_true, Bool.not_false, Bool.not_not, ↓reduceIte, Nat.reduceAdd, Nat.reduceSub, Nat.reduceMul, Nat.reduceEqDiff, reduceCtorEq, Nat.reduceLT, Nat.reduceLeDiff, Nat.reduceGT]); (try any_goals (refine ⟨?_, ?_⟩)); (try any_goals (with_reducible rfl))))
  all_goals (repeat' (first | (refine And.intro ?_ ?_) | exact List.Perm.refl _ | rfl))
theorem k_Pending {h : List Ch} {K : KT} {u : Nat} {dl now sent : Int} {out : List Rng} {lost : List Int} {flips : List Flp} {P : List (Int × Arr)} (H : K (.int .i64 P.length) h) (o : hth h u = .pack (LKO ⟨⟨dl, out, lost, flips⟩, now, sent, P⟩)) : Does Try.prog 12 [.ptr u 0] h K :=
  frame_look (b_Pending dl now sent out lost flips P) o (by simp) (fitC_pack _) (br_cons (br_ptr rfl) br_nil) (.inl rfl) (fun _ => rfl) rfl H
end Go.V

set_option maxRecDepth 100000
set_option maxHeartbeats 8000000
namespace Go.V
open Go.Proofs
theorem b_clB (xs : List UInt8) (hl : xs.length ≤ 1099511627776) : DoesK Try.prog 0 30 [.ro .byte xs] [] (EndF 0 (.sl 0 .byte 0 xs.length) [.rows .byte xs]) := by
  refine DoesK.close ?_
  refine w_body (rs := [.tmp 2]) (tm := [.ro .byte xs, .any, .any, .any, .any, .any, .any, .any]) fn_30 rfl rfl rfl rfl fun R hR => ?_
  (all_goals (try ((first | (with_reducible refine wp_id ?_) | (with_reducible refine does_id ?_) | (with_reducible refine ops_id ?_)); refine walk ?_; (repeat' (first | exact trivial | with_reducible refine And.intro ?_ ?_)); all_goals (repeat (first | (with_reducible refine ImpB.mk fun hb => ?_) | (with_reducible refine ImpK.mk fun hK => ?_) | (with_reducible refine ImpF.mk fun hF => ?_) | (with_reducible refine ImpQ.mk fun hp => ?_) | (with_reducible refine AllE.mk fun p => ?_) | (with_reducible refine AllR.mk fun rest => ?_) | (with_reducible refine AllK.mk fun K => ?_))))); repeat' (with_reducible refine And.intro ?_ ?_))
  (all_goals first | exact Int.natCast_nonneg _ | exact Int.ofNat_lt.2 (by assumption) | assumption | omega | exact Nat.le_refl _ | (exfalso; simp at hb; done) | (simp only [go_sem, decide_true, decide_false, Int.reduceToNat, Nat.min_eq_left, Nat.min_eq_right, Int.reducePow, Nat.reducePow, Int.reduceLE, Int.reduceLT, Int.reduceMul, Int.reduceAdd, Int.reduceSub, Int.reduceNeg, Bool.not_true, Bool.not_false, Bool.not_not, ↓reduceIte, Nat.reduceAdd, Nat.reduceSub, Nat.reduceMul, Nat.reduceEqDiff, reduceCtorEq, Nat.reduceLT, Nat.reduceLeDiff, Nat.reduceGT]; done) | (unfold capM; omega) | (simp only [List.length_drop, List.length_take, List.length_append, List.length_cons, List.length_nil]; omega) | skip)
  · exact ⟨_, rfl⟩
  · subst hb
    refine ⟨_, _, gh_adopt (s := 0) .byte trivial, [0], rfl, ?ft⟩
    case' ft => (refine ⟨?_, ?_, ?_⟩ <;> simp only [go_sem, List.range, List.range.loop, List.nodup_cons, List.nodup_nil, List.mem_cons, List.not_mem_nil, or_false, or_self, decide_true, decide_false, Int.reduceToNat, Nat.min_eq_left, Nat.min_eq_right, Int.reducePow, Nat.reducePow, Int.reduceLE, Int.reduceLT, Int.reduceMul, Int.reduceAdd, Int.reduceSub, Int.reduceNeg, Bool.not_true, Bool.not_false, Bool.not_not, ↓reduceIte, Nat.reduceAdd, Nat.reduceSub, Nat.reduceMul, Nat.reduceEqDiff, reduceCtorEq, Nat.reduceLT, Nat.reduceLeDiff, Nat.reduceGT])
    all_goals rfl
  · (focus (refine ⟨_, _, Gh.refl, [1], rfl, ?_⟩; (refine ⟨?_, ?_, ?_⟩ <;> simp only [go_sem, List.range, List.range.loop, List.nodup_cons, List.nodup_nil, List.mem_cons, List.not_mem_nil, or_false, or_self, decide_true, decide_false, Int.reduceToNat, Nat.min_eq_left, Nat.min_eq_right, Int.reducePow, Nat.reducePow, Int.reduceLE, Int.reduceLT, Int.reduceMul, Int.reduceAdd, Int.reduceSub, Int.reduceNeg, Bool.not_true, Bool.not_false, Bool.not_not, ↓reduceIte, Nat.reduceAdd, Nat.reduceSub, Nat.reduceMul, Nat.reduceEqDiff, reduceCtorEq, Nat.reduceLT, Nat.reduceLeDiff, Nat.reduceGT]); (try any_goals (refine ⟨?_, ?_⟩)); (try any_goals (with_reducible rfl))))
theorem c_clB {h : List Ch} {K : KT} {xs : List UInt8} {a : AV} (H : K (.sl h.length .byte 0 xs.length) (h ++ [.rows .byte xs])) (q1 : isRO .byte xs a) (s1 : xs.length ≤ 1099511627776) : Does Try.prog 30 [a] h K :=
  frame_new (b_clB xs s1) (br_cons q1.br br_nil) (.inl (by rw [brTL, q1.brT]; rfl)) (fun _ => rfl) (by simp [renA, rhoC]) H
abbrev i_clB := Ctr.mk (i := 0) (g := 30) @c_clB
attribute [instance] i_clB
theorem b_send1 (dl now sent : Int) (out : List Rng) (lost : List Int) (flips : List Flp) (P : List (Int × Arr)) (n : Int) (b : List UInt8) (hs : okL ⟨⟨dl, out, lost, flips⟩, now, sent, P⟩) (hb : b.length ≤ 1000000) (hse : sent ≤ 1000000) : DoesK Try.prog 1 9 [.ptr 0 0, .int .i64 n, .ro .byte b] [.pack (LKO ⟨⟨dl, out, lost, flips⟩, now, sent, P⟩)] (EndF 1 (.int .i64 0) ([.pack (LKO (sendK ⟨⟨dl, out, lost, flips⟩, now, sent, P⟩ n b))] ++ [])) := by
  refine DoesK.close ?_
  obtain ⟨lo, hdl, fl, nw, se, len, asc, key, tm, ord, ln⟩ := hs
  (try dsimp only at lo hdl fl nw se len asc key tm ord ln)
  unfold sendK
  dsimp only
  obtain ⟨N, hN⟩ : ∃ N, atL now n = N := ⟨_, rfl⟩
  have hNb := atL_bd (n := n) nw
  rw [hN] at hNb ⊢
  have w1 : IntKind.i64.wrap (sent + 1) = sent + 1 := wrap_i64 _ (by omega) (by omega)
  unfold lostB
  dsimp only
  have hbd := hb
  clear hb
  cases h1 : hasB out N
  · cases h2 : lost.contains sent
    · rw [Bool.or_self, if_neg (by decide)]
      refine w_body (rs := [.tmp 6]) (tm := [.ptr 0 0, .int .i64 n, .ro .byte b, .any, .any, .any, .any, .any, .any, .any, .any, .any, .any, .any, .any, .any, .any, .any, .any, .any, .any, .any, .any, .any, .any, .any, .any, .any, .any, .any, .any, .any, .any, .any, .any, .any, .any, .any, .any, .any, .any, .any, .any, .any, .any, .any, .any, .any, .any, .any, .any, .any, .any, .any, .any, .any, .any, .any, .any, .any, .any, .any, .any, .any, .any, .any, .any, .any, .any, .any, .any, .any, .any, .any, .any, .any, .any, .any, .any, .any, .any, .any, .any, .any, .any, .any, .any, .any, .any, .any, .any, .any, .any, .any, .any, .any, .any, .any, .any, .any, .any, .any, .any]) fn_9 rfl rfl rfl rfl fun R hR => ?_
      (have zx1 := @hN; have zx2 := @h1; have zx3 := @h2; have zx4 := @w1; all_goals (try ((first | (with_reducible refine wp_id ?_) | (with_reducible refine does_id ?_) | (with_reducible refine ops_id ?_)); refine walk ?_; (repeat' (first | exact trivial | with_reducible refine And.intro ?_ ?_)); all_goals (repeat (first | (with_reducible refine ImpB.mk fun hb => ?_) | (with_reducible refine ImpK.mk fun hK => ?_) | (with_reducible refine ImpF.mk fun hF => ?_) | (with_reducible refine ImpQ.mk fun hp => ?_) | (with_reducible refine AllE.mk fun p => ?_) | (with_reducible refine AllR.mk fun rest => ?_) | (with_reducible refine AllK.mk fun K => ?_))))); repeat' (with_reducible refine And.intro ?_ ?_))
      all_goals first | omega | skip
      any_goals ((try (refine w_seq fun K hK => ?_)); (try (refine w_block ?_)); refine w_loop (A := Nat) (fun k => k ≤ flips.length) (fun k => flips.length - k) (fun k => [(7, .int .i64 sent), (8, .sl 2 .byte 0 b.length), (54, .ro .flp flips), (55, .int .i64 flips.length), (56, .int .i64 k)]) (fun k => [(2, .rows .byte (flpS (flips.take k) sent b))]) (0) (ws := ?ws1) (tk := ?tk1) ?hw1 ?ht1 ?hi ?h0 ?LH1; (case hw1 => simp only [go_sem, decide_true, decide_false, Int.reduceToNat, Nat.min_eq_left, Nat.min_eq_right, Int.reducePow, Nat.reducePow, Int.reduceLE, Int.reduceLT, Int.reduceMul, Int.reduceAdd, Int.reduceSub, Int.reduceNeg, Bool.not_true, Bool.not_false, Bool.not_not, ↓reduceIte, Nat.reduceAdd, Nat.reduceSub, Nat.reduceMul, Nat.reduceEqDiff, reduceCtorEq, Nat.reduceLT, Nat.reduceLeDiff, Nat.reduceGT]; exact rfl); (case ht1 => simp only [go_sem, decide_true, decide_false, Int.reduceToNat, Nat.min_eq_left, Nat.min_eq_right, Int.reducePow, Nat.reducePow, Int.reduceLE, Int.reduceLT, Int.reduceMul, Int.reduceAdd, Int.reduceSub, Int.reduceNeg, Bool.not_true, Bool.not_false, Bool.not_not, ↓reduceIte, Nat.reduceAdd, Nat.reduceSub, Nat.reduceMul, Nat.reduceEqDiff, reduceCtorEq, Nat.reduceLT, Nat.reduceLeDiff, Nat.reduceGT]; exact rfl); (case' LH1 => rintro k E t hx hE ht; simp only [go_sem] at ht; subst ht; simp only [go_sem]; try dsimp only at hx))
      case hi => exact Nat.zero_le _
      case h0 => (focus (refine ⟨_, _, Gh.refl, [0, 1, 2], rfl, ?_⟩; (refine ⟨?_, ?_, ?_⟩ <;> simp only [go_sem, List.range, List.range.loop, List.nodup_cons, List.nodup_nil, List.mem_cons, List.not_mem_nil, or_false, or_self, decide_true, decide_false, Int.reduceToNat, Nat.min_eq_left, Nat.min_eq_right, Int.reducePow, Nat.reducePow, Int.reduceLE, Int.reduceLT, Int.reduceMul, Int.reduceAdd, Int.reduceSub, Int.reduceNeg, Bool.not_true, Bool.not_false, Bool.not_not, ↓reduceIte, Nat.reduceAdd, Nat.reduceSub, Nat.reduceMul, Nat.reduceEqDiff, reduceCtorEq, Nat.reduceLT, Nat.reduceLeDiff, Nat.reduceGT]); (try any_goals (refine ⟨?_, ?_⟩)); (try any_goals (with_reducible rfl)))); (all_goals exact rfl)
      case LH1 =>
        have hk0 : k ≤ flips.length := hx
        have hfl := flpS_len (n := sent) (F := flips.take k) (xs := b)
        obtain ⟨xs, hxs⟩ : ∃ xs, flpS (flips.take k) sent b = xs := ⟨_, rfl⟩
        rw [hxs] at hfl ⊢
        have hw1 : IntKind.i64.wrap ((k : Int) + 1) = ((k + 1 : Nat) : Int) := by rw [wrap_i64 _ (by omega) (by omega)]; omega
        by_cases hk : k < flips.length
        · have hkd : decide ((k : Int) < (flips.length : Int)) = true := decide_eq_true (by omega)
          have hnx := flpS_next (n := sent) (xs := b) hk
          rw [hxs] at hnx
          obtain ⟨f, hf⟩ : ∃ f, flips.getD k Flp.zero = f := ⟨_, rfl⟩
          have hfb := fl _ (getM (z := Flp.zero) hk)
          rw [hf] at hnx hfb
          by_cases c : f.idx = sent
          · have cd : decide (f.idx = sent) = true := decide_eq_true c
            rw [if_pos c] at hnx
            by_cases c0 : b = []
            · have b0 : decide ((0 : Int) < (b.length : Int)) = false := decide_eq_false (by rw [c0]; decide)
              have xe : xs = [] := List.eq_nil_of_length_eq_zero (by rw [hfl, c0]; rfl)
              (have zx1 := @hkd; have zx2 := @hw1; have zx3 := @hf; have zx4 := @cd; have zx5 := @b0; all_goals (try ((first | (with_reducible refine wp_id ?_) | (with_reducible refine does_id ?_) | (with_reducible refine ops_id ?_)); refine walk ?_; (repeat' (first | exact trivial | with_reducible refine And.intro ?_ ?_)); all_goals (repeat (first | (with_reducible refine ImpB.mk fun hb => ?_) | (with_reducible refine ImpK.mk fun hK => ?_) | (with_reducible refine ImpF.mk fun hF => ?_) | (with_reducible refine ImpQ.mk fun hp => ?_) | (with_reducible refine AllE.mk fun p => ?_) | (with_reducible refine AllR.mk fun rest => ?_) | (with_reducible refine AllK.mk fun K => ?_))))); repeat' (with_reducible refine And.intro ?_ ?_))
              all_goals first | exact Int.natCast_nonneg _ | omega | skip
              refine ⟨k + 1, ⟨by first | omega | (dsimp only; omega), by first | omega | (dsimp only; omega)⟩, ?_⟩
              dsimp only
              rw [hnx, xe, flpB_nil]
              (focus (refine ⟨_, _, Gh.refl, [0, 1, 2], rfl, ?_⟩; (refine ⟨?_, ?_, ?_⟩ <;> simp only [go_sem, List.range, List.range.loop, List.nodup_cons, List.nodup_nil, List.mem_cons, List.not_mem_nil, or_false, or_self, decide_true, decide_false, Int.reduceToNat, Nat.min_eq_left, Nat.min_eq_right, Int.reducePow, Nat.reducePow, Int.reduceLE, Int.reduceLT, Int.reduceMul, Int.reduceAdd, Int.reduceSub, Int.reduceNeg, Bool.not_true, Bool.not_false, Bool.not_not, ↓reduceIte, Nat.reduceAdd, Nat.reduceSub, Nat.reduceMul, Nat.reduceEqDiff, reduceCtorEq, Nat.reduceLT, Nat.reduceLeDiff, Nat.reduceGT]); (try any_goals (refine ⟨?_, ?_⟩)); (try any_goals (with_reducible rfl))))
              all_goals first | exact rfl | exact xe | trace_state
            · have hbl : 0 < b.length := List.length_pos_iff.2 c0
              have b0 : decide ((0 : Int) < (b.length : Int)) = true := decide_eq_true (by omega)
              obtain ⟨m, hm⟩ : ∃ m, f.bit.toNat % (8 * b.length) = m := ⟨_, rfl⟩
              have hml : m < 8 * b.length := by rw [← hm]; exact Nat.mod_lt _ (by omega)
              obtain ⟨i, hi⟩ : ∃ i, m / 8 = i := ⟨_, rfl⟩
              obtain ⟨j, hj⟩ : ∃ j, m % 8 = j := ⟨_, rfl⟩
              have hil : i < b.length := by omega
              have hjl : j < 8 := by omega
              have z1 : IntKind.i64.wrap (8 * (b.length : Int)) = ((8 * b.length : Nat) : Int) := by rw [wrap_i64 _ (by omega) (by omega)]; omega
              have z2 : Int.tmod f.bit ((8 * b.length : Nat) : Int) = (m : Int) := by
                have e : f.bit = (f.bit.toNat : Int) := by omega
                rw [e, ← hm]; exact Int.ofNat_tmod _ _
              have z3 : IntKind.i64.wrap (Int.tdiv (m : Int) 8) = (i : Int) := by
                have e : Int.tdiv (m : Int) 8 = (i : Int) := by rw [← hi]; exact Int.ofNat_tdiv m 8
                rw [e]; exact wrap_i64 _ (by omega) (by omega)
              have z4 : Int.tmod (m : Int) 8 = (j : Int) := by rw [← hj]; exact Int.ofNat_tmod m 8
              have z5 := xor8 (xs.getD i 0) j hjl
              have hfe : flpB xs f.bit = xs.set i (xs.getD i 0 ^^^ (128 >>> UInt8.ofNat j)) := by unfold flpB; rw [hfl, hm, hi, hj]
              have z6 : ¬ ((8 * b.length : Nat) : Int) = 0 := by omega
              (have zx1 := @hkd; have zx2 := @hw1; have zx3 := @hf; have zx4 := @cd; have zx5 := @b0; have zx6 := @hfl; have zx7 := @z1; have zx8 := @z2; have zx9 := @z3; have zx10 := @z4; have zx11 := @z5; all_goals (try ((first | (with_reducible refine wp_id ?_) | (with_reducible refine does_id ?_) | (with_reducible refine ops_id ?_)); refine walk ?_; (repeat' (first | exact trivial | with_reducible refine And.intro ?_ ?_)); all_goals (repeat (first | (with_reducible refine ImpB.mk fun hb => ?_) | (with_reducible refine ImpK.mk fun hK => ?_) | (with_reducible refine ImpF.mk fun hF => ?_) | (with_reducible refine ImpQ.mk fun hp => ?_) | (with_reducible refine AllE.mk fun p => ?_) | (with_reducible refine AllR.mk fun rest => ?_) | (with_reducible refine AllK.mk fun K => ?_))))); repeat' (with_reducible refine And.intro ?_ ?_))
              all_goals first | exact Int.natCast_nonneg _ | omega | exact absurd hb (by omega) | exact absurd hb (by decide) | exact u8_ltI _ | skip
              refine ⟨k + 1, ⟨by first | omega | (dsimp only; omega), by first | omega | (dsimp only; omega)⟩, ?_⟩
              dsimp only
              rw [hnx, hfe]
              (focus (refine ⟨_, _, Gh.refl, [0, 1, 2], rfl, ?_⟩; (refine ⟨?_, ?_, ?_⟩ <;> simp only [go_sem, List.range, List.range.loop, List.nodup_cons, List.nodup_nil, List.mem_cons, List.not_mem_nil, or_false, or_self, decide_true, decide_false, Int.reduceToNat, Nat.min_eq_left, Nat.min_eq_right, Int.reducePow, Nat.reducePow, Int.reduceLE, Int.reduceLT, Int.reduceMul, Int.reduceAdd, Int.reduceSub, Int.reduceNeg, Bool.not_true, Bool.not_false, Bool.not_not, ↓reduceIte, Nat.reduceAdd, Nat.reduceSub, Nat.reduceMul, Nat.reduceEqDiff, reduceCtorEq, Nat.reduceLT, Nat.reduceLeDiff, Nat.reduceGT]); (try any_goals (refine ⟨?_, ?_⟩)); (try any_goals (with_reducible rfl))))
              all_goals first | exact rfl | (rw [UInt8.ofNat_toNat]) | trace_state
          · have cd : decide (f.idx = sent) = false := decide_eq_false c
            rw [if_neg c] at hnx
            (have zx1 := @hkd; have zx2 := @hw1; have zx3 := @hf; have zx4 := @cd; all_goals (try ((first | (with_reducible refine wp_id ?_) | (with_reducible refine does_id ?_) | (with_reducible refine ops_id ?_)); refine walk ?_; (repeat' (first | exact trivial | with_reducible refine And.intro ?_ ?_)); all_goals (repeat (first | (with_reducible refine ImpB.mk fun hb => ?_) | (with_reducible refine ImpK.mk fun hK => ?_) | (with_reducible refine ImpF.mk fun hF => ?_) | (with_reducible refine ImpQ.mk fun hp => ?_) | (with_reducible refine AllE.mk fun p => ?_) | (with_reducible refine AllR.mk fun rest => ?_) | (with_reducible refine AllK.mk fun K => ?_))))); repeat' (with_reducible refine And.intro ?_ ?_))
            all_goals first | exact Int.natCast_nonneg _ | omega | skip
            refine ⟨k + 1, ⟨by first | omega | (dsimp only; omega), by first | omega | (dsimp only; omega)⟩, ?_⟩
            dsimp only
            rw [hnx]
            (focus (refine ⟨_, _, Gh.refl, [0, 1, 2], rfl, ?_⟩; (refine ⟨?_, ?_, ?_⟩ <;> simp only [go_sem, List.range, List.range.loop, List.nodup_cons, List.nodup_nil, List.mem_cons, List.not_mem_nil, or_false, or_self, decide_true, decide_false, Int.reduceToNat, Nat.min_eq_left, Nat.min_eq_right, Int.reducePow, Nat.reducePow, Int.reduceLE, Int.reduceLT, Int.reduceMul, Int.reduceAdd, Int.reduceSub, Int.reduceNeg, Bool.not_true, Bool.not_false, Bool.not_not, ↓reduceIte, Nat.reduceAdd, Nat.reduceSub, Nat.reduceMul, Nat.reduceEqDiff, reduceCtorEq, Nat.reduceLT, Nat.reduceLeDiff, Nat.reduceGT]); (try any_goals (refine ⟨?_, ?_⟩)); (try any_goals (with_reducible rfl))))
            all_goals first | exact rfl | trace_state
        · have hkd : decide ((k : Int) < (flips.length : Int)) = false := decide_eq_false (by omega)
          obtain rfl : k = flips.length := by omega
          have htk : flips.take flips.length = flips := List.take_of_length_le (Nat.le_refl _)
          rw [htk] at hxs
          have w2 : IntKind.i64.wrap (N + dl) = N + dl := wrap_i64 _ (by omega) (by omega)
          have hme := mset_end (e := .arr) (k := sent) (v := ⟨N + dl, xs⟩) (A := P) fun p hp => by have := (key p hp).2; omega
          have htb : xs.take b.length = xs := List.take_of_length_le (by omega)
          (have zx1 := @hkd; have zx2 := @w2; have zx3 := @htb; have zx4 := @hme; all_goals (try ((first | (with_reducible refine wp_id ?_) | (with_reducible refine does_id ?_) | (with_reducible refine ops_id ?_)); refine walk ?_; (repeat' (first | exact trivial | with_reducible refine And.intro ?_ ?_)); all_goals (repeat (first | (with_reducible refine ImpB.mk fun hb => ?_) | (with_reducible refine ImpK.mk fun hK => ?_) | (with_reducible refine ImpF.mk fun hF => ?_) | (with_reducible refine ImpQ.mk fun hp => ?_) | (with_reducible refine AllE.mk fun p => ?_) | (with_reducible refine AllR.mk fun rest => ?_) | (with_reducible refine AllK.mk fun K => ?_))))); repeat' (with_reducible refine And.intro ?_ ?_))
          all_goals first | omega | skip
          rw [hxs]
          (focus (refine ⟨_, _, gh_close (t := 0) (ts := [1]) (l := LKO ⟨⟨dl, out, lost, flips⟩, N, (sent + 1), (P ++ [(sent, ⟨N + dl, xs⟩)])⟩) ⟨⟨_, _, rfl⟩, ?_, by simp⟩, [0], rfl, ?_⟩; all_goals (refine ⟨?_, ?_, ?_⟩ <;> simp only [go_sem, List.range, List.range.loop, List.nodup_cons, List.nodup_nil, List.mem_cons, List.not_mem_nil, or_false, or_self, decide_true, decide_false, Int.reduceToNat, Nat.min_eq_left, Nat.min_eq_right, Int.reducePow, Nat.reducePow, Int.reduceLE, Int.reduceLT, Int.reduceMul, Int.reduceAdd, Int.reduceSub, Int.reduceNeg, Bool.not_true, Bool.not_false, Bool.not_not, ↓reduceIte, Nat.reduceAdd, Nat.reduceSub, Nat.reduceMul, Nat.reduceEqDiff, reduceCtorEq, Nat.reduceLT, Nat.reduceLeDiff, Nat.reduceGT]); (try any_goals (refine ⟨?_, ?_⟩)); (try any_goals (with_reducible rfl))))
          all_goals (repeat' (first | (refine And.intro ?_ ?_) | exact List.Perm.refl _ | rfl | trace_state))
    · rw [Bool.or_true, if_pos rfl]
      refine w_body (rs := [.tmp 6]) (tm := [.ptr 0 0, .int .i64 n, .ro .byte b, .any, .any, .any, .any, .any, .any, .any, .any, .any, .any, .any, .any, .any, .any, .any, .any, .any, .any, .any, .any, .any, .any, .any, .any, .any, .any, .any, .any, .any, .any, .any, .any, .any, .any, .any, .any, .any, .any, .any, .any, .any, .any, .any, .any, .any, .any, .any, .any, .any, .any, .any, .any, .any, .any, .any, .any, .any, .any, .any, .any, .any, .any, .any, .any, .any, .any, .any, .any, .any, .any, .any, .any, .any, .any, .any, .any, .any, .any, .any, .any, .any, .any, .any, .any, .any, .any, .any, .any, .any, .any, .any, .any, .any, .any, .any, .any, .any, .any, .any, .any]) fn_9 rfl rfl rfl rfl fun R hR => ?_
      (have zx1 := @hN; have zx2 := @h1; have zx3 := @h2; have zx4 := @w1; all_goals (try ((first | (with_reducible refine wp_id ?_) | (with_reducible refine does_id ?_) | (with_reducible refine ops_id ?_)); refine walk ?_; (repeat' (first | exact trivial | with_reducible refine And.intro ?_ ?_)); all_goals (repeat (first | (with_reducible refine ImpB.mk fun hb => ?_) | (with_reducible refine ImpK.mk fun hK => ?_) | (with_reducible refine ImpF.mk fun hF => ?_) | (with_reducible refine ImpQ.mk fun hp => ?_) | (with_reducible refine AllE.mk fun p => ?_) | (with_reducible refine AllR.mk fun rest => ?_) | (with_reducible refine AllK.mk fun K => ?_))))); repeat' (with_reducible refine And.intro ?_ ?_))
      all_goals first | omega | skip
      (focus (refine ⟨_, _, gh_close (t := 0) (ts := [1]) (l := LKO ⟨⟨dl, out, lost, flips⟩, N, (sent + 1), P⟩) ⟨⟨_, _, rfl⟩, ?_, by simp⟩, [0], rfl, ?_⟩; all_goals (refine ⟨?_, ?_, ?_⟩ <;> simp only [go_sem, List.range, List.range.loop, List.nodup_cons, List.nodup_nil, List.mem_cons, List.not_mem_nil, or_false, or_self, decide_true, decide_false, Int.reduceToNat, Nat.min_eq_left, Nat.min_eq_right, Int.reducePow, Nat.reducePow, Int.reduceLE, Int.reduceLT, Int.reduceMul, Int.reduceAdd, Int.reduceSub, Int.reduceNeg, Bool.not_true, Bool.not_false, Bool.not_not, ↓reduceIte, Nat.reduceAdd, Nat.reduceSub, Nat.reduceMul, Nat.reduceEqDiff, reduceCtorEq, Nat.reduceLT, Nat.reduceLeDiff, Nat.reduceGT]); (try any_goals (refine ⟨?_, ?_⟩)); (try any_goals (with_reducible rfl))))
      all_goals (repeat' (first | (refine And.intro ?_ ?_) | exact List.Perm.refl _ | rfl))
  · rw [Bool.true_or, if_pos rfl]
    refine w_body (rs := [.tmp 6]) (tm := [.ptr 0 0, .int .i64 n, .ro .byte b, .any, .any, .any, .any, .any, .any, .any, .any, .any, .any, .any, .any, .any, .any, .any, .any, .any, .any, .any, .any, .any, .any, .any, .any, .any, .any, .any, .any, .any, .any, .any, .any, .any, .any, .any, .any, .any, .any, .any, .any, .any, .any, .any, .any, .any, .any, .any, .any, .any, .any, .any, .any, .any, .any, .any, .any, .any, .any, .any, .any, .any, .any, .any, .any, .any, .any, .any, .any, .any, .any, .any, .any, .any, .any, .any, .any, .any, .any, .any, .any, .any, .any, .any, .any, .any, .any, .any, .any, .any, .any, .any, .any, .any, .any, .any, .any, .any, .any, .any, .any]) fn_9 rfl rfl rfl rfl fun R hR => ?_
    (have zx1 := @hN; have zx2 := @h1; have zx3 := @w1; all_goals (try ((first | (with_reducible refine wp_id ?_) | (with_reducible refine does_id ?_) | (with_reducible refine ops_id ?_)); refine walk ?_; (repeat' (first | exact trivial | with_reducible refine And.intro ?_ ?_)); all_goals (repeat (first | (with_reducible refine ImpB.mk fun hb => ?_) | (with_reducible refine ImpK.mk fun hK => ?_) | (with_reducible refine ImpF.mk fun hF => ?_) | (with_reducible refine ImpQ.mk fun hp => ?_) | (with_reducible refine AllE.mk fun p => ?_) | (with_reducible refine AllR.mk fun rest => ?_) | (with_reducible refine AllK.mk fun K => ?_))))); repeat' (with_reducible refine And.intro ?_ ?_))
    all_goals first | omega | skip
    (focus (refine ⟨_, _, gh_close (t := 0) (ts := [1]) (l := LKO ⟨⟨dl, out, lost, flips⟩, N, (sent + 1), P⟩) ⟨⟨_, _, rfl⟩, ?_, by simp⟩, [0], rfl, ?_⟩; all_goals (refine ⟨?_, ?_, ?_⟩ <;> simp only [go_sem, List.range, List.range.loop, List.nodup_cons, List.nodup_nil, List.mem_cons, List.not_mem_nil, or_false, or_self, decide_true, decide_false, Int.reduceToNat, Nat.min_eq_left, Nat.min_eq_right, Int.reducePow, Nat.reducePow, Int.reduceLE, Int.reduceLT, Int.reduceMul, Int.reduceAdd, Int.reduceSub, Int.reduceNeg, Bool.not_true, Bool.not_false, Bool.not_not, ↓reduceIte, Nat.reduceAdd, Nat.reduceSub, Nat.reduceMul, Nat.reduceEqDiff, reduceCtorEq, Nat.reduceLT, Nat.reduceLeDiff, Nat.reduceGT]); (try any_goals (refine ⟨?_, ?_⟩)); (try any_goals (with_reducible rfl))))
    all_goals (repeat' (first | (refine And.intro ?_ ?_) | exact List.Perm.refl _ | rfl))
theorem k_send {h : List Ch} {K : KT} {u : Nat} {s : Lk} {n : Int} {b : List UInt8} {a : AV} (H : K (.int .i64 0) (h.set u (.pack (LKO (sendK s n b))))) (o : hth h u = .pack (LKO s)) (q1 : isRO .byte b a) (s1 : okL s) (s2 : b.length ≤ 1000000) (s3 : s.sent ≤ 1000000) : Does Try.prog 9 [.ptr u 0, .int .i64 n, a] h K :=
  frame_obj0 (b_send1 s.c.dl s.now s.sent s.c.out s.c.lost s.c.flips s.P n b s1 s2 s3) o (by simp) (fitC_pack _) (br_cons (br_ptr rfl) (br_cons br_int (br_cons q1.br br_nil))) (.inl (by rw [brTL, brTL, brTL, q1.brT]; rfl)) (fun _ => rfl) rfl H
end Go.V

set_option maxRecDepth 100000
set_option maxHeartbeats 8000000
namespace Go.V
open Go.Proofs
/-- behind k numbers: what is still on its way, and what has arrived -/
def mpK (N : Int) (P : List (Int × Arr)) (k : Nat) : List (Int × Arr) := (P.take k).filter (fun p => !due N p) ++ P.drop k
def otK (N : Int) (P : List (Int × Arr)) (k : Nat) : List (List UInt8) := ((P.take k).filter fun p => due N p).map fun p => p.2.data
def Arr0 : Int × Arr := (0, Arr.zero)
theorem mp_ne {P : List (Int × Arr)} {N : Int} {k : Nat} (asc : P.Pairwise fun a b => a.1 < b.1) (hk : k < P.length) : ∀ q ∈ (P.take k).filter (fun p => !due N p), q.1 ≠ (P.getD k Arr0).1 := fun q hq => by
  have hq' := (List.mem_filter.1 hq).1
  rw [← List.take_append_drop k P] at asc
  have := (List.pairwise_append.1 asc).2.2 q hq' (P.getD k Arr0) (by rw [List.drop_eq_getElem_cons hk, getEq hk]; exact List.mem_cons_self)
  omega
theorem mp_cut {P : List (Int × Arr)} {N : Int} {k : Nat} (hk : k < P.length) : mpK N P k = (P.take k).filter (fun p => !due N p) ++ ((P.getD k Arr0).1, (P.getD k Arr0).2) :: P.drop (k + 1) := by
  unfold mpK
  rw [List.drop_eq_getElem_cons hk, getEq hk]
theorem mp_get {P : List (Int × Arr)} {N : Int} {k : Nat} (asc : P.Pairwise fun a b => a.1 < b.1) (hk : k < P.length) : mget (k := .int) (e := .arr) (mpK N P k) (P.getD k Arr0).1 = some (P.getD k Arr0).2 := by
  rw [mp_cut hk]; exact mget_mid (e := .arr) (mp_ne asc hk)
theorem mp_next {P : List (Int × Arr)} {N : Int} {k : Nat} (asc : P.Pairwise fun a b => a.1 < b.1) (hk : k < P.length) : mpK N P (k + 1) = if due N (P.getD k Arr0) then mdel (k := .int) (e := .arr) (mpK N P k) (P.getD k Arr0).1 else mpK N P k := by
  split
  · rename_i c
    rw [mp_cut hk, mdel_mid (e := .arr) (mp_ne asc hk)]
    unfold mpK
    rw [getT (z := Arr0) hk, List.filter_append, List.filter_cons, if_neg (by rw [c]; decide), List.filter_nil, List.append_nil]
  · rename_i c
    rw [mp_cut hk]
    unfold mpK
    rw [getT (z := Arr0) hk, List.filter_append, List.filter_cons, if_pos (by simpa using c), List.filter_nil, List.append_assoc]
    rfl
theorem ot_next {P : List (Int × Arr)} {N : Int} {k : Nat} (hk : k < P.length) : otK N P (k + 1) = if due N (P.getD k Arr0) then otK N P k ++ [(P.getD k Arr0).2.data] else otK N P k := by
  unfold otK
  rw [getT (z := Arr0) hk, List.filter_append, List.filter_cons, List.filter_nil]
  split
  · rw [List.map_append]; rfl
  · rw [List.append_nil]
theorem ot_le {P : List (Int × Arr)} {N : Int} {k : Nat} : (otK N P k).length ≤ k := by
  unfold otK
  have := List.length_filter_le (fun p => due N p) (P.take k)
  rw [List.length_map]
  rw [List.length_take] at this
  omega
theorem keysGet {P : List (Int × Arr)} {k : Nat} (hk : k < P.length) : (P.map fun p => p.1).getD k 0 = (P.getD k Arr0).1 := by
  rw [getEq (by rw [List.length_map]; exact hk), List.getElem_map, getEq hk]
theorem b_recv (dl now sent : Int) (out : List Rng) (lost : List Int) (flips : List Flp) (P : List (Int × Arr)) (n : Int) (hs : okL ⟨⟨dl, out, lost, flips⟩, now, sent, P⟩) (hse : sent ≤ 1000000) : DoesK Try.prog 1 10 [.ptr 0 0, .int .i64 n] [.pack (LKO ⟨⟨dl, out, lost, flips⟩, now, sent, P⟩)] (EndF 1 (.ro .bytes (outK ⟨⟨dl, out, lost, flips⟩, now, sent, P⟩ n)) ([.pack (LKO (recvK ⟨⟨dl, out, lost, flips⟩, now, sent, P⟩ n))] ++ [])) := by
  refine DoesK.close ?_
  obtain ⟨lo, hdl, fl, nw, se, len, asc, key, tm, ord, ln⟩ := hs
  (try dsimp only at lo hdl fl nw se len asc key tm ord ln)
  unfold recvK outK
  dsimp only
  obtain ⟨N, hN⟩ : ∃ N, atL now n = N := ⟨_, rfl⟩
  have hNb := atL_bd (n := n) nw
  rw [hN] at hNb ⊢
  have hki : ∀ p ∈ P, IntKind.i64.has p.1 := fun p hp => by
    have := key p hp
    show -9223372036854775808 ≤ p.1 ∧ p.1 ≤ 9223372036854775807
    omega
  have hsz : sortZ (P.map fun p => p.1) = P.map fun p => p.1 := sortZ_asc (List.Pairwise.map _ (fun a b h => h) asc)
  refine w_body (rs := [.tmp 4]) (tm := [.ptr 0 0, .int .i64 n, .any, .any, .any, .any, .any, .any, .any, .any, .any, .any, .any, .any, .any, .any, .any, .any, .any, .any, .any, .any, .any, .any, .any, .any, .any, .any, .any, .any, .any, .any, .any, .any, .any, .any, .any, .any, .any, .any, .any, .any, .any, .any, .any, .any, .any, .any, .any, .any, .any]) fn_10 rfl rfl rfl rfl fun R hR => ?_
  (have zx1 := @hN; have zx2 := @hsz; all_goals (try ((first | (with_reducible refine wp_id ?_) | (with_reducible refine does_id ?_) | (with_reducible refine ops_id ?_)); refine walk ?_; (repeat' (first | exact trivial | with_reducible refine And.intro ?_ ?_)); all_goals (repeat (first | (with_reducible refine ImpB.mk fun hb => ?_) | (with_reducible refine ImpK.mk fun hK => ?_) | (with_reducible refine ImpF.mk fun hF => ?_) | (with_reducible refine ImpQ.mk fun hp => ?_) | (with_reducible refine AllE.mk fun p => ?_) | (with_reducible refine AllR.mk fun rest => ?_) | (with_reducible refine AllK.mk fun K => ?_))))); repeat' (with_reducible refine And.intro ?_ ?_))
  all_goals first | exact hki | omega | skip
  refine Wp.ghost (gh_adopt (s := 5) .bytes trivial) ?_
  simp only [go_sem, decide_true, decide_false, Int.reduceToNat, Nat.min_eq_left, Nat.min_eq_right, Int.reducePow, Nat.reducePow, Int.reduceLE, Int.reduceLT, Int.reduceMul, Int.reduceAdd, Int.reduceSub, Int.reduceNeg, Bool.not_true, Bool.not_false, Bool.not_not, ↓reduceIte, Nat.reduceAdd, Nat.reduceSub, Nat.reduceMul, Nat.reduceEqDiff, reduceCtorEq, Nat.reduceLT, Nat.reduceLeDiff, Nat.reduceGT]
  obtain ⟨ks, hks⟩ : ∃ ks, (P.map fun p => p.1) = ks := ⟨_, rfl⟩
  have hkl : ks.length = P.length := by rw [← hks, List.length_map]
  have hkg : ∀ k, k < P.length → ks.getD k 0 = (P.getD k Arr0).1 := fun k hk => by rw [← hks]; exact keysGet hk
  rw [hks]
  obtain ⟨M, hM⟩ : ∃ M, mpK N P = M := ⟨_, rfl⟩
  obtain ⟨O, hO⟩ : ∃ O, otK N P = O := ⟨_, rfl⟩
  have hM0 : M 0 = P := by rw [← hM]; rfl
  have hO0 : O 0 = [] := by rw [← hO]; rfl
  have hMg : ∀ k, k < P.length → mget (k := .int) (e := .arr) (M k) (P.getD k Arr0).1 = some (P.getD k Arr0).2 := fun k hk => by rw [← hM]; exact mp_get asc hk
  have hMn : ∀ k, k < P.length → M (k + 1) = if due N (P.getD k Arr0) then mdel (k := .int) (e := .arr) (M k) (P.getD k Arr0).1 else M k := fun k hk => by rw [← hM]; exact mp_next asc hk
  have hOn : ∀ k, k < P.length → O (k + 1) = if due N (P.getD k Arr0) then O k ++ [(P.getD k Arr0).2.data] else O k := fun k hk => by rw [← hO]; exact ot_next hk
  have hOl : ∀ k, (O k).length ≤ k := fun k => by rw [← hO]; exact ot_le
  have hMe : M P.length = P.filter fun p => !due N p := by rw [← hM]; unfold mpK; rw [List.take_of_length_le (Nat.le_refl _), List.drop_eq_nil_of_le (Nat.le_refl _), List.append_nil]
  have hOe : O P.length = (P.filter fun p => due N p).map fun p => p.2.data := by rw [← hO]; unfold otK; rw [List.take_of_length_le (Nat.le_refl _)]
  any_goals ((try (refine w_seq fun K hK => ?_)); (try (refine w_block ?_)); refine w_loop (A := Nat) (fun k => k ≤ P.length) (fun k => P.length - k) (fun k => [(5, .sl 4 .bytes 0 (O k).length), (20, .sl 3 .int 0 P.length), (21, .int .i64 P.length), (22, .int .i64 k)]) (fun k => [(1, .map .int .arr (M k)), (4, .rows .bytes (O k))]) (0) (ws := ?ws1) (tk := ?tk1) ?hw1 ?ht1 ?hi ?h0 ?LH1; (case hw1 => simp only [go_sem, decide_true, decide_false, Int.reduceToNat, Nat.min_eq_left, Nat.min_eq_right, Int.reducePow, Nat.reducePow, Int.reduceLE, Int.reduceLT, Int.reduceMul, Int.reduceAdd, Int.reduceSub, Int.reduceNeg, Bool.not_true, Bool.not_false, Bool.not_not, ↓reduceIte, Nat.reduceAdd, Nat.reduceSub, Nat.reduceMul, Nat.reduceEqDiff, reduceCtorEq, Nat.reduceLT, Nat.reduceLeDiff, Nat.reduceGT]; exact rfl); (case ht1 => simp only [go_sem, decide_true, decide_false, Int.reduceToNat, Nat.min_eq_left, Nat.min_eq_right, Int.reducePow, Nat.reducePow, Int.reduceLE, Int.reduceLT, Int.reduceMul, Int.reduceAdd, Int.reduceSub, Int.reduceNeg, Bool.not_true, Bool.not_false, Bool.not_not, ↓reduceIte, Nat.reduceAdd, Nat.reduceSub, Nat.reduceMul, Nat.reduceEqDiff, reduceCtorEq, Nat.reduceLT, Nat.reduceLeDiff, Nat.reduceGT]; exact rfl); (case' LH1 => rintro k E t hx hE ht; simp only [go_sem] at ht; subst ht; simp only [go_sem]; try dsimp only at hx))
  case hi => exact Nat.zero_le _
  case h0 => (focus (refine ⟨_, _, Gh.refl, [0, 1, 2, 3, 4], rfl, ?_⟩; (refine ⟨?_, ?_, ?_⟩ <;> simp only [go_sem, List.range, List.range.loop, List.nodup_cons, List.nodup_nil, List.mem_cons, List.not_mem_nil, or_false, or_self, decide_true, decide_false, Int.reduceToNat, Nat.min_eq_left, Nat.min_eq_right, Int.reducePow, Nat.reducePow, Int.reduceLE, Int.reduceLT, Int.reduceMul, Int.reduceAdd, Int.reduceSub, Int.reduceNeg, Bool.not_true, Bool.not_false, Bool.not_not, ↓reduceIte, Nat.reduceAdd, Nat.reduceSub, Nat.reduceMul, Nat.reduceEqDiff, reduceCtorEq, Nat.reduceLT, Nat.reduceLeDiff, Nat.reduceGT]); (try any_goals (refine ⟨?_, ?_⟩)); (try any_goals (with_reducible rfl)))); (all_goals first | (rw [hO0]; done) | (rw [hO0]; rfl) | (rw [hM0]) | trace_state)
  case LH1 =>
    have hk0 : k ≤ P.length := hx
    have hw1 : IntKind.i64.wrap ((k : Int) + 1) = ((k + 1 : Nat) : Int) := by rw [wrap_i64 _ (by omega) (by omega)]; omega
    by_cases hk : k < P.length
    · have hkd : decide ((k : Int) < (P.length : Int)) = true := decide_eq_true (by omega)
      obtain ⟨⟨key1, ⟨t1, d1⟩⟩, hp⟩ : ∃ p, P.getD k Arr0 = p := ⟨_, rfl⟩
      have g1 := hkg k hk
      have g2 := hMg k hk
      have g3 := hMn k hk
      have g4 := hOn k hk
      rw [hp] at g1 g2 g3 g4
      dsimp only at g1 g2 g3 g4
      obtain ⟨m, hm⟩ : ∃ m, M k = m := ⟨_, rfl⟩
      obtain ⟨ot, hot⟩ : ∃ ot, O k = ot := ⟨_, rfl⟩
      rw [hm] at g2 g3 ⊢
      rw [hot] at g4 ⊢
      have otl := hOl k
      rw [hot] at otl
      by_cases c : t1 ≤ N
      · have cd : decide (t1 ≤ N) = true := decide_eq_true c
        have cd' : due N (key1, ⟨t1, d1⟩) = true := cd
        rw [cd', if_pos rfl] at g3 g4
        (have zx1 := @hkd; have zx2 := @hw1; have zx3 := @g1; have zx4 := @g2; have zx5 := @cd; all_goals (try ((first | (with_reducible refine wp_id ?_) | (with_reducible refine does_id ?_) | (with_reducible refine ops_id ?_)); refine walk ?_; (repeat' (first | exact trivial | with_reducible refine And.intro ?_ ?_)); all_goals (repeat (first | (with_reducible refine ImpB.mk fun hb => ?_) | (with_reducible refine ImpK.mk fun hK => ?_) | (with_reducible refine ImpF.mk fun hF => ?_) | (with_reducible refine ImpQ.mk fun hp => ?_) | (with_reducible refine AllE.mk fun p => ?_) | (with_reducible refine AllR.mk fun rest => ?_) | (with_reducible refine AllK.mk fun K => ?_))))); repeat' (with_reducible refine And.intro ?_ ?_))
        all_goals first | exact Int.natCast_nonneg _ | omega | skip
        refine ⟨k + 1, ⟨by first | omega | (dsimp only; omega), by first | omega | (dsimp only; omega)⟩, ?_⟩
        dsimp only
        rw [g3, g4]
        (focus (refine ⟨_, _, Gh.refl, [0, 1, 2, 3, 7], rfl, ?_⟩; (refine ⟨?_, ?_, ?_⟩ <;> simp only [go_sem, List.range, List.range.loop, List.nodup_cons, List.nodup_nil, List.mem_cons, List.not_mem_nil, or_false, or_self, decide_true, decide_false, Int.reduceToNat, Nat.min_eq_left, Nat.min_eq_right, Int.reducePow, Nat.reducePow, Int.reduceLE, Int.reduceLT, Int.reduceMul, Int.reduceAdd, Int.reduceSub, Int.reduceNeg, Bool.not_true, Bool.not_false, Bool.not_not, ↓reduceIte, Nat.reduceAdd, Nat.reduceSub, Nat.reduceMul, Nat.reduceEqDiff, reduceCtorEq, Nat.reduceLT, Nat.reduceLeDiff, Nat.reduceGT]); (try any_goals (refine ⟨?_, ?_⟩)); (try any_goals (with_reducible rfl))))
        all_goals first | exact rfl | exact List.Perm.refl _ | (simp only [List.length_append, List.length_cons, List.length_nil]; done) | trace_state
      · have cd : decide (t1 ≤ N) = false := decide_eq_false c
        have cd' : due N (key1, ⟨t1, d1⟩) = false := cd
        rw [cd', if_neg (by decide)] at g3 g4
        (have zx1 := @hkd; have zx2 := @hw1; have zx3 := @g1; have zx4 := @g2; have zx5 := @cd; all_goals (try ((first | (with_reducible refine wp_id ?_) | (with_reducible refine does_id ?_) | (with_reducible refine ops_id ?_)); refine walk ?_; (repeat' (first | exact trivial | with_reducible refine And.intro ?_ ?_)); all_goals (repeat (first | (with_reducible refine ImpB.mk fun hb => ?_) | (with_reducible refine ImpK.mk fun hK => ?_) | (with_reducible refine ImpF.mk fun hF => ?_) | (with_reducible refine ImpQ.mk fun hp => ?_) | (with_reducible refine AllE.mk fun p => ?_) | (with_reducible refine AllR.mk fun rest => ?_) | (with_reducible refine AllK.mk fun K => ?_))))); repeat' (with_reducible refine And.intro ?_ ?_))
        all_goals first | exact Int.natCast_nonneg _ | omega | skip
        refine ⟨k + 1, ⟨by first | omega | (dsimp only; omega), by first | omega | (dsimp only; omega)⟩, ?_⟩
        dsimp only
        rw [g3, g4]
        (focus (refine ⟨_, _, Gh.refl, [0, 1, 2, 3, 4], rfl, ?_⟩; (refine ⟨?_, ?_, ?_⟩ <;> simp only [go_sem, List.range, List.range.loop, List.nodup_cons, List.nodup_nil, List.mem_cons, List.not_mem_nil, or_false, or_self, decide_true, decide_false, Int.reduceToNat, Nat.min_eq_left, Nat.min_eq_right, Int.reducePow, Nat.reducePow, Int.reduceLE, Int.reduceLT, Int.reduceMul, Int.reduceAdd, Int.reduceSub, Int.reduceNeg, Bool.not_true, Bool.not_false, Bool.not_not, ↓reduceIte, Nat.reduceAdd, Nat.reduceSub, Nat.reduceMul, Nat.reduceEqDiff, reduceCtorEq, Nat.reduceLT, Nat.reduceLeDiff, Nat.reduceGT]); (try any_goals (refine ⟨?_, ?_⟩)); (try any_goals (with_reducible rfl))))
        all_goals first | exact rfl | exact List.Perm.refl _ | trace_state
    · have hkd : decide ((k : Int) < (P.length : Int)) = false := decide_eq_false (by omega)
      obtain rfl : k = P.length := by omega
      (have zx1 := @hkd; all_goals (try ((first | (with_reducible refine wp_id ?_) | (with_reducible refine does_id ?_) | (with_reducible refine ops_id ?_)); refine walk ?_; (repeat' (first | exact trivial | with_reducible refine And.intro ?_ ?_)); all_goals (repeat (first | (with_reducible refine ImpB.mk fun hb => ?_) | (with_reducible refine ImpK.mk fun hK => ?_) | (with_reducible refine ImpF.mk fun hF => ?_) | (with_reducible refine ImpQ.mk fun hp => ?_) | (with_reducible refine AllE.mk fun p => ?_) | (with_reducible refine AllR.mk fun rest => ?_) | (with_reducible refine AllK.mk fun K => ?_))))); repeat' (with_reducible refine And.intro ?_ ?_))
      rw [← hMe, ← hOe]
      refine ⟨_, _, (gh_frz (t := 4) (e := .bytes) (xs := O P.length) rfl ?f1 ?f2).trans (gh_close (t := 0) (ts := [1]) (l := LKO ⟨⟨dl, out, lost, flips⟩, N, sent, (M P.length)⟩) ⟨⟨_, _, rfl⟩, ?fc, by simp⟩), [0], rfl, ?ft⟩
      case' ft => (refine ⟨?_, ?_, ?_⟩ <;> simp only [go_sem, List.range, List.range.loop, List.nodup_cons, List.nodup_nil, List.mem_cons, List.not_mem_nil, or_false, or_self, decide_true, decide_false, Int.reduceToNat, Nat.min_eq_left, Nat.min_eq_right, Int.reducePow, Nat.reducePow, Int.reduceLE, Int.reduceLT, Int.reduceMul, Int.reduceAdd, Int.reduceSub, Int.reduceNeg, Bool.not_true, Bool.not_false, Bool.not_not, ↓reduceIte, Nat.reduceAdd, Nat.reduceSub, Nat.reduceMul, Nat.reduceEqDiff, reduceCtorEq, Nat.reduceLT, Nat.reduceLeDiff, Nat.reduceGT])
      case' fc => simp only [go_sem, decide_true, decide_false, Int.reduceToNat, Nat.min_eq_left, Nat.min_eq_right, Int.reducePow, Nat.reducePow, Int.reduceLE, Int.reduceLT, Int.reduceMul, Int.reduceAdd, Int.reduceSub, Int.reduceNeg, Bool.not_true, Bool.not_false, Bool.not_not, ↓reduceIte, Nat.reduceAdd, Nat.reduceSub, Nat.reduceMul, Nat.reduceEqDiff, reduceCtorEq, Nat.reduceLT, Nat.reduceLeDiff, Nat.reduceGT]
      case' f1 => simp only [go_sem, decide_true, decide_false, Int.reduceToNat, Nat.min_eq_left, Nat.min_eq_right, Int.reducePow, Nat.reducePow, Int.reduceLE, Int.reduceLT, Int.reduceMul, Int.reduceAdd, Int.reduceSub, Int.reduceNeg, Bool.not_true, Bool.not_false, Bool.not_not, ↓reduceIte, Nat.reduceAdd, Nat.reduceSub, Nat.reduceMul, Nat.reduceEqDiff, reduceCtorEq, Nat.reduceLT, Nat.reduceLeDiff, Nat.reduceGT]
      case' f2 => simp only [go_sem, decide_true, decide_false, Int.reduceToNat, Nat.min_eq_left, Nat.min_eq_right, Int.reducePow, Nat.reducePow, Int.reduceLE, Int.reduceLT, Int.reduceMul, Int.reduceAdd, Int.reduceSub, Int.reduceNeg, Bool.not_true, Bool.not_false, Bool.not_not, ↓reduceIte, Nat.reduceAdd, Nat.reduceSub, Nat.reduceMul, Nat.reduceEqDiff, reduceCtorEq, Nat.reduceLT, Nat.reduceLeDiff, Nat.reduceGT]
      all_goals first | exact Nat.le_refl _ | exact ⟨Nat.le_refl _, False.elim⟩ | (repeat' (first | (refine And.intro ?_ ?_) | exact List.Perm.refl _ | rfl)) | trace_state
theorem k_recv {h : List Ch} {K : KT} {u : Nat} {s : Lk} {n : Int} (H : K (.ro .bytes (outK s n)) (h.set u (.pack (LKO (recvK s n))))) (o : hth h u = .pack (LKO s)) (s1 : okL s) (s3 : s.sent ≤ 1000000) : Does Try.prog 10 [.ptr u 0, .int .i64 n] h K :=
  frame_obj0 (b_recv s.c.dl s.now s.sent s.c.out s.c.lost s.c.flips s.P n s1 s3) o (by simp) (fitC_pack _) (br_cons (br_ptr rfl) (br_cons br_int br_nil)) (.inl rfl) (fun _ => rfl) rfl H
end Go.V
