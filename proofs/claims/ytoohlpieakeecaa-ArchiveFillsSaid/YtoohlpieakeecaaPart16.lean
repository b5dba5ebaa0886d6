/-
  archive: what ArchiveFills keeps.
  archive: entries, Gaps, Len, Items of an archive of one application process.
  archive: Items of an archive of one application process.
  archive: the examples (alive).
  ArchiveNone: a nil archive does nothing.
-/
import Derived.Test.YtoohlpieakeecaaPart15
set_option linter.unusedVariables false
set_option linter.unusedSimpArgs false
set_option maxRecDepth 100000
set_option maxHeartbeats 8000000
namespace Go.V
open Go.Proofs
structure FS where
  ds : List Int
  hv : List Rng
  low : Int
  high : Int
def fsK (l : List Int) : Nat → FS
  | 0 => ⟨[], [], 8000, 0⟩
  | k + 1 => ⟨insD (fsK l k).ds (l.getD k 0 % 8000), insF (ofL (fsK l k).hv) ⟨l.getD k 0 % 8000, l.getD k 0 % 8000 + 1⟩, min (fsK l k).low (l.getD k 0 % 8000), max (fsK l k).high (l.getD k 0 % 8000)⟩
def fF (l : List Int) (k : Nat) : Int := if k = 0 then 0 else l.getD 0 0 % 8000
def fD (l : List Int) (k : Nat) : List Int := (fsK l k).ds
def fH (l : List Int) (k : Nat) : List Rng := (fsK l k).hv
def fLow (l : List Int) (k : Nat) : Int := (fsK l k).low
def fHigh (l : List Int) (k : Nat) : Int := (fsK l k).high
theorem fD_next (l : List Int) (k : Nat) : fD l (k + 1) = insD (fD l k) (l.getD k 0 % 8000) := rfl
theorem fH_next (l : List Int) (k : Nat) : fH l (k + 1) = insF (ofL (fH l k)) ⟨l.getD k 0 % 8000, l.getD k 0 % 8000 + 1⟩ := rfl
theorem fLow_next (l : List Int) (k : Nat) : fLow l (k + 1) = min (fLow l k) (l.getD k 0 % 8000) := rfl
theorem fHigh_next (l : List Int) (k : Nat) : fHigh l (k + 1) = max (fHigh l k) (l.getD k 0 % 8000) := rfl
structure fsOk (l : List Int) (k : Nat) : Prop where
  srt : (fD l k).Pairwise (· < ·)
  rng : ∀ x ∈ fD l k, 0 ≤ x ∧ x < 8000
  vld : Vld (fH l k)
  mem : ∀ n, memR (fH l k) n ↔ n ∈ fD l k
  bnd : ∀ x ∈ fD l k, fLow l k ≤ x ∧ x ≤ fHigh l k
  ends : 0 < k → fLow l k ∈ fD l k ∧ fHigh l k ∈ fD l k
  lens : (fD l k).length ≤ k ∧ (0 < k → 0 < (fD l k).length)
  hlen : (fH l k).length ≤ k
theorem fs_ok (l : List Int) : ∀ k, fsOk l k
  | 0 => ⟨.nil, fun x h => (by cases h), .nil, fun n => ⟨fun q => absurd q memR_nil, fun q => (by cases q)⟩, fun x h => (by cases h), fun h => absurd h (by decide), ⟨Nat.le_refl 0, fun h => absurd h (by decide)⟩, Nat.le_refl 0⟩
  | k + 1 => by
    have p := fs_ok l k
    obtain ⟨d, hd⟩ : ∃ d, l.getD k 0 % 8000 = d := ⟨_, rfl⟩
    have hd2 : 0 ≤ d ∧ d < 8000 := by omega
    have hi := insF_ok (l := ofL (fH l k)) (r := ⟨d, d + 1⟩) (of_vld _)
    have hle := insD_len d (fD l k)
    constructor
    · rw [fD_next]; exact insD_sorted p.srt
    · rw [fD_next, hd]
      intro x hx
      rcases insD_mem.1 hx with rfl | hx
      · exact hd2
      · exact p.rng x hx
    · rw [fH_next, hd]; exact hi.1
    · intro n
      rw [fH_next, fD_next, hd, hi.2 n, of_mem, p.mem, insD_mem]
      constructor
      · rintro (q | q)
        · exact .inr q
        · have q1 : d ≤ n := q.1
          have q2 : n < d + 1 := q.2
          exact .inl (by omega)
      · rintro (q | q)
        · exact .inr ⟨by show d ≤ n; omega, by show n < d + 1; omega⟩
        · exact .inl q
    · rw [fD_next, fLow_next, fHigh_next, hd]
      intro x hx
      rcases insD_mem.1 hx with rfl | hx
      · omega
      · have := p.bnd x hx; omega
    · intro _
      rw [fD_next, fLow_next, fHigh_next, hd]
      by_cases c : 0 < k
      · obtain ⟨a, b⟩ := p.ends c
        constructor
        · rw [insD_mem]
          by_cases c2 : fLow l k ≤ d
          · exact .inr (by rw [Int.min_eq_left c2]; exact a)
          · exact .inl (Int.min_eq_right (by omega))
        · rw [insD_mem]
          by_cases c2 : d ≤ fHigh l k
          · exact .inr (by rw [Int.max_eq_left c2]; exact b)
          · exact .inl (Int.max_eq_right (by omega))
      · obtain rfl : k = 0 := by omega
        have e1 : fLow l 0 = 8000 := rfl
        have e2 : fHigh l 0 = 0 := rfl
        rw [e1, e2, Int.min_eq_right (by omega), Int.max_eq_right (by omega)]
        exact ⟨insD_mem.2 (.inl rfl), insD_mem.2 (.inl rfl)⟩
    · rw [fD_next, hd]
      have := p.lens.1
      omega
    · rw [fH_next, hd]
      have h1 := insF_len (ofL (fH l k)) ⟨d, d + 1⟩
      have h2 := of_len (fH l k)
      have h3 := p.hlen
      omega
/-- the archive of ArchiveFills -/
def fsh (st : Int) (l : List Int) : Int := (st + l.getD 0 0 % 8000) % 16384 - l.getD 0 0 % 8000
def fX (st : Int) (l : List Int) (k : Nat) : List Ent := (fD l k).map (mkF (fsh st l) st)
theorem fX_add {st : Int} {l : List Int} (hst : 0 ≤ st) (k : Nat) : addS 3 ((st + l.getD k 0 % 8000) % 16384) (l.getD k 0 % 8000) (fX st l k) = (fX st l (k + 1), if l.getD k 0 % 8000 ∈ fD l k then 9 else 0) := by
  have p := fs_ok l k
  exact addS_F p.srt p.rng (by omega) (fun h => by
    by_cases c : k = 0
    · rw [c]
    · have := p.lens.2 (by omega); rw [h] at this; exact absurd this (by decide)) hst
theorem fX_len (st : Int) (l : List Int) (k : Nat) : (fX st l k).length = (fD l k).length := List.length_map _
theorem fX_cnt (st : Int) (l : List Int) (k : Nat) : ∀ i, -1000000 ≤ ((fX st l k).getD i Ent.zero).count ∧ ((fX st l k).getD i Ent.zero).count ≤ 1000000 := fun i => by
  by_cases c : i < (fD l k).length
  · have h1 := eAt_map (sh := fsh st l) (st := st) c
    have h2 := (fs_ok l k).rng _ (getD_mem0 c)
    have h3 : ((fX st l k).getD i Ent.zero) = mkF (fsh st l) st ((fD l k).getD i 0) := h1
    rw [h3]
    show -1000000 ≤ fsh st l + _ ∧ fsh st l + _ ≤ 1000000
    unfold fsh
    omega
  · rw [List.getD_eq_getElem?_getD, List.getElem?_eq_none (by rw [fX_len]; omega)]
    exact ⟨by decide, by decide⟩
theorem fX_okE (st : Int) (l : List Int) (k : Nat) (hk : k ≤ 1000) : okE (fX st l k) := by
  have h := fX_cnt st l k ((fX st l k).length - 1)
  have h2 := (fs_ok l k).lens.1
  refine ⟨by rw [fX_len]; omega, ?_⟩
  show -1099511627776 ≤ ((fX st l k).getD ((fX st l k).length - 1) Ent.zero).count ∧ _
  exact ⟨by omega, by show ((fX st l k).getD ((fX st l k).length - 1) Ent.zero).count ≤ _; omega⟩
theorem fX_gap (st : Int) (l : List Int) {k : Nat} (hk : 0 < k) : gapsF (fX st l k) = (wantF (fLow l k) (fHigh l k) (fH l k)).map (shR (fsh st l)) := by
  have p := fs_ok l k
  have q := p.ends hk
  exact gaps_want p.srt (List.length_pos_iff.1 (p.lens.2 hk)) p.mem p.bnd q.1 q.2
theorem fH_siz (l : List Int) (k : Nat) : sizR (ofL (fH l k)) = (fD l k).length := by
  have p := fs_ok l k
  exact siz_ds p.srt p.rng p.vld p.mem
theorem fH_has (l : List Int) (k : Nat) (d : Int) : hasB (fH l k) d = decide (d ∈ fD l k) := by
  rw [Bool.eq_iff_iff, hasB_iff, (fs_ok l k).mem]; simp
end Go.V

set_option maxRecDepth 100000
set_option maxHeartbeats 8000000
namespace Go.V
open Go.Proofs
theorem k_entE {n0 : Nat} {h : List Ch} {K : KT} {u : Nat} {p : Int} (o : hth h u = .cells [.bool true, .lit (.slice none 0 0)]) (H : K (.lit (.slice none 0 0)) h) : DoesK Try.prog n0 37 [.ptr u 0, .int .i64 p] h K := by
  refine w_body (rs := [.tmp 4]) (tm := [.ptr u 0, .int .i64 p, .any, .any, .any, .any, .any, .any, .any, .any, .any, .any, .any, .any, .any, .any, .any, .any, .any, .any, .any, .any, .any, .any, .any, .any]) fn_37 rfl rfl rfl rfl fun R hR => ?_
  (have zx1 := @o; all_goals (try ((first | (with_reducible refine wp_id ?_) | (with_reducible refine does_id ?_) | (with_reducible refine ops_id ?_)); refine walk ?_; (repeat' (first | exact trivial | with_reducible refine And.intro ?_ ?_)); all_goals (repeat (first | (with_reducible refine ImpB.mk fun hb => ?_) | (with_reducible refine ImpK.mk fun hK => ?_) | (with_reducible refine ImpF.mk fun hF => ?_) | (with_reducible refine ImpQ.mk fun hp => ?_) | (with_reducible refine AllE.mk fun p => ?_) | (with_reducible refine AllR.mk fun rest => ?_) | (with_reducible refine AllK.mk fun K => ?_))))); repeat' (with_reducible refine And.intro ?_ ?_))
  exact H
theorem c_entE {h : List Ch} {K : KT} {u : Nat} {p : Int} (H : K (.lit (.slice none 0 0)) h) (o : hth h u = .cells [.bool true, .lit (.slice none 0 0)]) : Does Try.prog 37 [.ptr u 0, .int .i64 p] h K := Does.of_K (k_entE o H)
abbrev i_entE := Ctr.mk (i := 0) (g := 37) @c_entE
attribute [instance] i_entE
theorem k_entO {n0 : Nat} {h : List Ch} {K : KT} {u v g m : Nat} {p : Int} (o : hth h u = .cells [.bool true, .csl v 1 2]) (o1 : hth h v = .crow [.int .i64 p, .sl g .ent 0 m]) (H : K (.sl g .ent 0 m) h) : DoesK Try.prog n0 37 [.ptr u 0, .int .i64 p] h K := by
  refine w_body (rs := [.tmp 4]) (tm := [.ptr u 0, .int .i64 p, .any, .any, .any, .any, .any, .any, .any, .any, .any, .any, .any, .any, .any, .any, .any, .any, .any, .any, .any, .any, .any, .any, .any, .any]) fn_37 rfl rfl rfl rfl fun R hR => ?_
  (have zx1 := @o; have zx2 := @o1; all_goals (try ((first | (with_reducible refine wp_id ?_) | (with_reducible refine does_id ?_) | (with_reducible refine ops_id ?_)); refine walk ?_; (repeat' (first | exact trivial | with_reducible refine And.intro ?_ ?_)); all_goals (repeat (first | (with_reducible refine ImpB.mk fun hb => ?_) | (with_reducible refine ImpK.mk fun hK => ?_) | (with_reducible refine ImpF.mk fun hF => ?_) | (with_reducible refine ImpQ.mk fun hp => ?_) | (with_reducible refine AllE.mk fun p => ?_) | (with_reducible refine AllR.mk fun rest => ?_) | (with_reducible refine AllK.mk fun K => ?_))))); repeat' (with_reducible refine And.intro ?_ ?_))
  all_goals first | exact H | skip
theorem c_entO {h : List Ch} {K : KT} {u v g m : Nat} {p : Int} (H : K (.sl g .ent 0 m) h) (o : hth h u = .cells [.bool true, .csl v 1 2]) (o1 : hth h v = .crow [.int .i64 p, .sl g .ent 0 m]) : Does Try.prog 37 [.ptr u 0, .int .i64 p] h K := Does.of_K (k_entO o o1 H)
abbrev i_entO := Ctr.mk (i := 1) (g := 37) @c_entO
attribute [instance] i_entO
def gapK (xs : List Ent) (k : Nat) : List Rng := (xs.take k).foldl (fun out x => remF (ofL out) ⟨x.count, x.count + 1⟩) (insF (ofL []) ⟨(eAt xs 0).count, (eAt xs (xs.length - 1)).count + 1⟩)
theorem gapK_next {xs : List Ent} {k : Nat} (h : k < xs.length) : gapK xs (k + 1) = remF (ofL (gapK xs k)) ⟨(xs.getD k Ent.zero).count, (xs.getD k Ent.zero).count + 1⟩ := by
  unfold gapK
  rw [List.take_succ_eq_append_getElem h, List.foldl_append]
  rw [List.getD_eq_getElem?_getD, List.getElem?_eq_getElem h]
  rfl
theorem gapK_len (xs : List Ent) : ∀ k, k ≤ xs.length → (gapK xs k).length ≤ k + 1
  | 0, _ => by
    have := insF_len (ofL []) ⟨(eAt xs 0).count, (eAt xs (xs.length - 1)).count + 1⟩
    exact this
  | k + 1, h => by
    rw [gapK_next (by omega)]
    have h1 := remF_len (r := ⟨(xs.getD k Ent.zero).count, (xs.getD k Ent.zero).count + 1⟩) (of_vld (gapK xs k))
    have h2 := of_len (gapK xs k)
    have h3 := gapK_len xs k (by omega)
    omega
theorem gapK_all {xs : List Ent} (h : 0 < xs.length) : gapK xs xs.length = gapsF xs := by
  unfold gapK gapsF
  rw [if_neg (by omega), List.take_length]
/-- counts of a list that may be added to -/
structure okC (xs : List Ent) : Prop where
  len : xs.length ≤ 900000
  cnt : ∀ k, -4611686018427387904 ≤ (xs.getD k Ent.zero).count ∧ (xs.getD k Ent.zero).count ≤ 4611686018427387904
theorem b_gapO (p : Int) (xs : List Ent) (hl : 0 < xs.length) (hc : okC xs) :
    DoesK Try.prog 1 13 [.ptr 0 0, .int .i64 p] [.pack (AO p xs)] (EndF 1 (.ro .rng (gapsF xs)) ([.pack (AO p xs)] ++ [])) := by
  refine DoesK.close ?_
  obtain ⟨hc1, hc2⟩ := hc
  have hw1 : IntKind.i64.wrap ((xs.length : Int) - 1) = ((xs.length - 1 : Nat) : Int) := by rw [wrap_i64 _ (by omega) (by omega)]; omega
  have hnz : decide ((xs.length : Int) = 0) = false := decide_eq_false (by omega)
  obtain ⟨g0, hg0⟩ : ∃ g0, (xs.getD 0 Ent.zero).count = g0 := ⟨_, rfl⟩
  obtain ⟨g1, hg1⟩ : ∃ g1, (xs.getD (xs.length - 1) Ent.zero).count = g1 := ⟨_, rfl⟩
  have q1 := hc2 (xs.length - 1)
  rw [hg1] at q1
  have hw2 : IntKind.i64.wrap (g1 + 1) = g1 + 1 := wrap_i64 _ (by omega) (by omega)
  have hst : insF (ofL []) ⟨g0, g1 + 1⟩ = gapK xs 0 := by rw [← hg0, ← hg1]; rfl
  refine w_body (rs := [.tmp 4]) (tm := [.ptr 0 0, .int .i64 p, .any, .any, .any, .any, .any, .any, .any, .any, .any, .any, .any, .any, .any, .any, .any, .any, .any, .any, .any, .any, .any, .any, .any, .any, .any, .any, .any, .any, .any, .any, .any, .any, .any, .any, .any, .any, .any, .any, .any, .any, .any, .any, .any]) fn_13 rfl rfl rfl rfl fun R hR => ?_
  refine w_open 0 rfl rfl ?_
  simp only [go_sem, decide_true, decide_false, Int.reduceToNat, Nat.min_eq_left, Nat.min_eq_right, Int.reducePow, Nat.reducePow, Int.reduceLE, Int.reduceLT, Int.reduceMul, Int.reduceAdd, Int.reduceSub, Int.reduceNeg, Bool.not_true, Bool.not_false, Bool.not_not, ↓reduceIte, Nat.reduceAdd, Nat.reduceSub, Nat.reduceMul, Nat.reduceEqDiff, reduceCtorEq, Nat.reduceLT, Nat.reduceLeDiff, Nat.reduceGT]
  (have zx1 := @hw1; have zx2 := @hnz; have zx3 := @hg0; have zx4 := @hg1; have zx5 := @hw2; have zx6 := @hst; all_goals (try ((first | (with_reducible refine wp_id ?_) | (with_reducible refine does_id ?_) | (with_reducible refine ops_id ?_)); refine walk ?_; (repeat' (first | exact trivial | with_reducible refine And.intro ?_ ?_)); all_goals (repeat (first | (with_reducible refine ImpB.mk fun hb => ?_) | (with_reducible refine ImpK.mk fun hK => ?_) | (with_reducible refine ImpF.mk fun hF => ?_) | (with_reducible refine ImpQ.mk fun hp => ?_) | (with_reducible refine AllE.mk fun p => ?_) | (with_reducible refine AllR.mk fun rest => ?_) | (with_reducible refine AllK.mk fun K => ?_))))); repeat' (with_reducible refine And.intro ?_ ?_))
  any_goals first | exact Int.natCast_nonneg _ | (show ((xs.length - 1 : Nat) : Int) < (xs.length : Int); omega) | (show xs.length - 1 < xs.length; omega) | exact hl | (show (0 : Int) < (xs.length : Int); omega)
  any_goals ((try (refine w_seq fun K hK => ?_)); (try (refine w_block ?_)); refine w_loop (A := Nat) (fun k => k ≤ xs.length) (fun k => xs.length - k) (fun k => [(6, .ro .rng (gapK xs k)), (31, .int .i64 k)]) (fun k => []) (0) (ws := ?ws1) (tk := ?tk1) ?hw1 ?ht1 ?hi ?h0 ?LH1; (case hw1 => simp only [go_sem, decide_true, decide_false, Int.reduceToNat, Nat.min_eq_left, Nat.min_eq_right, Int.reducePow, Nat.reducePow, Int.reduceLE, Int.reduceLT, Int.reduceMul, Int.reduceAdd, Int.reduceSub, Int.reduceNeg, Bool.not_true, Bool.not_false, Bool.not_not, ↓reduceIte, Nat.reduceAdd, Nat.reduceSub, Nat.reduceMul, Nat.reduceEqDiff, reduceCtorEq, Nat.reduceLT, Nat.reduceLeDiff, Nat.reduceGT]; exact rfl); (case ht1 => simp only [go_sem, decide_true, decide_false, Int.reduceToNat, Nat.min_eq_left, Nat.min_eq_right, Int.reducePow, Nat.reducePow, Int.reduceLE, Int.reduceLT, Int.reduceMul, Int.reduceAdd, Int.reduceSub, Int.reduceNeg, Bool.not_true, Bool.not_false, Bool.not_not, ↓reduceIte, Nat.reduceAdd, Nat.reduceSub, Nat.reduceMul, Nat.reduceEqDiff, reduceCtorEq, Nat.reduceLT, Nat.reduceLeDiff, Nat.reduceGT]; exact rfl); (case' LH1 => rintro k E t hx hE ht; simp only [go_sem] at ht; subst ht; simp only [go_sem]; try dsimp only at hx))
  case hi => exact Nat.zero_le _
  case h0 =>
    (focus (refine ⟨_, _, Gh.refl, [0, 1, 2], rfl, ?_⟩; (refine fitq ?_ ?_ ?_ <;> try exact trivial); (try any_goals (refine ⟨?_, ?_⟩)); (try any_goals (with_reducible rfl))))
    all_goals (repeat' (first | (refine And.intro ?_ ?_) | rfl))
  case LH1 =>
    have hk0 : k ≤ xs.length := hx
    have hw : IntKind.i64.wrap ((k : Int) + 1) = ((k + 1 : Nat) : Int) := by rw [wrap_i64 _ (by omega) (by omega)]; omega
    by_cases hk : k < xs.length
    · have hkd : decide ((k : Int) < (xs.length : Int)) = true := decide_eq_true (by omega)
      have q2 := hc2 k
      obtain ⟨y, hy⟩ : ∃ y, xs.getD k Ent.zero = y := ⟨_, rfl⟩
      rw [hy] at q2
      have hw3 : IntKind.i64.wrap (y.count + 1) = y.count + 1 := wrap_i64 _ (by omega) (by omega)
      have hn := gapK_next hk
      rw [hy] at hn
      have hgl : (gapK xs k).length ≤ 1000000 := Nat.le_trans (gapK_len xs k hk0) (by omega)
      (have zx1 := @hkd; have zx2 := @hw; have zx3 := @hy; have zx4 := @hw3; all_goals (try ((first | (with_reducible refine wp_id ?_) | (with_reducible refine does_id ?_) | (with_reducible refine ops_id ?_)); refine walk ?_; (repeat' (first | exact trivial | with_reducible refine And.intro ?_ ?_)); all_goals (repeat (first | (with_reducible refine ImpB.mk fun hb => ?_) | (with_reducible refine ImpK.mk fun hK => ?_) | (with_reducible refine ImpF.mk fun hF => ?_) | (with_reducible refine ImpQ.mk fun hp => ?_) | (with_reducible refine AllE.mk fun p => ?_) | (with_reducible refine AllR.mk fun rest => ?_) | (with_reducible refine AllK.mk fun K => ?_))))); repeat' (with_reducible refine And.intro ?_ ?_))
      any_goals first | exact Int.natCast_nonneg _ | (show (k : Int) < (xs.length : Int); omega) | (show k < xs.length; omega)
      refine ⟨k + 1, ⟨(by omega : k + 1 ≤ xs.length), (by first | omega | (dsimp only; omega))⟩, ?_⟩
      dsimp only
      rw [hn]
      (focus (refine ⟨_, _, Gh.refl, [0, 1, 2], rfl, ?_⟩; (refine fitq ?_ ?_ ?_ <;> try exact trivial); (try any_goals (refine ⟨?_, ?_⟩)); (try any_goals (with_reducible rfl))))
      all_goals (repeat' (first | (refine And.intro ?_ ?_) | rfl))
    · have hkd : decide ((k : Int) < (xs.length : Int)) = false := decide_eq_false (by omega)
      have hke : k = xs.length := by omega
      have hg : gapK xs k = gapsF xs := by rw [hke]; exact gapK_all hl
      rw [hg]
      (have zx1 := @hkd; all_goals (try ((first | (with_reducible refine wp_id ?_) | (with_reducible refine does_id ?_) | (with_reducible refine ops_id ?_)); refine walk ?_; (repeat' (first | exact trivial | with_reducible refine And.intro ?_ ?_)); all_goals (repeat (first | (with_reducible refine ImpB.mk fun hb => ?_) | (with_reducible refine ImpK.mk fun hK => ?_) | (with_reducible refine ImpF.mk fun hF => ?_) | (with_reducible refine ImpQ.mk fun hp => ?_) | (with_reducible refine AllE.mk fun p => ?_) | (with_reducible refine AllR.mk fun rest => ?_) | (with_reducible refine AllK.mk fun K => ?_))))); repeat' (with_reducible refine And.intro ?_ ?_))
      (focus (refine ⟨_, _, gh_close (t := 0) (ts := [1, 2]) (l := AO p xs) ⟨⟨_, _, rfl⟩, ?_, by simp⟩, [0], rfl, ?_⟩; all_goals (refine fitq ?_ ?_ ?_ <;> try exact trivial); (try any_goals (refine ⟨?_, ?_⟩)); (try any_goals (with_reducible rfl))))
      all_goals (repeat' (first | (refine And.intro ?_ ?_) | rfl))
theorem b_gapE (p : Int) : DoesK Try.prog 1 13 [.ptr 0 0, .int .i64 p] [.pack AE] (EndF 1 (.ro .rng []) ([.pack AE] ++ [])) := by
  refine DoesK.close ?_
  refine w_body (rs := [.tmp 4]) (tm := [.ptr 0 0, .int .i64 p, .any, .any, .any, .any, .any, .any, .any, .any, .any, .any, .any, .any, .any, .any, .any, .any, .any, .any, .any, .any, .any, .any, .any, .any, .any, .any, .any, .any, .any, .any, .any, .any, .any, .any, .any, .any, .any, .any, .any, .any, .any, .any, .any]) fn_13 rfl rfl rfl rfl fun R hR => ?_
  refine w_open 0 rfl rfl ?_
  simp only [go_sem, decide_true, decide_false, Int.reduceToNat, Nat.min_eq_left, Nat.min_eq_right, Int.reducePow, Nat.reducePow, Int.reduceLE, Int.reduceLT, Int.reduceMul, Int.reduceAdd, Int.reduceSub, Int.reduceNeg, Bool.not_true, Bool.not_false, Bool.not_not, ↓reduceIte, Nat.reduceAdd, Nat.reduceSub, Nat.reduceMul, Nat.reduceEqDiff, reduceCtorEq, Nat.reduceLT, Nat.reduceLeDiff, Nat.reduceGT]
  (all_goals (try ((first | (with_reducible refine wp_id ?_) | (with_reducible refine does_id ?_) | (with_reducible refine ops_id ?_)); refine walk ?_; (repeat' (first | exact trivial | with_reducible refine And.intro ?_ ?_)); all_goals (repeat (first | (with_reducible refine ImpB.mk fun hb => ?_) | (with_reducible refine ImpK.mk fun hK => ?_) | (with_reducible refine ImpF.mk fun hF => ?_) | (with_reducible refine ImpQ.mk fun hp => ?_) | (with_reducible refine AllE.mk fun p => ?_) | (with_reducible refine AllR.mk fun rest => ?_) | (with_reducible refine AllK.mk fun K => ?_))))); repeat' (with_reducible refine And.intro ?_ ?_))
  (focus (refine ⟨_, _, gh_close (t := 0) (ts := []) (l := AE) ⟨⟨_, _, rfl⟩, ?_, by simp⟩, [0], rfl, ?_⟩; all_goals (refine fitq ?_ ?_ ?_ <;> try exact trivial); (try any_goals (refine ⟨?_, ?_⟩)); (try any_goals (with_reducible rfl))))
  all_goals (repeat' (first | (refine And.intro ?_ ?_) | rfl))
theorem c_gapS {h : List Ch} {K : KT} {u : Nat} {p q : Int} {xs : List Ent} (H : K (.ro .rng (gapsF xs)) h) (o : hth h u = .pack (ASL q xs)) (e1 : okC xs) (s1 : p = q) : Does Try.prog 13 [.ptr u 0, .int .i64 p] h K := by
  subst s1
  by_cases hn : xs.length = 0
  · obtain rfl := List.eq_nil_of_length_eq_zero hn
    exact frame_obj0 (b_gapE p) o (by simp) (fitC_pack _) (br_cons (br_ptr rfl) (br_cons br_int br_nil)) (.inl rfl) (fun _ => rfl) rfl (by rw [← ASL_nil p, set_hth o (by simp)]; exact H)
  · have hp : 0 < xs.length := by omega
    have o2 := o
    rw [ASL_pos hp] at o2
    exact frame_obj0 (b_gapO p xs hp e1) o2 (by simp) (fitC_pack _) (br_cons (br_ptr rfl) (br_cons br_int br_nil)) (.inl rfl) (fun _ => rfl) rfl (by rw [set_hth o2 (by simp)]; exact H)
abbrev i_gapS := Ctr.mk (i := 0) (g := 13) @c_gapS
attribute [instance] i_gapS
theorem b_lenO (p : Int) (xs : List Ent) (hl : 0 < xs.length) (hc : xs.length ≤ 900000) :
    DoesK Try.prog 1 14 [.ptr 0 0] [.pack (AO p xs)] (EndF 1 (.int .i64 xs.length) ([.pack (AO p xs)] ++ [])) := by
  refine DoesK.close ?_
  refine w_body (rs := [.tmp 2]) (tm := [.ptr 0 0, .any, .any, .any, .any, .any, .any, .any, .any, .any, .any, .any, .any, .any, .any, .any, .any, .any, .any, .any, .any, .any, .any, .any, .any]) fn_14 rfl rfl rfl rfl fun R hR => ?_
  refine w_open 0 rfl rfl ?_
  simp only [go_sem, decide_true, decide_false, Int.reduceToNat, Nat.min_eq_left, Nat.min_eq_right, Int.reducePow, Nat.reducePow, Int.reduceLE, Int.reduceLT, Int.reduceMul, Int.reduceAdd, Int.reduceSub, Int.reduceNeg, Bool.not_true, Bool.not_false, Bool.not_not, ↓reduceIte, Nat.reduceAdd, Nat.reduceSub, Nat.reduceMul, Nat.reduceEqDiff, reduceCtorEq, Nat.reduceLT, Nat.reduceLeDiff, Nat.reduceGT]
  (all_goals (try ((first | (with_reducible refine wp_id ?_) | (with_reducible refine does_id ?_) | (with_reducible refine ops_id ?_)); refine walk ?_; (repeat' (first | exact trivial | with_reducible refine And.intro ?_ ?_)); all_goals (repeat (first | (with_reducible refine ImpB.mk fun hb => ?_) | (with_reducible refine ImpK.mk fun hK => ?_) | (with_reducible refine ImpF.mk fun hF => ?_) | (with_reducible refine ImpQ.mk fun hp => ?_) | (with_reducible refine AllE.mk fun p => ?_) | (with_reducible refine AllR.mk fun rest => ?_) | (with_reducible refine AllK.mk fun K => ?_))))); repeat' (with_reducible refine And.intro ?_ ?_))
  any_goals ((try (refine w_seq fun K hK => ?_)); (try (refine w_block ?_)); refine w_loop (A := Nat) (fun k => k ≤ 1) (fun k => 1 - k) (fun k => [(3, .int .i64 (if k = 0 then 0 else (xs.length : Int))), (14, .int .i64 k)]) (fun k => []) (0) (ws := ?ws2) (tk := ?tk2) ?hw2 ?ht2 ?hi ?h0 ?LH2; (case hw2 => simp only [go_sem, decide_true, decide_false, Int.reduceToNat, Nat.min_eq_left, Nat.min_eq_right, Int.reducePow, Nat.reducePow, Int.reduceLE, Int.reduceLT, Int.reduceMul, Int.reduceAdd, Int.reduceSub, Int.reduceNeg, Bool.not_true, Bool.not_false, Bool.not_not, ↓reduceIte, Nat.reduceAdd, Nat.reduceSub, Nat.reduceMul, Nat.reduceEqDiff, reduceCtorEq, Nat.reduceLT, Nat.reduceLeDiff, Nat.reduceGT]; exact rfl); (case ht2 => simp only [go_sem, decide_true, decide_false, Int.reduceToNat, Nat.min_eq_left, Nat.min_eq_right, Int.reducePow, Nat.reducePow, Int.reduceLE, Int.reduceLT, Int.reduceMul, Int.reduceAdd, Int.reduceSub, Int.reduceNeg, Bool.not_true, Bool.not_false, Bool.not_not, ↓reduceIte, Nat.reduceAdd, Nat.reduceSub, Nat.reduceMul, Nat.reduceEqDiff, reduceCtorEq, Nat.reduceLT, Nat.reduceLeDiff, Nat.reduceGT]; exact rfl); (case' LH2 => rintro k E t hx hE ht; simp only [go_sem] at ht; subst ht; simp only [go_sem]; try dsimp only at hx))
  case hi => exact Nat.zero_le _
  case h0 =>
    (focus (refine ⟨_, _, Gh.refl, [0, 1, 2], rfl, ?_⟩; (refine fitq ?_ ?_ ?_ <;> try exact trivial); (try any_goals (refine ⟨?_, ?_⟩)); (try any_goals (with_reducible rfl))))
    all_goals (repeat' (first | (refine And.intro ?_ ?_) | rfl))
  case LH2 =>
    have hk0 : k ≤ 1 := hx
    have hw : IntKind.i64.wrap ((k : Int) + 1) = ((k + 1 : Nat) : Int) := by rw [wrap_i64 _ (by omega) (by omega)]; omega
    by_cases hk : k = 0
    · subst hk
      have hkd : decide (((0 : Nat) : Int) < 1) = true := by decide
      have hw1 : IntKind.i64.wrap 1 = ((1 : Nat) : Int) := by decide
      have hw2 : IntKind.i64.wrap (0 + (xs.length : Int)) = if (0 + 1 : Nat) = 0 then 0 else (xs.length : Int) := by rw [wrap_i64 _ (by omega) (by omega), if_neg (by decide)]; omega
      (have zx1 := @hkd; all_goals (try ((first | (with_reducible refine wp_id ?_) | (with_reducible refine does_id ?_) | (with_reducible refine ops_id ?_)); refine walk ?_; (repeat' (first | exact trivial | with_reducible refine And.intro ?_ ?_)); all_goals (repeat (first | (with_reducible refine ImpB.mk fun hb => ?_) | (with_reducible refine ImpK.mk fun hK => ?_) | (with_reducible refine ImpF.mk fun hF => ?_) | (with_reducible refine ImpQ.mk fun hp => ?_) | (with_reducible refine AllE.mk fun p => ?_) | (with_reducible refine AllR.mk fun rest => ?_) | (with_reducible refine AllK.mk fun K => ?_))))); repeat' (with_reducible refine And.intro ?_ ?_))
      refine ⟨0 + 1, ⟨Nat.le_refl _, (by first | omega | (dsimp only; omega))⟩, ?_⟩
      rw [hw1, hw2]
      (focus (refine ⟨_, _, Gh.refl, [0, 1, 2], rfl, ?_⟩; (refine fitq ?_ ?_ ?_ <;> try exact trivial); (try any_goals (refine ⟨?_, ?_⟩)); (try any_goals (with_reducible rfl))))
      all_goals (repeat' (first | (refine And.intro ?_ ?_) | rfl))
    · have hkd : decide ((k : Int) < 1) = false := decide_eq_false (by omega)
      rw [if_neg hk]
      (have zx1 := @hkd; all_goals (try ((first | (with_reducible refine wp_id ?_) | (with_reducible refine does_id ?_) | (with_reducible refine ops_id ?_)); refine walk ?_; (repeat' (first | exact trivial | with_reducible refine And.intro ?_ ?_)); all_goals (repeat (first | (with_reducible refine ImpB.mk fun hb => ?_) | (with_reducible refine ImpK.mk fun hK => ?_) | (with_reducible refine ImpF.mk fun hF => ?_) | (with_reducible refine ImpQ.mk fun hp => ?_) | (with_reducible refine AllE.mk fun p => ?_) | (with_reducible refine AllR.mk fun rest => ?_) | (with_reducible refine AllK.mk fun K => ?_))))); repeat' (with_reducible refine And.intro ?_ ?_))
      (focus (refine ⟨_, _, gh_close (t := 0) (ts := [1, 2]) (l := AO p xs) ⟨⟨_, _, rfl⟩, ?_, by simp⟩, [0], rfl, ?_⟩; all_goals (refine fitq ?_ ?_ ?_ <;> try exact trivial); (try any_goals (refine ⟨?_, ?_⟩)); (try any_goals (with_reducible rfl))))
      all_goals (repeat' (first | (refine And.intro ?_ ?_) | rfl))
theorem b_lenE : DoesK Try.prog 1 14 [.ptr 0 0] [.pack AE] (EndF 1 (.int .i64 0) ([.pack AE] ++ [])) := by
  refine DoesK.close ?_
  refine w_body (rs := [.tmp 2]) (tm := [.ptr 0 0, .any, .any, .any, .any, .any, .any, .any, .any, .any, .any, .any, .any, .any, .any, .any, .any, .any, .any, .any, .any, .any, .any, .any, .any]) fn_14 rfl rfl rfl rfl fun R hR => ?_
  refine w_open 0 rfl rfl ?_
  simp only [go_sem, decide_true, decide_false, Int.reduceToNat, Nat.min_eq_left, Nat.min_eq_right, Int.reducePow, Nat.reducePow, Int.reduceLE, Int.reduceLT, Int.reduceMul, Int.reduceAdd, Int.reduceSub, Int.reduceNeg, Bool.not_true, Bool.not_false, Bool.not_not, ↓reduceIte, Nat.reduceAdd, Nat.reduceSub, Nat.reduceMul, Nat.reduceEqDiff, reduceCtorEq, Nat.reduceLT, Nat.reduceLeDiff, Nat.reduceGT]
  (all_goals (try ((first | (with_reducible refine wp_id ?_) | (with_reducible refine does_id ?_) | (with_reducible refine ops_id ?_)); refine walk ?_; (repeat' (first | exact trivial | with_reducible refine And.intro ?_ ?_)); all_goals (repeat (first | (with_reducible refine ImpB.mk fun hb => ?_) | (with_reducible refine ImpK.mk fun hK => ?_) | (with_reducible refine ImpF.mk fun hF => ?_) | (with_reducible refine ImpQ.mk fun hp => ?_) | (with_reducible refine AllE.mk fun p => ?_) | (with_reducible refine AllR.mk fun rest => ?_) | (with_reducible refine AllK.mk fun K => ?_))))); repeat' (with_reducible refine And.intro ?_ ?_))
  any_goals ((try (refine w_seq fun K hK => ?_)); (try (refine w_block ?_)); refine w_loop (A := Nat) (fun k => k = 0) (fun k => 0) (fun k => [(3, .int .i64 0), (14, .int .i64 k)]) (fun k => []) (0) (ws := ?ws3) (tk := ?tk3) ?hw3 ?ht3 ?hi ?h0 ?LH3; (case hw3 => simp only [go_sem, decide_true, decide_false, Int.reduceToNat, Nat.min_eq_left, Nat.min_eq_right, Int.reducePow, Nat.reducePow, Int.reduceLE, Int.reduceLT, Int.reduceMul, Int.reduceAdd, Int.reduceSub, Int.reduceNeg, Bool.not_true, Bool.not_false, Bool.not_not, ↓reduceIte, Nat.reduceAdd, Nat.reduceSub, Nat.reduceMul, Nat.reduceEqDiff, reduceCtorEq, Nat.reduceLT, Nat.reduceLeDiff, Nat.reduceGT]; exact rfl); (case ht3 => simp only [go_sem, decide_true, decide_false, Int.reduceToNat, Nat.min_eq_left, Nat.min_eq_right, Int.reducePow, Nat.reducePow, Int.reduceLE, Int.reduceLT, Int.reduceMul, Int.reduceAdd, Int.reduceSub, Int.reduceNeg, Bool.not_true, Bool.not_false, Bool.not_not, ↓reduceIte, Nat.reduceAdd, Nat.reduceSub, Nat.reduceMul, Nat.reduceEqDiff, reduceCtorEq, Nat.reduceLT, Nat.reduceLeDiff, Nat.reduceGT]; exact rfl); (case' LH3 => rintro k E t hx hE ht; simp only [go_sem] at ht; subst ht; simp only [go_sem]; try dsimp only at hx))
  case hi => exact rfl
  case h0 =>
    (focus (refine ⟨_, _, Gh.refl, [0], rfl, ?_⟩; (refine fitq ?_ ?_ ?_ <;> try exact trivial); (try any_goals (refine ⟨?_, ?_⟩)); (try any_goals (with_reducible rfl))))
    all_goals (repeat' (first | (refine And.intro ?_ ?_) | rfl))
  case LH3 =>
    obtain rfl : k = 0 := hx
    have hkd : decide (((0 : Nat) : Int) < 0) = false := by decide
    (have zx1 := @hkd; all_goals (try ((first | (with_reducible refine wp_id ?_) | (with_reducible refine does_id ?_) | (with_reducible refine ops_id ?_)); refine walk ?_; (repeat' (first | exact trivial | with_reducible refine And.intro ?_ ?_)); all_goals (repeat (first | (with_reducible refine ImpB.mk fun hb => ?_) | (with_reducible refine ImpK.mk fun hK => ?_) | (with_reducible refine ImpF.mk fun hF => ?_) | (with_reducible refine ImpQ.mk fun hp => ?_) | (with_reducible refine AllE.mk fun p => ?_) | (with_reducible refine AllR.mk fun rest => ?_) | (with_reducible refine AllK.mk fun K => ?_))))); repeat' (with_reducible refine And.intro ?_ ?_))
    (focus (refine ⟨_, _, gh_close (t := 0) (ts := []) (l := AE) ⟨⟨_, _, rfl⟩, ?_, by simp⟩, [0], rfl, ?_⟩; all_goals (refine fitq ?_ ?_ ?_ <;> try exact trivial); (try any_goals (refine ⟨?_, ?_⟩)); (try any_goals (with_reducible rfl))))
    all_goals (repeat' (first | (refine And.intro ?_ ?_) | rfl))
theorem c_lenS {h : List Ch} {K : KT} {u : Nat} {p : Int} {xs : List Ent} (H : K (.int .i64 xs.length) h) (o : hth h u = .pack (ASL p xs)) (s1 : xs.length ≤ 900000) : Does Try.prog 14 [.ptr u 0] h K := by
  by_cases hn : xs.length = 0
  · obtain rfl := List.eq_nil_of_length_eq_zero hn
    exact frame_obj0 b_lenE o (by simp) (fitC_pack _) (br_cons (br_ptr rfl) br_nil) (.inl rfl) (fun _ => rfl) rfl (by rw [← ASL_nil p, set_hth o (by simp)]; exact H)
  · have hp : 0 < xs.length := by omega
    have o2 := o
    rw [ASL_pos hp] at o2
    exact frame_obj0 (b_lenO p xs hp s1) o2 (by simp) (fitC_pack _) (br_cons (br_ptr rfl) br_nil) (.inl rfl) (fun _ => rfl) rfl (by rw [set_hth o2 (by simp)]; exact H)
abbrev i_lenS := Ctr.mk (i := 0) (g := 14) @c_lenS
attribute [instance] i_lenS
theorem b_clB (xs : List UInt8) (hl : xs.length ≤ 1099511627776) : DoesK Try.prog 0 50 [.ro .byte xs] [] (EndF 0 (.ro .byte xs) []) := by
  refine DoesK.close ?_
  refine w_body (rs := [.tmp 2]) (tm := [.ro .byte xs, .any, .any, .any, .any, .any, .any, .any]) fn_50 rfl rfl rfl rfl fun R hR => ?_
  (all_goals (try ((first | (with_reducible refine wp_id ?_) | (with_reducible refine does_id ?_) | (with_reducible refine ops_id ?_)); refine walk ?_; (repeat' (first | exact trivial | with_reducible refine And.intro ?_ ?_)); all_goals (repeat (first | (with_reducible refine ImpB.mk fun hb => ?_) | (with_reducible refine ImpK.mk fun hK => ?_) | (with_reducible refine ImpF.mk fun hF => ?_) | (with_reducible refine ImpQ.mk fun hp => ?_) | (with_reducible refine AllE.mk fun p => ?_) | (with_reducible refine AllR.mk fun rest => ?_) | (with_reducible refine AllK.mk fun K => ?_))))); repeat' (with_reducible refine And.intro ?_ ?_))
  (all_goals first | exact Int.natCast_nonneg _ | exact Int.ofNat_lt.2 (by assumption) | assumption | omega | exact Nat.le_refl _ | (exfalso; simp at hb; done) | (simp only [go_sem, decide_true, decide_false, Int.reduceToNat, Nat.min_eq_left, Nat.min_eq_right, Int.reducePow, Nat.reducePow, Int.reduceLE, Int.reduceLT, Int.reduceMul, Int.reduceAdd, Int.reduceSub, Int.reduceNeg, Bool.not_true, Bool.not_false, Bool.not_not, ↓reduceIte, Nat.reduceAdd, Nat.reduceSub, Nat.reduceMul, Nat.reduceEqDiff, reduceCtorEq, Nat.reduceLT, Nat.reduceLeDiff, Nat.reduceGT]; done) | (unfold capM; omega) | (simp only [List.length_drop, List.length_take, List.length_append, List.length_cons, List.length_nil]; omega) | skip)
  · exact ⟨_, rfl⟩
  · (focus (refine ⟨_, _, Gh.refl, [], rfl, ?_⟩; (refine fitq ?_ ?_ ?_ <;> try exact trivial); (try any_goals (refine ⟨?_, ?_⟩)); (try any_goals (with_reducible rfl))))
    all_goals (try exact hb)
  · refine ⟨_, _, gh_frz (t := 1) (e := .byte) (xs := xs) rfl ?f1 ?f2, [], rfl, ?ft⟩
    case' ft => (refine fitq ?_ ?_ ?_ <;> try exact trivial)
    case' f1 => simp only [go_sem, decide_true, decide_false, Int.reduceToNat, Nat.min_eq_left, Nat.min_eq_right, Int.reducePow, Nat.reducePow, Int.reduceLE, Int.reduceLT, Int.reduceMul, Int.reduceAdd, Int.reduceSub, Int.reduceNeg, Bool.not_true, Bool.not_false, Bool.not_not, ↓reduceIte, Nat.reduceAdd, Nat.reduceSub, Nat.reduceMul, Nat.reduceEqDiff, reduceCtorEq, Nat.reduceLT, Nat.reduceLeDiff, Nat.reduceGT]
    case' f2 => simp only [go_sem, decide_true, decide_false, Int.reduceToNat, Nat.min_eq_left, Nat.min_eq_right, Int.reducePow, Nat.reducePow, Int.reduceLE, Int.reduceLT, Int.reduceMul, Int.reduceAdd, Int.reduceSub, Int.reduceNeg, Bool.not_true, Bool.not_false, Bool.not_not, ↓reduceIte, Nat.reduceAdd, Nat.reduceSub, Nat.reduceMul, Nat.reduceEqDiff, reduceCtorEq, Nat.reduceLT, Nat.reduceLeDiff, Nat.reduceGT]
    all_goals first | exact Nat.le_refl _ | simp
theorem c_clB {h : List Ch} {K : KT} {xs : List UInt8} {a : AV} (H : K (.ro .byte xs) h) (q1 : isRO .byte xs a) (s1 : xs.length ≤ 1099511627776) : Does Try.prog 50 [a] h K :=
  frame_pure (b_clB xs s1) (br_cons q1.br br_nil) (.inl (by rw [brTL, q1.brT]; rfl)) (fun _ => rfl) H
abbrev i_clB := Ctr.mk (i := 1) (g := 50) @c_clB
attribute [instance] i_clB
theorem b_dupD (a c t : Int) (d : List UInt8) (hl : d.length ≤ 1099511627776) : DoesK Try.prog 0 31 [.agg [.int .i64 a, .int .i64 c, .int .i64 t, .ro .byte d]] [] (EndF 0 (.agg [.int .i64 a, .int .i64 c, .int .i64 t, .ro .byte d]) []) := by
  refine DoesK.close ?_
  refine w_body (rs := [.cell 2 31]) (tm := [.agg [.int .i64 a, .int .i64 c, .int .i64 t, .ro .byte d], .any, .any, .any, .any, .any, .any, .any]) fn_31 rfl rfl rfl rfl fun R hR => ?_
  (all_goals (try ((first | (with_reducible refine wp_id ?_) | (with_reducible refine does_id ?_) | (with_reducible refine ops_id ?_)); refine walk ?_; (repeat' (first | exact trivial | with_reducible refine And.intro ?_ ?_)); all_goals (repeat (first | (with_reducible refine ImpB.mk fun hb => ?_) | (with_reducible refine ImpK.mk fun hK => ?_) | (with_reducible refine ImpF.mk fun hF => ?_) | (with_reducible refine ImpQ.mk fun hp => ?_) | (with_reducible refine AllE.mk fun p => ?_) | (with_reducible refine AllR.mk fun rest => ?_) | (with_reducible refine AllK.mk fun K => ?_))))); repeat' (with_reducible refine And.intro ?_ ?_))
  (focus (refine ⟨_, _, Gh.refl, [], rfl, ?_⟩; (refine fitq ?_ ?_ ?_ <;> try exact trivial); (try any_goals (refine ⟨?_, ?_⟩)); (try any_goals (with_reducible rfl))))
  all_goals (repeat' (first | (refine And.intro ?_ ?_) | rfl))
theorem c_dupD {h : List Ch} {K : KT} {a c t : Int} {d : List UInt8} (H : K (.agg [.int .i64 a, .int .i64 c, .int .i64 t, .ro .byte d]) h) (s1 : d.length ≤ 1099511627776) : Does Try.prog 31 [.agg [.int .i64 a, .int .i64 c, .int .i64 t, .ro .byte d]] h K :=
  frame_pure (b_dupD a c t d s1) (br_cons (br_agg (br_cons br_int (br_cons br_int (br_cons br_int (br_cons br_ro br_nil))))) br_nil) (.inl rfl) (fun _ => rfl) H
abbrev i_dupD := Ctr.mk (i := 1) (g := 31) @c_dupD
attribute [instance] i_dupD
end Go.V

set_option maxRecDepth 100000
set_option maxHeartbeats 8000000
namespace Go.V
open Go.Proofs
def toI (x : Ent) : Itm := ⟨x.apid, x.cnt, x.time, x.data⟩
def itmK (xs : List Ent) (k : Nat) : List Itm := (xs.take k).map toI
theorem itmK_next {xs : List Ent} {k : Nat} (h : k < xs.length) : itmK xs (k + 1) = itmK xs k ++ [toI (xs.getD k Ent.zero)] := by
  unfold itmK
  rw [List.take_succ_eq_append_getElem h, List.map_append, List.getD_eq_getElem?_getD, List.getElem?_eq_getElem h]
  rfl
theorem itmK_len {xs : List Ent} {k : Nat} (h : k ≤ xs.length) : (itmK xs k).length = k := by unfold itmK; rw [List.length_map, List.length_take]; omega
theorem b_itmO (p : Int) (xs : List Ent) (hl : 0 < xs.length) (hc : xs.length ≤ 900000) (hd : ∀ k, (xs.getD k Ent.zero).data.length ≤ 1099511627776) :
    DoesK Try.prog 1 20 [.ptr 0 0, .int .i64 p] [.pack (AO p xs)] (EndF 1 (.ro .itm (xs.map toI)) ([.pack (AO p xs)] ++ [])) := by
  refine DoesK.close ?_
  refine w_body (rs := [.tmp 4]) (tm := [.ptr 0 0, .int .i64 p, .any, .any, .any, .any, .any, .any, .any, .any, .any, .any, .any, .any, .any, .any, .any, .any, .any, .any, .any, .any, .any, .any]) fn_20 rfl rfl rfl rfl fun R hR => ?_
  refine w_open 0 rfl rfl ?_
  simp only [go_sem, decide_true, decide_false, Int.reduceToNat, Nat.min_eq_left, Nat.min_eq_right, Int.reducePow, Nat.reducePow, Int.reduceLE, Int.reduceLT, Int.reduceMul, Int.reduceAdd, Int.reduceSub, Int.reduceNeg, Bool.not_true, Bool.not_false, Bool.not_not, ↓reduceIte, Nat.reduceAdd, Nat.reduceSub, Nat.reduceMul, Nat.reduceEqDiff, reduceCtorEq, Nat.reduceLT, Nat.reduceLeDiff, Nat.reduceGT]
  (all_goals (try ((first | (with_reducible refine wp_id ?_) | (with_reducible refine does_id ?_) | (with_reducible refine ops_id ?_)); refine walk ?_; (repeat' (first | exact trivial | with_reducible refine And.intro ?_ ?_)); all_goals (repeat (first | (with_reducible refine ImpB.mk fun hb => ?_) | (with_reducible refine ImpK.mk fun hK => ?_) | (with_reducible refine ImpF.mk fun hF => ?_) | (with_reducible refine ImpQ.mk fun hp => ?_) | (with_reducible refine AllE.mk fun p => ?_) | (with_reducible refine AllR.mk fun rest => ?_) | (with_reducible refine AllK.mk fun K => ?_))))); repeat' (with_reducible refine And.intro ?_ ?_))
  refine Wp.ghost (gh_adopt (s := 5) .itm trivial) ?_
  simp only [go_sem, decide_true, decide_false, Int.reduceToNat, Nat.min_eq_left, Nat.min_eq_right, Int.reducePow, Nat.reducePow, Int.reduceLE, Int.reduceLT, Int.reduceMul, Int.reduceAdd, Int.reduceSub, Int.reduceNeg, Bool.not_true, Bool.not_false, Bool.not_not, ↓reduceIte, Nat.reduceAdd, Nat.reduceSub, Nat.reduceMul, Nat.reduceEqDiff, reduceCtorEq, Nat.reduceLT, Nat.reduceLeDiff, Nat.reduceGT]
  any_goals ((try (refine w_seq fun K hK => ?_)); (try (refine w_block ?_)); refine w_loop (A := Nat) (fun k => k ≤ xs.length) (fun k => xs.length - k) (fun k => [(5, .sl 3 .itm 0 k), (12, .int .i64 k)]) (fun k => [(3, .rows .itm (itmK xs k))]) (0) (ws := ?ws1) (tk := ?tk1) ?hw1 ?ht1 ?hi ?h0 ?LH1; (case hw1 => simp only [go_sem, decide_true, decide_false, Int.reduceToNat, Nat.min_eq_left, Nat.min_eq_right, Int.reducePow, Nat.reducePow, Int.reduceLE, Int.reduceLT, Int.reduceMul, Int.reduceAdd, Int.reduceSub, Int.reduceNeg, Bool.not_true, Bool.not_false, Bool.not_not, ↓reduceIte, Nat.reduceAdd, Nat.reduceSub, Nat.reduceMul, Nat.reduceEqDiff, reduceCtorEq, Nat.reduceLT, Nat.reduceLeDiff, Nat.reduceGT]; exact rfl); (case ht1 => simp only [go_sem, decide_true, decide_false, Int.reduceToNat, Nat.min_eq_left, Nat.min_eq_right, Int.reducePow, Nat.reducePow, Int.reduceLE, Int.reduceLT, Int.reduceMul, Int.reduceAdd, Int.reduceSub, Int.reduceNeg, Bool.not_true, Bool.not_false, Bool.not_not, ↓reduceIte, Nat.reduceAdd, Nat.reduceSub, Nat.reduceMul, Nat.reduceEqDiff, reduceCtorEq, Nat.reduceLT, Nat.reduceLeDiff, Nat.reduceGT]; exact rfl); (case' LH1 => rintro k E t hx hE ht; simp only [go_sem] at ht; subst ht; simp only [go_sem]; try dsimp only at hx))
  case hi => exact Nat.zero_le _
  case h0 =>
    (focus (refine ⟨_, _, Gh.refl, [0, 1, 2, 3], rfl, ?_⟩; (refine fitq ?_ ?_ ?_ <;> try exact trivial); (try any_goals (refine ⟨?_, ?_⟩)); (try any_goals (with_reducible rfl))))
    all_goals (repeat' (first | (refine And.intro ?_ ?_) | rfl))
  case LH1 =>
    have hk0 : k ≤ xs.length := hx
    have hw : IntKind.i64.wrap ((k : Int) + 1) = ((k + 1 : Nat) : Int) := by rw [wrap_i64 _ (by omega) (by omega)]; omega
    have hkl := itmK_len hk0
    by_cases hk : k < xs.length
    · have hkd : decide ((k : Int) < (xs.length : Int)) = true := decide_eq_true (by omega)
      have q2 := hd k
      have hn := itmK_next hk
      obtain ⟨y, hy⟩ : ∃ y, xs.getD k Ent.zero = y := ⟨_, rfl⟩
      rw [hy] at q2 hn
      have hn2 : itmK xs (k + 1) = itmK xs k ++ [⟨y.apid, y.cnt, y.time, y.data⟩] := hn
      (have zx1 := @hkd; have zx2 := @hw; have zx3 := @hy; have zx4 := @hkl; all_goals (try ((first | (with_reducible refine wp_id ?_) | (with_reducible refine does_id ?_) | (with_reducible refine ops_id ?_)); refine walk ?_; (repeat' (first | exact trivial | with_reducible refine And.intro ?_ ?_)); all_goals (repeat (first | (with_reducible refine ImpB.mk fun hb => ?_) | (with_reducible refine ImpK.mk fun hK => ?_) | (with_reducible refine ImpF.mk fun hF => ?_) | (with_reducible refine ImpQ.mk fun hp => ?_) | (with_reducible refine AllE.mk fun p => ?_) | (with_reducible refine AllR.mk fun rest => ?_) | (with_reducible refine AllK.mk fun K => ?_))))); repeat' (with_reducible refine And.intro ?_ ?_))
      any_goals first | exact Int.natCast_nonneg _ | (show (k : Int) < (xs.length : Int); omega) | (show k < xs.length; omega) | (show (k + 1) * 48 ≤ 140737488355328; omega) | (show k ≤ (_ : Nat); omega)
      refine ⟨k + 1, ⟨(by omega : k + 1 ≤ xs.length), (by first | omega | (dsimp only; omega))⟩, ?_⟩
      dsimp only
      rw [hn2]
      (focus (refine ⟨_, _, Gh.refl, [0, 1, 2, 6], rfl, ?_⟩; (refine fitq ?_ ?_ ?_ <;> try exact trivial); (try any_goals (refine ⟨?_, ?_⟩)); (try any_goals (with_reducible rfl))))
      all_goals (repeat' (first | (refine And.intro ?_ ?_) | rfl))
    · have hkd : decide ((k : Int) < (xs.length : Int)) = false := decide_eq_false (by omega)
      have hke : k = xs.length := by omega
      have hg : itmK xs k = xs.map toI := by rw [hke]; unfold itmK; rw [List.take_length]
      rw [hg] at hkl ⊢
      refine Wp.ghost (gh_frz (t := 3) (e := .itm) (xs := xs.map toI) rfl ?_ ?_) ?_
      · simp only [go_sem, decide_true, decide_false, Int.reduceToNat, Nat.min_eq_left, Nat.min_eq_right, Int.reducePow, Nat.reducePow, Int.reduceLE, Int.reduceLT, Int.reduceMul, Int.reduceAdd, Int.reduceSub, Int.reduceNeg, Bool.not_true, Bool.not_false, Bool.not_not, ↓reduceIte, Nat.reduceAdd, Nat.reduceSub, Nat.reduceMul, Nat.reduceEqDiff, reduceCtorEq, Nat.reduceLT, Nat.reduceLeDiff, Nat.reduceGT]
        exact ⟨by rw [List.length_map]; omega, fun q => q.elim⟩
      · simp only [go_sem, decide_true, decide_false, Int.reduceToNat, Nat.min_eq_left, Nat.min_eq_right, Int.reducePow, Nat.reducePow, Int.reduceLE, Int.reduceLT, Int.reduceMul, Int.reduceAdd, Int.reduceSub, Int.reduceNeg, Bool.not_true, Bool.not_false, Bool.not_not, ↓reduceIte, Nat.reduceAdd, Nat.reduceSub, Nat.reduceMul, Nat.reduceEqDiff, reduceCtorEq, Nat.reduceLT, Nat.reduceLeDiff, Nat.reduceGT]
        exact fun q => q.elim
      have htk : (xs.map toI).take k = xs.map toI := List.take_of_length_le (by rw [List.length_map]; omega)
      simp only [go_sem, decide_true, decide_false, Int.reduceToNat, Nat.min_eq_left, Nat.min_eq_right, Int.reducePow, Nat.reducePow, Int.reduceLE, Int.reduceLT, Int.reduceMul, Int.reduceAdd, Int.reduceSub, Int.reduceNeg, Bool.not_true, Bool.not_false, Bool.not_not, ↓reduceIte, Nat.reduceAdd, Nat.reduceSub, Nat.reduceMul, Nat.reduceEqDiff, reduceCtorEq, Nat.reduceLT, Nat.reduceLeDiff, Nat.reduceGT, htk]
      (have zx1 := @hkd; all_goals (try ((first | (with_reducible refine wp_id ?_) | (with_reducible refine does_id ?_) | (with_reducible refine ops_id ?_)); refine walk ?_; (repeat' (first | exact trivial | with_reducible refine And.intro ?_ ?_)); all_goals (repeat (first | (with_reducible refine ImpB.mk fun hb => ?_) | (with_reducible refine ImpK.mk fun hK => ?_) | (with_reducible refine ImpF.mk fun hF => ?_) | (with_reducible refine ImpQ.mk fun hp => ?_) | (with_reducible refine AllE.mk fun p => ?_) | (with_reducible refine AllR.mk fun rest => ?_) | (with_reducible refine AllK.mk fun K => ?_))))); repeat' (with_reducible refine And.intro ?_ ?_))
      (focus (refine ⟨_, _, gh_close (t := 0) (ts := [1, 2]) (l := AO p xs) ⟨⟨_, _, rfl⟩, ?_, by simp⟩, [0], rfl, ?_⟩; all_goals (refine fitq ?_ ?_ ?_ <;> try exact trivial); (try any_goals (refine ⟨?_, ?_⟩)); (try any_goals (with_reducible rfl))))
      all_goals (repeat' (first | (refine And.intro ?_ ?_) | rfl))
structure okD (xs : List Ent) : Prop where
  pos : 0 < xs.length
  len : xs.length ≤ 900000
  dat : ∀ k, (xs.getD k Ent.zero).data.length ≤ 1099511627776
theorem c_itmS {h : List Ch} {K : KT} {u : Nat} {p q : Int} {xs : List Ent} (H : K (.ro .itm (xs.map toI)) h) (o : hth h u = .pack (ASL q xs)) (e1 : okD xs) (s1 : p = q) : Does Try.prog 20 [.ptr u 0, .int .i64 p] h K := by
  subst s1
  have o2 := o
  rw [ASL_pos e1.pos] at o2
  exact frame_obj0 (b_itmO p xs e1.pos e1.len e1.dat) o2 (by simp) (fitC_pack _) (br_cons (br_ptr rfl) (br_cons br_int br_nil)) (.inl rfl) (fun _ => rfl) rfl (by rw [set_hth o2 (by simp)]; exact H)
abbrev i_itmS := Ctr.mk (i := 0) (g := 20) @c_itmS
attribute [instance] i_itmS
end Go.V

set_option maxRecDepth 100000
set_option maxHeartbeats 8000000
namespace Go.V
open Go.Proofs
attribute [-go_sem] AE AO
theorem okE_of {xs : List Ent} (h1 : xs.length ≤ 1000) (h2 : decide (-1000000 ≤ (eAt xs (xs.length - 1)).count ∧ (eAt xs (xs.length - 1)).count ≤ 1000000) = true) : okE xs := by
  have := of_decide_eq_true h2
  exact ⟨by omega, by omega, by omega⟩
abbrev xa1 : List Ent := [⟨16382, 0, 16382, 0, []⟩]
abbrev xa2 : List Ent := [⟨16382, 0, 16382, 0, []⟩, ⟨16385, 0, 1, 0, []⟩]
abbrev xa3 : List Ent := [⟨16382, 0, 16382, 0, []⟩, ⟨16383, 0, 16383, 0, []⟩, ⟨16385, 0, 1, 0, []⟩]
abbrev xb1 : List Ent := [⟨5, 2, 5, 0, []⟩]
abbrev xb2 : List Ent := [⟨-4, 2, 16380, 0, []⟩, ⟨5, 2, 5, 0, []⟩]
abbrev xb3 : List Ent := [⟨-4, 2, 16380, 0, []⟩, ⟨5, 2, 5, 0, []⟩, ⟨8197, 2, 8197, 0, []⟩]
theorem b_alive : DoesK Try.prog 0 8 [] [] (EndF 0 (.bool true) []) := by
  refine DoesK.close ?_
  have hro : RoLit := .mk
  have i1 : isIt 0 16382 0 := ⟨by decide, by decide, by decide, by decide, by decide, by decide⟩
  have i2 : isIt 0 1 0 := ⟨by decide, by decide, by decide, by decide, by decide, by decide⟩
  have i3 : isIt 0 16383 0 := ⟨by decide, by decide, by decide, by decide, by decide, by decide⟩
  have i4 : isIt 2 5 0 := ⟨by decide, by decide, by decide, by decide, by decide, by decide⟩
  have i5 : isIt 2 16380 0 := ⟨by decide, by decide, by decide, by decide, by decide, by decide⟩
  have i6 : isIt 2 8197 0 := ⟨by decide, by decide, by decide, by decide, by decide, by decide⟩
  have o1 : okE xa1 := okE_of (by decide) (by decide)
  have o2 : okE xa2 := okE_of (by decide) (by decide)
  have o3 : okE xa3 := okE_of (by decide) (by decide)
  have o4 : okE xb1 := okE_of (by decide) (by decide)
  have o5 : okE xb2 := okE_of (by decide) (by decide)
  have a1 : addS 0 1 0 xa1 = (xa2, 0) := by decide
  have a2 : addS 0 16383 0 xa2 = (xa3, 0) := by decide
  have a3 : addS 0 1 0 xa3 = (xa3, 9) := by decide
  have a4 : addS 2 16380 0 xb1 = (xb2, 0) := by decide
  have a5 : addS 2 8197 0 xb2 = (xb3, 0) := by decide
  have g1 : gapsF xa3 = [⟨16384, 16385⟩] := by decide
  have o6 : okC xa3 := ⟨by decide, fun k => by
    rcases k with _ | _ | _ | k
    · exact ⟨by decide, by decide⟩
    · exact ⟨by decide, by decide⟩
    · exact ⟨by decide, by decide⟩
    · exact (by decide : (-4611686018427387904 : Int) ≤ Ent.zero.count ∧ Ent.zero.count ≤ 4611686018427387904)⟩
  have o7 : okD xb3 := ⟨by decide, by decide, fun k => by
    rcases k with _ | _ | _ | k <;> exact (by decide : (0 : Nat) ≤ 1099511627776)⟩
  have dT : xb3.map toI = [⟨2, 16380, 0, []⟩, ⟨2, 5, 0, []⟩, ⟨2, 8197, 0, []⟩] := rfl
  generalize hxa1 : xa1 = A1 at *
  generalize hxa2 : xa2 = A2 at *
  generalize hxa3 : xa3 = A3 at *
  generalize hxb1 : xb1 = B1 at *
  generalize hxb2 : xb2 = B2 at *
  generalize hxb3 : xb3 = B3 at *
  have l3 : A3.length = 3 := by rw [← hxa3]; rfl
  refine w_body (rs := [.tmp 0]) (tm := [.any, .any, .any, .any, .any, .any, .any, .any, .any, .any, .any, .any, .any, .any, .any, .any, .any, .any, .any, .any, .any, .any, .any, .any, .any, .any, .any, .any, .any, .any, .any, .any, .any, .any, .any, .any, .any, .any, .any, .any, .any, .any, .any, .any, .any, .any, .any, .any, .any, .any, .any, .any, .any, .any, .any, .any, .any, .any, .any, .any, .any, .any, .any, .any, .any, .any, .any, .any, .any, .any, .any, .any, .any, .any, .any, .any]) fn_8 rfl rfl rfl rfl fun R hR => ?_
  (have zx1 := @g1; have zx2 := @dT; have zx3 := @hxa1; have zx4 := @hxb1; have zx5 := @l3; all_goals (try ((first | (with_reducible refine wp_id ?_) | (with_reducible refine does_id ?_) | (with_reducible refine ops_id ?_)); refine walk ?_; (repeat' (first | exact trivial | with_reducible refine And.intro ?_ ?_)); all_goals (repeat (first | (with_reducible refine ImpB.mk fun hb => ?_) | (with_reducible refine ImpK.mk fun hK => ?_) | (with_reducible refine ImpF.mk fun hF => ?_) | (with_reducible refine ImpQ.mk fun hp => ?_) | (with_reducible refine AllE.mk fun p => ?_) | (with_reducible refine AllR.mk fun rest => ?_) | (with_reducible refine AllK.mk fun K => ?_))))); repeat' (with_reducible refine And.intro ?_ ?_))
  all_goals first | exact absurd hb (by decide) | exact (by decide : (0 : Int) < ((3 : Nat) : Int)) | exact (by decide : (2 : Int) < ((3 : Nat) : Int)) | skip
  (focus (refine ⟨_, _, Gh.refl, [], rfl, ?_⟩; (refine fitq ?_ ?_ ?_ <;> try exact trivial); (try any_goals (refine ⟨?_, ?_⟩)); (try any_goals (with_reducible rfl))))
  all_goals (repeat' (first | (refine And.intro ?_ ?_) | rfl))
theorem c_alive {h : List Ch} {K : KT} (H : K (.bool true) h) : Does Try.prog 8 [] h K :=
  frame_pure b_alive br_nil (.inl rfl) (fun _ => rfl) H
abbrev i_alive := Ctr.mk (i := 0) (g := 8) @c_alive
attribute [instance] i_alive
end Go.V

set_option maxRecDepth 100000
set_option maxHeartbeats 8000000
namespace Go.V
open Go.Proofs
theorem b_valN  : DoesK Try.prog 0 27 [.lit (.pointer none)] [] (EndF 0 (.bool false) []) := by
  refine DoesK.close ?_
  refine w_body (rs := [.tmp 2]) (tm := [.lit (.pointer none), .any, .any, .any, .any, .any, .any, .any, .any, .any, .any]) fn_27 rfl rfl rfl rfl fun R hR => ?_
  (all_goals (try ((first | (with_reducible refine wp_id ?_) | (with_reducible refine does_id ?_) | (with_reducible refine ops_id ?_)); refine walk ?_; (repeat' (first | exact trivial | with_reducible refine And.intro ?_ ?_)); all_goals (repeat (first | (with_reducible refine ImpB.mk fun hb => ?_) | (with_reducible refine ImpK.mk fun hK => ?_) | (with_reducible refine ImpF.mk fun hF => ?_) | (with_reducible refine ImpQ.mk fun hp => ?_) | (with_reducible refine AllE.mk fun p => ?_) | (with_reducible refine AllR.mk fun rest => ?_) | (with_reducible refine AllK.mk fun K => ?_))))); repeat' (with_reducible refine And.intro ?_ ?_))
  (focus (refine ⟨_, _, Gh.refl, [], rfl, ?_⟩; (refine fitq ?_ ?_ ?_ <;> try exact trivial); (try any_goals (refine ⟨?_, ?_⟩)); (try any_goals (with_reducible rfl))))
  all_goals (repeat' (first | (refine And.intro ?_ ?_) | rfl))
theorem c_valN {h : List Ch} {K : KT}  (H : K (.bool false) h) : Does Try.prog 27 [.lit (.pointer none)] h K :=
  frame_pure (b_valN ) (br_cons br_lit br_nil) (.inr rfl) (fun _ => rfl) H
abbrev i_valN := Ctr.mk (i := 1) (g := 27) @c_valN
attribute [instance] i_valN
theorem b_addN (a c t : Int) (d : List UInt8) : DoesK Try.prog 0 10 [.lit (.pointer none), .agg [.int .i64 a, .int .i64 c, .int .i64 t, .ro .byte d]] [] (EndF 0 (.int .i64 2) []) := by
  refine DoesK.close ?_
  refine w_body (rs := [.tmp 4]) (tm := [.lit (.pointer none), .agg [.int .i64 a, .int .i64 c, .int .i64 t, .ro .byte d], .any, .any, .any, .any, .any, .any, .any, .any, .any, .any, .any, .any, .any, .any, .any, .any, .any, .any, .any, .any, .any, .any, .any, .any, .any, .any, .any, .any, .any, .any, .any, .any, .any, .any, .any, .any, .any, .any, .any, .any, .any, .any, .any, .any, .any, .any, .any, .any, .any, .any, .any, .any, .any, .any, .any, .any, .any, .any, .any, .any, .any, .any, .any, .any, .any, .any, .any, .any, .any, .any, .any, .any, .any, .any, .any, .any, .any, .any, .any, .any, .any, .any, .any, .any, .any, .any, .any, .any, .any, .any, .any, .any, .any, .any, .any, .any, .any, .any, .any, .any, .any, .any, .any, .any, .any, .any, .any, .any, .any, .any, .any, .any, .any, .any, .any, .any, .any, .any, .any, .any, .any, .any, .any, .any, .any, .any, .any, .any, .any, .any, .any, .any, .any, .any, .any, .any, .any, .any, .any, .any, .any, .any, .any, .any, .any, .any, .any]) fn_10 rfl rfl rfl rfl fun R hR => ?_
  (all_goals (try ((first | (with_reducible refine wp_id ?_) | (with_reducible refine does_id ?_) | (with_reducible refine ops_id ?_)); refine walk ?_; (repeat' (first | exact trivial | with_reducible refine And.intro ?_ ?_)); all_goals (repeat (first | (with_reducible refine ImpB.mk fun hb => ?_) | (with_reducible refine ImpK.mk fun hK => ?_) | (with_reducible refine ImpF.mk fun hF => ?_) | (with_reducible refine ImpQ.mk fun hp => ?_) | (with_reducible refine AllE.mk fun p => ?_) | (with_reducible refine AllR.mk fun rest => ?_) | (with_reducible refine AllK.mk fun K => ?_))))); repeat' (with_reducible refine And.intro ?_ ?_))
  (focus (refine ⟨_, _, Gh.refl, [], rfl, ?_⟩; (refine fitq ?_ ?_ ?_ <;> try exact trivial); (try any_goals (refine ⟨?_, ?_⟩)); (try any_goals (with_reducible rfl))))
  all_goals (repeat' (first | (refine And.intro ?_ ?_) | rfl))
theorem c_addN {h : List Ch} {K : KT} {a c t : Int} {d : List UInt8} (H : K (.int .i64 2) h) : Does Try.prog 10 [.lit (.pointer none), .agg [.int .i64 a, .int .i64 c, .int .i64 t, .ro .byte d]] h K :=
  frame_pure (b_addN a c t d) (br_cons br_lit (br_cons (br_agg (br_cons br_int (br_cons br_int (br_cons br_int (br_cons br_ro br_nil))))) br_nil)) (.inl rfl) (fun _ => rfl) H
abbrev i_addN := Ctr.mk (i := 3) (g := 10) @c_addN
attribute [instance] i_addN
theorem b_entN (p : Int) : DoesK Try.prog 0 37 [.lit (.pointer none), .int .i64 p] [] (EndF 0 (.lit (.slice none 0 0)) []) := by
  refine DoesK.close ?_
  refine w_body (rs := [.tmp 4]) (tm := [.lit (.pointer none), .int .i64 p, .any, .any, .any, .any, .any, .any, .any, .any, .any, .any, .any, .any, .any, .any, .any, .any, .any, .any, .any, .any, .any, .any, .any, .any]) fn_37 rfl rfl rfl rfl fun R hR => ?_
  (all_goals (try ((first | (with_reducible refine wp_id ?_) | (with_reducible refine does_id ?_) | (with_reducible refine ops_id ?_)); refine walk ?_; (repeat' (first | exact trivial | with_reducible refine And.intro ?_ ?_)); all_goals (repeat (first | (with_reducible refine ImpB.mk fun hb => ?_) | (with_reducible refine ImpK.mk fun hK => ?_) | (with_reducible refine ImpF.mk fun hF => ?_) | (with_reducible refine ImpQ.mk fun hp => ?_) | (with_reducible refine AllE.mk fun p => ?_) | (with_reducible refine AllR.mk fun rest => ?_) | (with_reducible refine AllK.mk fun K => ?_))))); repeat' (with_reducible refine And.intro ?_ ?_))
  (focus (refine ⟨_, _, Gh.refl, [], rfl, ?_⟩; (refine fitq ?_ ?_ ?_ <;> try exact trivial); (try any_goals (refine ⟨?_, ?_⟩)); (try any_goals (with_reducible rfl))))
  all_goals (repeat' (first | (refine And.intro ?_ ?_) | rfl))
theorem c_entN {h : List Ch} {K : KT} {p : Int} (H : K (.lit (.slice none 0 0)) h) : Does Try.prog 37 [.lit (.pointer none), .int .i64 p] h K :=
  frame_pure (b_entN p) (br_cons br_lit (br_cons br_int br_nil)) (.inr rfl) (fun _ => rfl) H
abbrev i_entN := Ctr.mk (i := 2) (g := 37) @c_entN
attribute [instance] i_entN
theorem b_gapN (p : Int) : DoesK Try.prog 0 13 [.lit (.pointer none), .int .i64 p] [] (EndF 0 (.lit (.slice none 0 0)) []) := by
  refine DoesK.close ?_
  refine w_body (rs := [.tmp 4]) (tm := [.lit (.pointer none), .int .i64 p, .any, .any, .any, .any, .any, .any, .any, .any, .any, .any, .any, .any, .any, .any, .any, .any, .any, .any, .any, .any, .any, .any, .any, .any, .any, .any, .any, .any, .any, .any, .any, .any, .any, .any, .any, .any, .any, .any, .any, .any, .any, .any, .any]) fn_13 rfl rfl rfl rfl fun R hR => ?_
  (all_goals (try ((first | (with_reducible refine wp_id ?_) | (with_reducible refine does_id ?_) | (with_reducible refine ops_id ?_)); refine walk ?_; (repeat' (first | exact trivial | with_reducible refine And.intro ?_ ?_)); all_goals (repeat (first | (with_reducible refine ImpB.mk fun hb => ?_) | (with_reducible refine ImpK.mk fun hK => ?_) | (with_reducible refine ImpF.mk fun hF => ?_) | (with_reducible refine ImpQ.mk fun hp => ?_) | (with_reducible refine AllE.mk fun p => ?_) | (with_reducible refine AllR.mk fun rest => ?_) | (with_reducible refine AllK.mk fun K => ?_))))); repeat' (with_reducible refine And.intro ?_ ?_))
  (focus (refine ⟨_, _, Gh.refl, [], rfl, ?_⟩; (refine fitq ?_ ?_ ?_ <;> try exact trivial); (try any_goals (refine ⟨?_, ?_⟩)); (try any_goals (with_reducible rfl))))
  all_goals (repeat' (first | (refine And.intro ?_ ?_) | rfl))
theorem c_gapN {h : List Ch} {K : KT} {p : Int} (H : K (.lit (.slice none 0 0)) h) : Does Try.prog 13 [.lit (.pointer none), .int .i64 p] h K :=
  frame_pure (b_gapN p) (br_cons br_lit (br_cons br_int br_nil)) (.inr rfl) (fun _ => rfl) H
abbrev i_gapN := Ctr.mk (i := 1) (g := 13) @c_gapN
attribute [instance] i_gapN
theorem b_betN (p q : Int) : DoesK Try.prog 0 25 [.lit (.pointer none), .int .i64 p, .int .i64 q] [] (EndF 0 (.lit (.slice none 0 0)) []) := by
  refine DoesK.close ?_
  refine w_body (rs := [.tmp 6]) (tm := [.lit (.pointer none), .int .i64 p, .int .i64 q, .any, .any, .any, .any, .any, .any, .any, .any, .any, .any, .any, .any, .any, .any, .any, .any, .any, .any, .any, .any, .any, .any, .any, .any, .any, .any, .any, .any, .any, .any, .any, .any, .any, .any, .any, .any, .any, .any, .any, .any, .any, .any, .any, .any, .any, .any, .any, .any, .any, .any, .any]) fn_25 rfl rfl rfl rfl fun R hR => ?_
  (all_goals (try ((first | (with_reducible refine wp_id ?_) | (with_reducible refine does_id ?_) | (with_reducible refine ops_id ?_)); refine walk ?_; (repeat' (first | exact trivial | with_reducible refine And.intro ?_ ?_)); all_goals (repeat (first | (with_reducible refine ImpB.mk fun hb => ?_) | (with_reducible refine ImpK.mk fun hK => ?_) | (with_reducible refine ImpF.mk fun hF => ?_) | (with_reducible refine ImpQ.mk fun hp => ?_) | (with_reducible refine AllE.mk fun p => ?_) | (with_reducible refine AllR.mk fun rest => ?_) | (with_reducible refine AllK.mk fun K => ?_))))); repeat' (with_reducible refine And.intro ?_ ?_))
  (focus (refine ⟨_, _, Gh.refl, [], rfl, ?_⟩; (refine fitq ?_ ?_ ?_ <;> try exact trivial); (try any_goals (refine ⟨?_, ?_⟩)); (try any_goals (with_reducible rfl))))
  all_goals (repeat' (first | (refine And.intro ?_ ?_) | rfl))
theorem c_betN {h : List Ch} {K : KT} {p q : Int} (H : K (.lit (.slice none 0 0)) h) : Does Try.prog 25 [.lit (.pointer none), .int .i64 p, .int .i64 q] h K :=
  frame_pure (b_betN p q) (br_cons br_lit (br_cons br_int (br_cons br_int br_nil))) (.inr rfl) (fun _ => rfl) H
abbrev i_betN := Ctr.mk (i := 0) (g := 25) @c_betN
attribute [instance] i_betN
theorem b_lenN  : DoesK Try.prog 0 14 [.lit (.pointer none)] [] (EndF 0 (.int .i64 0) []) := by
  refine DoesK.close ?_
  refine w_body (rs := [.tmp 2]) (tm := [.lit (.pointer none), .any, .any, .any, .any, .any, .any, .any, .any, .any, .any, .any, .any, .any, .any, .any, .any, .any, .any, .any, .any, .any, .any, .any, .any]) fn_14 rfl rfl rfl rfl fun R hR => ?_
  (all_goals (try ((first | (with_reducible refine wp_id ?_) | (with_reducible refine does_id ?_) | (with_reducible refine ops_id ?_)); refine walk ?_; (repeat' (first | exact trivial | with_reducible refine And.intro ?_ ?_)); all_goals (repeat (first | (with_reducible refine ImpB.mk fun hb => ?_) | (with_reducible refine ImpK.mk fun hK => ?_) | (with_reducible refine ImpF.mk fun hF => ?_) | (with_reducible refine ImpQ.mk fun hp => ?_) | (with_reducible refine AllE.mk fun p => ?_) | (with_reducible refine AllR.mk fun rest => ?_) | (with_reducible refine AllK.mk fun K => ?_))))); repeat' (with_reducible refine And.intro ?_ ?_))
  (focus (refine ⟨_, _, Gh.refl, [], rfl, ?_⟩; (refine fitq ?_ ?_ ?_ <;> try exact trivial); (try any_goals (refine ⟨?_, ?_⟩)); (try any_goals (with_reducible rfl))))
  all_goals (repeat' (first | (refine And.intro ?_ ?_) | rfl))
theorem c_lenN {h : List Ch} {K : KT}  (H : K (.int .i64 0) h) : Does Try.prog 14 [.lit (.pointer none)] h K :=
  frame_pure (b_lenN ) (br_cons br_lit br_nil) (.inr rfl) (fun _ => rfl) H
abbrev i_lenN := Ctr.mk (i := 1) (g := 14) @c_lenN
attribute [instance] i_lenN
theorem b_cloN  : DoesK Try.prog 0 24 [.lit (.pointer none)] [] (EndF 0 (.lit (.pointer none)) []) := by
  refine DoesK.close ?_
  refine w_body (rs := [.tmp 2]) (tm := [.lit (.pointer none), .any, .any, .any, .any, .any, .any, .any, .any, .any, .any, .any, .any, .any, .any, .any, .any, .any, .any, .any, .any, .any, .any, .any, .any, .any, .any, .any, .any, .any, .any, .any, .any, .any, .any, .any, .any, .any, .any, .any, .any, .any, .any, .any, .any, .any, .any, .any, .any, .any, .any, .any, .any, .any, .any, .any, .any, .any, .any, .any, .any, .any, .any, .any, .any, .any, .any, .any, .any, .any, .any, .any, .any, .any, .any, .any, .any, .any, .any]) fn_24 rfl rfl rfl rfl fun R hR => ?_
  (all_goals (try ((first | (with_reducible refine wp_id ?_) | (with_reducible refine does_id ?_) | (with_reducible refine ops_id ?_)); refine walk ?_; (repeat' (first | exact trivial | with_reducible refine And.intro ?_ ?_)); all_goals (repeat (first | (with_reducible refine ImpB.mk fun hb => ?_) | (with_reducible refine ImpK.mk fun hK => ?_) | (with_reducible refine ImpF.mk fun hF => ?_) | (with_reducible refine ImpQ.mk fun hp => ?_) | (with_reducible refine AllE.mk fun p => ?_) | (with_reducible refine AllR.mk fun rest => ?_) | (with_reducible refine AllK.mk fun K => ?_))))); repeat' (with_reducible refine And.intro ?_ ?_))
  (focus (refine ⟨_, _, Gh.refl, [], rfl, ?_⟩; (refine fitq ?_ ?_ ?_ <;> try exact trivial); (try any_goals (refine ⟨?_, ?_⟩)); (try any_goals (with_reducible rfl))))
  all_goals (repeat' (first | (refine And.intro ?_ ?_) | rfl))
theorem c_cloN {h : List Ch} {K : KT}  (H : K (.lit (.pointer none)) h) : Does Try.prog 24 [.lit (.pointer none)] h K :=
  frame_pure (b_cloN ) (br_cons br_lit br_nil) (.inr rfl) (fun _ => rfl) H
abbrev i_cloN := Ctr.mk (i := 0) (g := 24) @c_cloN
attribute [instance] i_cloN
theorem b_itmN (p : Int) : DoesK Try.prog 0 20 [.lit (.pointer none), .int .i64 p] [] (EndF 0 (.lit (.slice none 0 0)) []) := by
  refine DoesK.close ?_
  refine w_body (rs := [.tmp 4]) (tm := [.lit (.pointer none), .int .i64 p, .any, .any, .any, .any, .any, .any, .any, .any, .any, .any, .any, .any, .any, .any, .any, .any, .any, .any, .any, .any, .any, .any]) fn_20 rfl rfl rfl rfl fun R hR => ?_
  (all_goals (try ((first | (with_reducible refine wp_id ?_) | (with_reducible refine does_id ?_) | (with_reducible refine ops_id ?_)); refine walk ?_; (repeat' (first | exact trivial | with_reducible refine And.intro ?_ ?_)); all_goals (repeat (first | (with_reducible refine ImpB.mk fun hb => ?_) | (with_reducible refine ImpK.mk fun hK => ?_) | (with_reducible refine ImpF.mk fun hF => ?_) | (with_reducible refine ImpQ.mk fun hp => ?_) | (with_reducible refine AllE.mk fun p => ?_) | (with_reducible refine AllR.mk fun rest => ?_) | (with_reducible refine AllK.mk fun K => ?_))))); repeat' (with_reducible refine And.intro ?_ ?_))
  any_goals ((try (refine w_seq fun K hK => ?_)); (try (refine w_block ?_)); refine w_loop (A := Nat) (fun k => k = 0) (fun k => 0) (fun k => [(5, .lit (.slice none 0 0)), (12, .int .i64 k)]) (fun k => []) (0) (ws := ?ws1) (tk := ?tk1) ?hw1 ?ht1 ?hi ?h0 ?LH1; (case hw1 => simp only [go_sem, decide_true, decide_false, Int.reduceToNat, Nat.min_eq_left, Nat.min_eq_right, Int.reducePow, Nat.reducePow, Int.reduceLE, Int.reduceLT, Int.reduceMul, Int.reduceAdd, Int.reduceSub, Int.reduceNeg, Bool.not_true, Bool.not_false, Bool.not_not, ↓reduceIte, Nat.reduceAdd, Nat.reduceSub, Nat.reduceMul, Nat.reduceEqDiff, reduceCtorEq, Nat.reduceLT, Nat.reduceLeDiff, Nat.reduceGT]; exact rfl); (case ht1 => simp only [go_sem, decide_true, decide_false, Int.reduceToNat, Nat.min_eq_left, Nat.min_eq_right, Int.reducePow, Nat.reducePow, Int.reduceLE, Int.reduceLT, Int.reduceMul, Int.reduceAdd, Int.reduceSub, Int.reduceNeg, Bool.not_true, Bool.not_false, Bool.not_not, ↓reduceIte, Nat.reduceAdd, Nat.reduceSub, Nat.reduceMul, Nat.reduceEqDiff, reduceCtorEq, Nat.reduceLT, Nat.reduceLeDiff, Nat.reduceGT]; exact rfl); (case' LH1 => rintro k E t hx hE ht; simp only [go_sem] at ht; subst ht; simp only [go_sem]; try dsimp only at hx))
  case hi => exact rfl
  case h0 =>
    (focus (refine ⟨_, _, Gh.refl, [], rfl, ?_⟩; (refine fitq ?_ ?_ ?_ <;> try exact trivial); (try any_goals (refine ⟨?_, ?_⟩)); (try any_goals (with_reducible rfl))))
    all_goals (repeat' (first | (refine And.intro ?_ ?_) | rfl))
  case LH1 =>
    obtain rfl : k = 0 := hx
    have hkd : decide (((0 : Nat) : Int) < 0) = false := by decide
    (have zx1 := @hkd; all_goals (try ((first | (with_reducible refine wp_id ?_) | (with_reducible refine does_id ?_) | (with_reducible refine ops_id ?_)); refine walk ?_; (repeat' (first | exact trivial | with_reducible refine And.intro ?_ ?_)); all_goals (repeat (first | (with_reducible refine ImpB.mk fun hb => ?_) | (with_reducible refine ImpK.mk fun hK => ?_) | (with_reducible refine ImpF.mk fun hF => ?_) | (with_reducible refine ImpQ.mk fun hp => ?_) | (with_reducible refine AllE.mk fun p => ?_) | (with_reducible refine AllR.mk fun rest => ?_) | (with_reducible refine AllK.mk fun K => ?_))))); repeat' (with_reducible refine And.intro ?_ ?_))
    (focus (refine ⟨_, _, Gh.refl, [], rfl, ?_⟩; (refine fitq ?_ ?_ ?_ <;> try exact trivial); (try any_goals (refine ⟨?_, ?_⟩)); (try any_goals (with_reducible rfl))))
    all_goals (repeat' (first | (refine And.intro ?_ ?_) | rfl))
theorem c_itmN {h : List Ch} {K : KT} {p : Int} (H : K (.lit (.slice none 0 0)) h) : Does Try.prog 20 [.lit (.pointer none), .int .i64 p] h K :=
  frame_pure (b_itmN p) (br_cons br_lit (br_cons br_int br_nil)) (.inr rfl) (fun _ => rfl) H
abbrev i_itmN := Ctr.mk (i := 1) (g := 20) @c_itmN
attribute [instance] i_itmN
theorem b_none (a c t : Int) (d : List UInt8) : DoesK Try.prog 0 7 [.agg [.int .i64 a, .int .i64 c, .int .i64 t, .ro .byte d]] [] (EndF 0 (.bool true) []) := by
  refine DoesK.close ?_
  refine w_body (rs := [.tmp 2]) (tm := [.agg [.int .i64 a, .int .i64 c, .int .i64 t, .ro .byte d], .any, .any, .any, .any, .any, .any, .any, .any, .any, .any, .any, .any, .any, .any, .any, .any, .any, .any, .any, .any, .any, .any, .any, .any, .any, .any, .any, .any, .any, .any, .any, .any, .any, .any, .any, .any, .any, .any, .any, .any, .any, .any, .any, .any]) fn_7 rfl rfl rfl rfl fun R hR => ?_
  (all_goals (try ((first | (with_reducible refine wp_id ?_) | (with_reducible refine does_id ?_) | (with_reducible refine ops_id ?_)); refine walk ?_; (repeat' (first | exact trivial | with_reducible refine And.intro ?_ ?_)); all_goals (repeat (first | (with_reducible refine ImpB.mk fun hb => ?_) | (with_reducible refine ImpK.mk fun hK => ?_) | (with_reducible refine ImpF.mk fun hF => ?_) | (with_reducible refine ImpQ.mk fun hp => ?_) | (with_reducible refine AllE.mk fun p => ?_) | (with_reducible refine AllR.mk fun rest => ?_) | (with_reducible refine AllK.mk fun K => ?_))))); repeat' (with_reducible refine And.intro ?_ ?_))
  (focus (refine ⟨_, _, Gh.refl, [], rfl, ?_⟩; (refine fitq ?_ ?_ ?_ <;> try exact trivial); (try any_goals (refine ⟨?_, ?_⟩)); (try any_goals (with_reducible rfl))))
  all_goals (repeat' (first | (refine And.intro ?_ ?_) | rfl))
theorem b_noneL (i : Itm) : DoesK Try.prog 0 7 [.agg [.int .i64 i.apid, .int .i64 i.count, .int .i64 i.time, .ro .byte i.data]] [] (EndF 0 (.bool true) []) := b_none _ _ _ _
end Go.V
