/-
  Contacts: the plain laws. Plans of greatest value, merged ranges, the next contact.
-/
import Derived.Test.YtlfhggpgcpjhhaaPart10
set_option linter.unusedVariables false
set_option linter.unusedSimpArgs false
set_option maxRecDepth 100000
namespace Go.V
/-- two contacts may both be used -/
def cmpW (g : Int) (a b : Win) : Bool := decide (a.to_ + g ≤ b.from_) || decide (b.to_ + g ≤ a.from_)
theorem cmpW_comm (g : Int) (a b : Win) : cmpW g a b = cmpW g b a := by unfold cmpW; rw [Bool.or_comm]
theorem cmpW_iff {g : Int} {a b : Win} : cmpW g a b = true ↔ a.to_ + g ≤ b.from_ ∨ b.to_ + g ≤ a.from_ := by
  unfold cmpW; rw [Bool.or_eq_true, decide_eq_true_eq, decide_eq_true_eq]
def sumW : List Win → Int
  | [] => 0
  | w :: l => w.va + sumW l
theorem sumW_app : ∀ l m : List Win, sumW (l ++ m) = sumW l + sumW m
  | [], m => by simp [sumW]
  | w :: l, m => by
    rw [List.cons_append, sumW, sumW, sumW_app l m]; omega
theorem sumW_perm {l m : List Win} (h : l.Perm m) : sumW l = sumW m := by
  induction h with
  | nil => rfl
  | cons x _ ih => rw [sumW, sumW, ih]
  | swap x y l => simp only [sumW]; omega
  | trans _ _ h1 h2 => rw [h1, h2]
abbrev pwW (g : Int) (l : List Win) : Prop := l.Pairwise fun a b => cmpW g a b = true
theorem pwW_perm {g : Int} {l m : List Win} (h : l.Perm m) (hp : pwW g l) : pwW g m :=
  h.pairwise hp fun {a b} hab => by rw [cmpW_comm]; exact hab
/-- the greatest value of contacts that may be used together -/
structure IsBest (g : Int) (l : List Win) (v : Int) : Prop where
  up : ∀ s : List Win, s.Sublist l → pwW g s → sumW s ≤ v
  ex : ∃ s : List Win, s.Sublist l ∧ pwW g s ∧ sumW s = v
theorem IsBest.one {g : Int} {l : List Win} {v w : Int} (h : IsBest g l v) (k : IsBest g l w) : v = w := by
  obtain ⟨s, h1, h2, h3⟩ := h.ex
  obtain ⟨t, k1, k2, k3⟩ := k.ex
  have := h.up t k1 k2
  have := k.up s h1 h2
  omega
theorem sub_perm {α : Type} {l m : List α} (h : l.Perm m) : ∀ {s : List α}, s.Sublist l → ∃ t : List α, t.Perm s ∧ t.Sublist m := by
  induction h with
  | nil => intro s hs; exact ⟨s, .refl _, hs⟩
  | cons x _ ih =>
    intro s hs
    cases hs with
    | cons _ h =>
      obtain ⟨t, h1, h2⟩ := ih h
      exact ⟨t, h1, h2.cons _⟩
    | cons_cons _ h =>
      obtain ⟨t, h1, h2⟩ := ih h
      exact ⟨x :: t, h1.cons _, h2.cons_cons _⟩
  | swap x y l =>
    intro s hs
    cases hs with
    | cons _ h =>
      cases h with
      | cons _ h => exact ⟨_, .refl _, (h.cons _).cons _⟩
      | cons_cons _ h => exact ⟨_, .refl _, (h.cons _).cons_cons _⟩
    | cons_cons _ h =>
      cases h with
      | cons _ h => exact ⟨_, .refl _, (h.cons_cons _).cons _⟩
      | cons_cons _ h => exact ⟨_, List.Perm.swap _ _ _, (h.cons_cons _).cons_cons _⟩
  | trans _ _ h1 h2 =>
    intro s hs
    obtain ⟨t, p1, q1⟩ := h1 hs
    obtain ⟨u, p2, q2⟩ := h2 q1
    exact ⟨u, p2.trans p1, q2⟩
theorem IsBest.perm {g : Int} {l m : List Win} {v : Int} (hp : l.Perm m) (h : IsBest g l v) : IsBest g m v where
  up := fun s hs hw => by
    obtain ⟨t, p, q⟩ := sub_perm hp.symm hs
    rw [← sumW_perm p]
    exact h.up t q (pwW_perm p.symm hw)
  ex := by
    obtain ⟨s, h1, h2, h3⟩ := h.ex
    obtain ⟨t, p, q⟩ := sub_perm hp h1
    exact ⟨t, q, pwW_perm p.symm h2, by rw [sumW_perm p, h3]⟩
def bestN (g : Int) : Nat → List Win → Int
  | 0, _ => 0
  | _ + 1, [] => 0
  | n + 1, w :: l => max (bestN g n l) (w.va + bestN g n (l.filter (cmpW g w)))
def bestW (g : Int) (l : List Win) : Int := bestN g l.length l
theorem isBest_nil (g : Int) : IsBest g [] 0 :=
  ⟨fun s hs _ => by rw [List.sublist_nil.1 hs]; exact Int.le_refl _, ⟨[], .slnil, .nil, rfl⟩⟩
theorem sub_all {α : Type} {p : α → Bool} {s l : List α} (hs : s.Sublist l) (h : ∀ x ∈ s, p x = true) : s.Sublist (l.filter p) := by
  have := hs.filter p
  rwa [List.filter_eq_self.2 h] at this
theorem bestN_is (g : Int) : ∀ (n : Nat) (l : List Win), l.length ≤ n → IsBest g l (bestN g n l)
  | 0, l, h => by
    have : l = [] := List.length_eq_zero_iff.1 (by omega)
    subst this; exact isBest_nil g
  | n + 1, [], _ => isBest_nil g
  | n + 1, w :: l, h => by
    have hl : l.length ≤ n := by simpa using h
    have h1 := bestN_is g n l hl
    have h2 := bestN_is g n (l.filter (cmpW g w)) (Nat.le_trans (List.length_filter_le _ _) hl)
    refine ⟨fun s hs hw => ?_, ?_⟩
    · show _ ≤ max _ _
      cases hs with
      | cons _ h => have := h1.up s h hw; omega
      | cons_cons _ h =>
        rename_i s'
        have hw' := List.pairwise_cons.1 hw
        have := h2.up s' (sub_all h fun x hx => hw'.1 x hx) hw'.2
        rw [sumW]; omega
    · show ∃ s, _ ∧ _ ∧ sumW s = max _ _
      obtain ⟨s1, a1, a2, a3⟩ := h1.ex
      obtain ⟨s2, b1, b2, b3⟩ := h2.ex
      by_cases c : w.va + bestN g n (l.filter (cmpW g w)) ≤ bestN g n l
      · exact ⟨s1, a1.cons _, a2, by omega⟩
      · refine ⟨w :: s2, (b1.trans List.filter_sublist).cons_cons _, List.pairwise_cons.2 ⟨fun x hx => ?_, b2⟩, by rw [sumW]; omega⟩
        exact (List.mem_filter.1 (b1.subset hx)).2
theorem best_is (g : Int) (l : List Win) : IsBest g l (bestW g l) := bestN_is g _ l (Nat.le_refl _)
theorem best_perm {g : Int} {l m : List Win} (h : l.Perm m) : bestW g l = bestW g m := ((best_is g l).perm h).one (best_is g m)
theorem best_ge0 (g : Int) (l : List Win) : 0 ≤ bestW g l := (best_is g l).up [] (List.nil_sublist _) .nil
theorem best_mono {g : Int} {l m : List Win} (h : l.Sublist m) : bestW g l ≤ bestW g m := by
  obtain ⟨s, h1, h2, h3⟩ := (best_is g l).ex
  rw [← h3]
  exact (best_is g m).up s (h1.trans h) h2
theorem best_gap {g k : Int} (hg : g ≤ k) (l : List Win) : bestW k l ≤ bestW g l := by
  obtain ⟨s, h1, h2, h3⟩ := (best_is k l).ex
  rw [← h3]
  refine (best_is g l).up s h1 (h2.imp fun {a b} h => ?_)
  rw [cmpW_iff] at h ⊢
  omega
theorem sumW_le {c : Int} : ∀ {l : List Win}, (∀ x ∈ l, x.va ≤ c) → sumW l ≤ l.length * c
  | [], _ => by simp [sumW]
  | w :: l, h => by
    have h1 := sumW_le (l := l) fun x hx => h x (by simp [hx])
    have h2 := h w (by simp)
    rw [sumW, List.length_cons]
    have : ((l.length + 1 : Nat) : Int) * c = l.length * c + c := by
      rw [Int.natCast_add, Int.add_mul]; simp
    omega
theorem best_le {g c : Int} {l : List Win} (hc : 0 ≤ c) (h : ∀ x ∈ l, x.va ≤ c) : bestW g l ≤ l.length * c := by
  obtain ⟨s, h1, _, h3⟩ := (best_is g l).ex
  rw [← h3]
  have h4 := sumW_le (l := s) fun x hx => h x (h1.subset hx)
  have h5 := h1.length_le
  exact Int.le_trans h4 (Int.mul_le_mul_of_nonneg_right (by omega) hc)
abbrev srtW (l : List Win) : Prop := l.Pairwise fun a b => a.to_ ≤ b.to_
def oneW (x : Win) : Prop := x.from_ < x.to_
/-- one more contact, behind all others in time -/
theorem best_snoc {g : Int} {l : List Win} {w : Win} (hg : 0 ≤ g) (hw : oneW w) (hv : ∀ x ∈ l, oneW x) (hs : ∀ x ∈ l, x.to_ ≤ w.to_) : bestW g (l ++ [w]) = max (bestW g l) (bestW g (l.filter fun x => decide (x.to_ + g ≤ w.from_)) + w.va) := by
  have hc : ∀ x ∈ l, cmpW g x w = true → x.to_ + g ≤ w.from_ := fun x hx h => by
    rw [cmpW_iff] at h
    have h1 := hs x hx
    have h2 : x.from_ < x.to_ := hv x hx
    omega
  refine (best_is g _).one ⟨fun s h1 h2 => ?_, ?_⟩
  · obtain ⟨s1, s2, e, p1, p2⟩ := List.sublist_append_iff.1 h1
    subst e
    rw [sumW_app]
    have hp := List.pairwise_append.1 h2
    have h3 : s2 = [] ∨ s2 = [w] := by
      cases p2 with
      | cons _ h => exact .inl (List.sublist_nil.1 h)
      | cons_cons _ h => exact .inr (by rw [List.sublist_nil.1 h])
    rcases h3 with rfl | rfl
    · have := (best_is g l).up s1 p1 hp.1
      simp only [sumW]; omega
    · have h4 : ∀ x ∈ s1, decide (x.to_ + g ≤ w.from_) = true := fun x hx => decide_eq_true (hc x (p1.subset hx) (hp.2.2 x hx w (by simp)))
      have := (best_is g (l.filter fun x => decide (x.to_ + g ≤ w.from_))).up s1 (sub_all p1 h4) hp.1
      simp only [sumW]; omega
  · obtain ⟨s1, a1, a2, a3⟩ := (best_is g l).ex
    obtain ⟨s2, b1, b2, b3⟩ := (best_is g (l.filter fun x => decide (x.to_ + g ≤ w.from_))).ex
    by_cases c : bestW g (l.filter fun x => decide (x.to_ + g ≤ w.from_)) + w.va ≤ bestW g l
    · exact ⟨s1, a1.trans (List.sublist_append_left _ _), a2, by omega⟩
    · refine ⟨s2 ++ [w], (b1.trans List.filter_sublist).append (List.Sublist.refl _), List.pairwise_append.2 ⟨b2, by simp, fun x hx y hy => ?_⟩, by rw [sumW_app]; simp only [sumW]; omega⟩
      rw [List.mem_singleton] at hy
      subst hy
      have := of_decide_eq_true (List.mem_filter.1 (b1.subset hx)).2
      rw [cmpW_iff]; omega
theorem bestN_eq {g : Int} {n : Nat} {l : List Win} (h : l.length ≤ n) : bestN g n l = bestW g l := (bestN_is g n l h).one (best_is g l)
theorem best_cons (g : Int) (w : Win) (l : List Win) : bestW g (w :: l) = max (bestW g l) (w.va + bestW g (l.filter (cmpW g w))) := by
  show max _ (w.va + bestN g l.length _) = _
  rw [bestN_eq (Nat.le_refl _), bestN_eq (List.length_filter_le _ _)]
theorem best_nil (g : Int) : bestW g [] = 0 := rfl
abbrev wAt (l : List Win) (k : Nat) : Win := l.getD k Win.zero
def valP (l : List Win) (q : List Nat) : Int := sumW (q.map (wAt l))
theorem valP_app (l : List Win) (p q : List Nat) : valP l (p ++ q) = valP l p + valP l q := by unfold valP; rw [List.map_append, sumW_app]
theorem valP_one (l : List Win) (k : Nat) : valP l [k] = (wAt l k).va := by simp [valP, sumW]
def fitP (g : Int) (l : List Win) (q : List Nat) (w : Win) : Bool := q.all fun k => cmpW g (wAt l k) w
def restP (g : Int) (l : List Win) (q : List Nat) (i : Nat) : List Win := (l.drop i).filter (fitP g l q)
def planN (g : Int) (l : List Win) (most : Int) : Nat → Nat → List Nat → List Nat
  | 0, _, q => q
  | n + 1, i, q => if most ≤ valP l q then q else if fitP g l q (wAt l i) && decide ((wAt l i).va + bestW g (restP g l (q ++ [i]) (i + 1)) = most - valP l q) then planN g l most n (i + 1) (q ++ [i]) else planN g l most n (i + 1) q
def planW (g : Int) (l : List Win) : List Nat := planN g l (bestW g l) l.length 0 []
structure IsPl (g : Int) (l : List Win) (q : List Nat) : Prop where
  asc : q.Pairwise (· < ·)
  lt : ∀ k ∈ q, k < l.length
  pw : pwW g (q.map (wAt l))
theorem drop_cons {l : List Win} {i : Nat} (h : i < l.length) : l.drop i = wAt l i :: l.drop (i + 1) := by
  rw [List.drop_eq_getElem_cons h]
  simp [wAt, List.getD_eq_getElem?_getD, List.getElem?_eq_getElem h]
theorem asc_sub (l : List Win) : ∀ (q : List Nat) (i : Nat), q.Pairwise (· < ·) → (∀ k ∈ q, i ≤ k ∧ k < l.length) → (q.map (wAt l)).Sublist (l.drop i)
  | [], _, _, _ => List.nil_sublist _
  | k :: q, i, h, hb => by
    have h1 := hb k (by simp)
    have h2 := List.pairwise_cons.1 h
    have h3 := asc_sub l q (k + 1) h2.2 fun j hj => ⟨h2.1 j hj, (hb j (by simp [hj])).2⟩
    have h4 : (List.map (wAt l) (k :: q)).Sublist (l.drop k) := by
      rw [drop_cons h1.2, List.map_cons]
      exact h3.cons_cons _
    refine h4.trans ?_
    have : l.drop k = (l.drop i).drop (k - i) := by rw [List.drop_drop]; congr 1; omega
    rw [this]
    exact List.drop_sublist _ _
theorem IsPl.le {g : Int} {l : List Win} {q : List Nat} (h : IsPl g l q) : valP l q ≤ bestW g l :=
  (best_is g l).up _ (by have := asc_sub l q 0 h.asc fun k hk => ⟨Nat.zero_le _, h.lt k hk⟩; rwa [List.drop_zero] at this) h.pw
theorem fitP_app {g : Int} {l : List Win} {q : List Nat} {i : Nat} {w : Win} : fitP g l (q ++ [i]) w = (fitP g l q w && cmpW g (wAt l i) w) := by
  unfold fitP; simp [List.all_append]
/-- the state of the search -/
structure Gre (g : Int) (l : List Win) (i : Nat) (q : List Nat) : Prop where
  pl : IsPl g l q
  lo : ∀ k ∈ q, k < i
  il : i ≤ l.length
  eq : valP l q + bestW g (restP g l q i) = bestW g l
theorem Gre.zero (g : Int) (l : List Win) : Gre g l 0 [] where
  pl := ⟨.nil, by simp, .nil⟩
  lo := by simp
  il := Nat.zero_le _
  eq := by
    have : restP g l [] 0 = l := by unfold restP; rw [List.drop_zero, List.filter_eq_self.2]; intro x _; rfl
    rw [this]; simp [valP, sumW]
theorem Gre.no {g : Int} {l : List Win} {i : Nat} {q : List Nat} (h : Gre g l i q) (hi : i < l.length) (hf : fitP g l q (wAt l i) = false) : Gre g l (i + 1) q where
  pl := h.pl
  lo := fun k hk => by have := h.lo k hk; omega
  il := hi
  eq := by
    rw [← h.eq]
    unfold restP
    rw [drop_cons hi, List.filter_cons, hf]; rfl
theorem rest_split {g : Int} {l : List Win} {i : Nat} {q : List Nat} (hi : i < l.length) (hf : fitP g l q (wAt l i) = true) : bestW g (restP g l q i) = max (bestW g (restP g l q (i + 1))) ((wAt l i).va + bestW g (restP g l (q ++ [i]) (i + 1))) := by
  have e : restP g l q i = wAt l i :: restP g l q (i + 1) := by
    unfold restP
    rw [drop_cons hi, List.filter_cons, hf]; rfl
  have e2 : (restP g l q (i + 1)).filter (cmpW g (wAt l i)) = restP g l (q ++ [i]) (i + 1) := by
    unfold restP
    rw [List.filter_filter]
    congr 1
    funext w
    rw [fitP_app, Bool.and_comm]
  rw [e, best_cons, e2]
theorem Gre.skip {g : Int} {l : List Win} {i : Nat} {q : List Nat} (h : Gre g l i q) (hi : i < l.length) (hf : fitP g l q (wAt l i) = true) (hn : ¬ (wAt l i).va + bestW g (restP g l (q ++ [i]) (i + 1)) = bestW g l - valP l q) : Gre g l (i + 1) q where
  pl := h.pl
  lo := fun k hk => by have := h.lo k hk; omega
  il := hi
  eq := by
    have h1 := h.eq
    rw [rest_split hi hf] at h1
    omega
theorem Gre.take {g : Int} {l : List Win} {i : Nat} {q : List Nat} (h : Gre g l i q) (hi : i < l.length) (hf : fitP g l q (wAt l i) = true) (hn : (wAt l i).va + bestW g (restP g l (q ++ [i]) (i + 1)) = bestW g l - valP l q) : Gre g l (i + 1) (q ++ [i]) where
  pl := by
    refine ⟨List.pairwise_append.2 ⟨h.pl.asc, by simp, fun a ha b hb => ?_⟩, fun k hk => ?_, ?_⟩
    · rw [List.mem_singleton] at hb; subst hb; exact h.lo a ha
    · rcases List.mem_append.1 hk with hk | hk
      · exact h.pl.lt k hk
      · rw [List.mem_singleton] at hk; omega
    · rw [List.map_append]
      refine List.pairwise_append.2 ⟨h.pl.pw, by simp, fun a ha b hb => ?_⟩
      obtain ⟨k, hk, rfl⟩ := List.mem_map.1 ha
      simp only [List.map_cons, List.map_nil, List.mem_singleton] at hb
      subst hb
      exact List.all_eq_true.1 hf k hk
  lo := fun k hk => by
    rcases List.mem_append.1 hk with hk | hk
    · have := h.lo k hk; omega
    · rw [List.mem_singleton] at hk; omega
  il := hi
  eq := by rw [valP_app, valP_one]; omega
theorem Gre.end {g : Int} {l : List Win} {i : Nat} {q : List Nat} (h : Gre g l i q) (he : l.length ≤ i ∨ bestW g l ≤ valP l q) : valP l q = bestW g l := by
  rcases he with he | he
  · have h1 := h.eq
    have : restP g l q i = [] := by unfold restP; rw [List.drop_of_length_le he]; rfl
    rw [this, best_nil] at h1
    omega
  · have := h.pl.le; omega
theorem planN_ok {g : Int} {l : List Win} : ∀ (n i : Nat) (q : List Nat), Gre g l i q → l.length ≤ i + n → IsPl g l (planN g l (bestW g l) n i q) ∧ valP l (planN g l (bestW g l) n i q) = bestW g l
  | 0, i, q, h, hn => ⟨h.pl, h.end (.inl hn)⟩
  | n + 1, i, q, h, hn => by
    unfold planN
    by_cases c1 : bestW g l ≤ valP l q
    · rw [if_pos c1]; exact ⟨h.pl, h.end (.inr c1)⟩
    · rw [if_neg c1]
      by_cases hi : i < l.length
      · cases hf : fitP g l q (wAt l i)
        · rw [Bool.false_and]
          exact planN_ok n (i + 1) q (h.no hi hf) (by omega)
        · rw [Bool.true_and]
          by_cases c2 : (wAt l i).va + bestW g (restP g l (q ++ [i]) (i + 1)) = bestW g l - valP l q
          · rw [if_pos (decide_eq_true c2)]
            exact planN_ok n (i + 1) _ (h.take hi hf c2) (by omega)
          · rw [if_neg (by simpa using c2)]
            exact planN_ok n (i + 1) _ (h.skip hi hf c2) (by omega)
      · have := h.end (.inl (by omega)); omega
theorem planW_ok (g : Int) (l : List Win) : IsPl g l (planW g l) ∧ valP l (planW g l) = bestW g l := planN_ok _ _ _ (Gre.zero g l) (by omega)
/-- the lesser of two lists of indices -/
def ltL : List Nat → List Nat → Bool
  | [], [] => false
  | [], _ :: _ => true
  | _ :: _, [] => false
  | a :: x, b :: y => if a = b then ltL x y else decide (a < b)
theorem ltL_app : ∀ (p x y : List Nat), ltL (p ++ x) (p ++ y) = ltL x y
  | [], _, _ => rfl
  | a :: p, x, y => by rw [List.cons_append, List.cons_append, ltL, if_pos rfl, ltL_app p]
theorem ltL_self : ∀ p : List Nat, ltL p p = false
  | [] => rfl
  | a :: p => by rw [ltL, if_pos rfl, ltL_self p]
theorem planN_pre {g : Int} {l : List Win} {m : Int} : ∀ (n i : Nat) (q : List Nat), ∃ r, planN g l m n i q = q ++ r
  | 0, _, q => ⟨[], by simp [planN]⟩
  | n + 1, i, q => by
    unfold planN
    split
    · exact ⟨[], by simp⟩
    · split
      · obtain ⟨r, h⟩ := planN_pre (g := g) (l := l) (m := m) n (i + 1) (q ++ [i])
        exact ⟨[i] ++ r, by rw [h, List.append_assoc]⟩
      · exact planN_pre n (i + 1) q
theorem planN_least {g : Int} {l : List Win} : ∀ (n i : Nat) (q r : List Nat), Gre g l i q → l.length ≤ i + n → IsPl g l (q ++ r) → valP l (q ++ r) = bestW g l → (∀ k ∈ r, i ≤ k) → ltL (q ++ r) (planN g l (bestW g l) n i q) = false
  | 0, i, q, r, h, hn, hp, hv, hr => by
    cases r with
    | nil => rw [List.append_nil]; exact ltL_self q
    | cons k r =>
      have h1 := hr k (by simp)
      have h2 := hp.lt k (by simp)
      omega
  | n + 1, i, q, r, h, hn, hp, hv, hr => by
    unfold planN
    by_cases c1 : bestW g l ≤ valP l q
    · rw [if_pos c1]
      have : ltL (q ++ r) (q ++ []) = false := by
        rw [ltL_app]
        cases r <;> rfl
      rwa [List.append_nil] at this
    · rw [if_neg c1]
      cases r with
      | nil => rw [List.append_nil] at hv; omega
      | cons k r =>
        have hk := hr k (by simp)
        have hkl := hp.lt k (by simp)
        have hi : i < l.length := by omega
        have hasc := List.pairwise_cons.1 (List.pairwise_append.1 hp.asc).2.1
        by_cases hki : k = i
        · subst hki
          have hpw := hp.pw
          rw [List.map_append, List.map_cons] at hpw
          have hpw' := List.pairwise_append.1 hpw
          have hc := List.pairwise_cons.1 hpw'.2.1
          have hf : fitP g l q (wAt l k) = true := List.all_eq_true.2 fun j hj => hpw'.2.2 _ (List.mem_map.2 ⟨j, hj, rfl⟩) _ (by simp)
          have hsub : (r.map (wAt l)).Sublist (restP g l (q ++ [k]) (k + 1)) := by
            unfold restP
            refine sub_all (asc_sub l r (k + 1) hasc.2 fun j hj => ⟨hasc.1 j hj, hp.lt j (by simp [hj])⟩) fun x hx => ?_
            rw [fitP_app, Bool.and_eq_true]
            exact ⟨List.all_eq_true.2 fun j hj => hpw'.2.2 _ (List.mem_map.2 ⟨j, hj, rfl⟩) _ (by simp only [List.mem_cons]; exact .inr hx), hc.1 x hx⟩
          have hle : valP l r ≤ bestW g (restP g l (q ++ [k]) (k + 1)) := (best_is g _).up _ hsub hc.2
          have h1 : valP l q + ((wAt l k).va + valP l r) = bestW g l := by
            rw [← hv, show q ++ k :: r = q ++ ([k] ++ r) from rfl, valP_app, valP_app, valP_one]
          have h2 := h.eq
          rw [rest_split hi hf] at h2
          have c2 : (wAt l k).va + bestW g (restP g l (q ++ [k]) (k + 1)) = bestW g l - valP l q := by omega
          rw [hf, Bool.true_and, if_pos (decide_eq_true c2)]
          have e : q ++ k :: r = (q ++ [k]) ++ r := by simp
          rw [e] at hp hv ⊢
          exact planN_least n (k + 1) _ r (h.take hi hf c2) (by omega) hp hv fun j hj => hasc.1 j hj
        · have hr' : ∀ j ∈ k :: r, i + 1 ≤ j := fun j hj => by
            rcases List.mem_cons.1 hj with rfl | hj
            · omega
            · have := hasc.1 j hj; omega
          cases hf : fitP g l q (wAt l i)
          · rw [Bool.false_and]
            exact planN_least n (i + 1) q _ (h.no hi hf) (by omega) hp hv hr'
          · rw [Bool.true_and]
            by_cases c2 : (wAt l i).va + bestW g (restP g l (q ++ [i]) (i + 1)) = bestW g l - valP l q
            · rw [if_pos (decide_eq_true c2)]
              obtain ⟨t, ht⟩ := planN_pre (g := g) (l := l) (m := bestW g l) n (i + 1) (q ++ [i])
              rw [ht, List.append_assoc, ltL_app]
              show (if k = i then _ else decide (k < i)) = false
              rw [if_neg hki]
              exact decide_eq_false (by omega)
            · rw [if_neg (by simpa using c2)]
              exact planN_least n (i + 1) q _ (h.skip hi hf c2) (by omega) hp hv hr'
theorem planW_least {g : Int} {l : List Win} {q : List Nat} (hp : IsPl g l q) (hv : valP l q = bestW g l) : ltL q (planW g l) = false :=
  planN_least _ 0 [] q (Gre.zero g l) (by omega) hp hv fun _ _ => Nat.zero_le _
end Go.V
namespace Go.V
def vldW (w : Win) : Bool := decide (0 ≤ w.st) && decide (w.st ≤ 65535) && decide (0 ≤ w.from_) && decide (w.from_ < w.to_) && decide (w.to_ ≤ 1099511627776) && decide (0 ≤ w.va) && decide (w.va ≤ 2147483648)
theorem vldW_iff (w : Win) : vldW w = true ↔ (0 ≤ w.st ∧ w.st ≤ 65535) ∧ 0 ≤ w.from_ ∧ w.from_ < w.to_ ∧ w.to_ ≤ 1099511627776 ∧ 0 ≤ w.va ∧ w.va ≤ 2147483648 := by
  unfold vldW; simp only [Bool.and_eq_true, decide_eq_true_eq]; omega
def rngW (w : Win) : Rng := ⟨w.from_, w.to_⟩
/-- the merged ranges -/
def mrgW (l : List Win) : List Rng := ofL ((l.filter vldW).map rngW)
theorem mrg_vld (l : List Win) : Vld (mrgW l) := of_vld _
theorem mrg_mem (l : List Win) (n : Int) : hasB (mrgW l) n = l.any fun w => vldW w && decide (w.from_ ≤ n) && decide (n < w.to_) := by
  rw [Bool.eq_iff_iff, hasB_iff]
  unfold mrgW
  rw [of_mem, List.any_eq_true]
  unfold memR
  constructor
  · rintro ⟨r, hr, h⟩
    obtain ⟨w, hw, rfl⟩ := List.mem_map.1 hr
    have := List.mem_filter.1 hw
    exact ⟨w, this.1, by rw [this.2]; simpa [rngW] using h⟩
  · rintro ⟨w, hw, h⟩
    simp only [Bool.and_eq_true, decide_eq_true_eq] at h
    exact ⟨rngW w, List.mem_map.2 ⟨w, List.mem_filter.2 ⟨hw, h.1.1⟩, rfl⟩, h.1.2, h.2⟩
/-- the program's way -/
theorem mrg_join {l d : List Win} (hp : d.Perm (l.filter vldW)) (hs : d.Pairwise fun a b => a.from_ ≤ b.from_) : (d.map rngW).foldl joinS [] = mrgW l := by
  have hne : ∀ r ∈ (l.filter vldW).map rngW, r.from_ < r.to_ := fun r hr => by
    obtain ⟨w, hw, rfl⟩ := List.mem_map.1 hr
    have := (vldW_iff w).1 (List.mem_filter.1 hw).2
    exact this.2.2.1
  refine normal_eq (l := (l.filter vldW).map rngW) ?_ ?_
  · rw [List.filter_eq_self.2 fun r hr => by have := hne r hr; simp [neR]; exact this]
    exact hp.map _
  · rw [List.pairwise_map]
    exact hs
/-- the specification's way: one contact more -/
def MrgI (out : List Rng) (r : Rng) (k : Nat) (x : Rng) (bf af : List Rng) : Prop :=
  (af = [] ∧ insL out r = bf ++ insL (out.drop k) x) ∨
  (af = [] ∧ insL out r = bf ++ insR (out.drop k) x ∧ ∀ y ∈ out.drop k, x.from_ ≤ y.to_) ∨
  (insL out r = bf ++ x :: (af ++ out.drop k) ∧ ∀ y ∈ out.drop k, x.to_ < y.from_ ∧ x.from_ ≤ y.to_)
theorem MrgI.zero (out : List Rng) (r : Rng) : MrgI out r 0 r [] [] := .inl ⟨rfl, rfl⟩
theorem MrgI.done {out : List Rng} {r x : Rng} {k : Nat} {bf af : List Rng} (h : MrgI out r k x bf af) (hk : out.length ≤ k) : bf ++ [x] ++ af = insL out r := by
  have e : out.drop k = [] := List.drop_of_length_le hk
  rcases h with ⟨rfl, h⟩ | ⟨rfl, h, _⟩ | ⟨h, _⟩
  · rw [h, e]; simp [insL]
  · rw [h, e]; simp [insR]
  · rw [h, e]; simp
theorem drop_consR {l : List Rng} {i : Nat} (h : i < l.length) : l.drop i = rAt l i :: l.drop (i + 1) := by
  rw [List.drop_eq_getElem_cons h]
  simp [rAt, List.getD_eq_getElem?_getD, List.getElem?_eq_getElem h]
theorem vld_behind {out : List Rng} {k : Nat} (hv : Vld out) (hk : k < out.length) : (rAt out k).from_ < (rAt out k).to_ ∧ ∀ y ∈ out.drop (k + 1), (rAt out k).to_ < y.from_ ∧ y.from_ < y.to_ := by
  have hd : Vld (out.drop k) := ⟨fun r hr => hv.ne r (List.mem_of_mem_drop hr), hv.ap.sublist (List.drop_sublist _ _)⟩
  rw [drop_consR hk] at hd
  exact ⟨hd.head.1, fun y hy => ⟨hd.head.2 y hy, hd.ne y (by simp [hy])⟩⟩
theorem MrgI.before {out : List Rng} {r x : Rng} {k : Nat} {bf af : List Rng} (h : MrgI out r k x bf af) (hk : k < out.length) (hc : (rAt out k).to_ < x.from_) : MrgI out r (k + 1) x (bf ++ [rAt out k]) af := by
  rcases h with ⟨rfl, h⟩ | ⟨rfl, h, h2⟩ | ⟨h, h2⟩
  · refine .inl ⟨rfl, ?_⟩
    rw [h, drop_consR hk, insL, if_pos hc, List.append_assoc]; rfl
  · have := h2 (rAt out k) (by rw [drop_consR hk]; simp)
    omega
  · have := (h2 (rAt out k) (by rw [drop_consR hk]; simp)).2
    omega
theorem MrgI.after {out : List Rng} {r x : Rng} {k : Nat} {bf af : List Rng} (hv : Vld out) (h : MrgI out r k x bf af) (hk : k < out.length) (hb : ¬ (rAt out k).to_ < x.from_) (hc : x.to_ < (rAt out k).from_) : MrgI out r (k + 1) x bf (af ++ [rAt out k]) := by
  obtain ⟨v1, v2⟩ := vld_behind hv hk
  have hr : ∀ y ∈ out.drop (k + 1), x.to_ < y.from_ ∧ x.from_ ≤ y.to_ := fun y hy => by have := v2 y hy; omega
  refine .inr (.inr ⟨?_, hr⟩)
  rcases h with ⟨rfl, h⟩ | ⟨rfl, h, h2⟩ | ⟨h, h2⟩
  · rw [h, drop_consR hk, insL, if_neg hb, insR, if_neg (by omega)]; simp
  · rw [h, drop_consR hk, insR, if_neg (by omega)]; simp
  · rw [h, drop_consR hk]; simp
theorem MrgI.hull {out : List Rng} {r x : Rng} {k : Nat} {bf af : List Rng} (hv : Vld out) (h : MrgI out r k x bf af) (hk : k < out.length) (hb : ¬ (rAt out k).to_ < x.from_) (hc : ¬ x.to_ < (rAt out k).from_) : MrgI out r (k + 1) ⟨min x.from_ (rAt out k).from_, max x.to_ (rAt out k).to_⟩ bf af := by
  obtain ⟨v1, v2⟩ := vld_behind hv hk
  have hr : ∀ y ∈ out.drop (k + 1), min x.from_ (rAt out k).from_ ≤ y.to_ := fun y hy => by have := v2 y hy; omega
  rcases h with ⟨rfl, h⟩ | ⟨rfl, h, h2⟩ | ⟨h, h2⟩
  · refine .inr (.inl ⟨rfl, ?_, hr⟩)
    rw [h, drop_consR hk, insL, if_neg hb, insR, if_pos (by omega)]
  · refine .inr (.inl ⟨rfl, ?_, hr⟩)
    rw [h, drop_consR hk, insR, if_pos (by omega)]
  · have := (h2 (rAt out k) (by rw [drop_consR hk]; simp)).1
    omega
theorem take_snocW {l : List Win} {k : Nat} (h : k < l.length) : l.take (k + 1) = l.take k ++ [wAt l k] := by
  rw [List.take_succ_eq_append_getElem h]
  simp [wAt, List.getD_eq_getElem?_getD, List.getElem?_eq_getElem h]
theorem mrg_add {l : List Win} {k : Nat} (hk : k < l.length) (hv : vldW (wAt l k) = true) : mrgW (l.take (k + 1)) = insL (mrgW (l.take k)) (rngW (wAt l k)) := by
  unfold mrgW
  rw [take_snocW hk, List.filter_append, List.map_append, List.filter_cons, hv]
  show ofL (_ ++ [rngW (wAt l k)]) = _
  rw [of_add]
  unfold insF
  rw [if_neg]
  have := (vldW_iff _).1 hv
  show ¬ (wAt l k).to_ ≤ (wAt l k).from_
  omega
theorem mrg_skip {l : List Win} {k : Nat} (hk : k < l.length) (hv : vldW (wAt l k) = false) : mrgW (l.take (k + 1)) = mrgW (l.take k) := by
  unfold mrgW
  rw [take_snocW hk, List.filter_append, List.filter_cons, hv]
  simp
/-- a contact in progress -/
def inW (now : Int) (w : Win) : Bool := vldW w && decide (w.from_ ≤ now) && decide (now < w.to_)
/-- the earliest contact to come among the first ones -/
def mnx (l : List Win) (now : Int) : Nat → Int
  | 0 => -1
  | k + 1 => if vldW (wAt l k) = true ∧ now < (wAt l k).from_ ∧ (mnx l now k < 0 ∨ (wAt l k).from_ < (wAt l (mnx l now k).toNat).from_) then k else mnx l now k
theorem mnx_bd (l : List Win) (now : Int) : ∀ k : Nat, -1 ≤ mnx l now k ∧ mnx l now k < k ∧ (0 ≤ mnx l now k → vldW (wAt l (mnx l now k).toNat) = true ∧ now < (wAt l (mnx l now k).toNat).from_)
  | 0 => ⟨by show (-1 : Int) ≤ -1; decide, by show (-1 : Int) < 0; decide, fun h => absurd (show (0 : Int) ≤ -1 from h) (by decide)⟩
  | k + 1 => by
    have ih := mnx_bd l now k
    unfold mnx
    split
    · rename_i h
      refine ⟨by omega, by omega, fun _ => ?_⟩
      rw [Int.toNat_natCast]
      exact ⟨h.1, h.2.1⟩
    · exact ⟨ih.1, by omega, ih.2.2⟩
def fstW (p : Win → Bool) : List Win → Nat → Int
  | [], _ => -1
  | x :: l, k => if p x then k else fstW p l (k + 1)
theorem fstW_none {p : Win → Bool} : ∀ {l : List Win} {k : Nat}, (∀ x ∈ l, p x = false) → fstW p l k = -1
  | [], _, _ => rfl
  | x :: l, k, h => by rw [fstW, h x (by simp)]; exact fstW_none fun y hy => h y (by simp [hy])
theorem fstW_at {p : Win → Bool} : ∀ {l : List Win} {j k : Nat}, j < l.length → (∀ i, i < j → p (wAt l i) = false) → p (wAt l j) = true → fstW p l k = ((k + j : Nat) : Int)
  | [], j, _, h, _, _ => by simp at h
  | x :: l, 0, k, _, _, h => by
    have : p x = true := h
    rw [fstW, if_pos this, Nat.add_zero]
  | x :: l, j + 1, k, hl, h0, h => by
    have h1 : p x = false := h0 0 (by omega)
    rw [fstW, h1]
    simp only [Bool.false_eq_true, if_false]
    rw [fstW_at (j := j) (by simpa using hl) (fun i hi => h0 (i + 1) (by omega)) h]
    congr 1; omega
theorem fstW_cases (p : Win → Bool) : ∀ (l : List Win), (∀ x ∈ l, p x = false) ∨ ∃ j, j < l.length ∧ (∀ i, i < j → p (wAt l i) = false) ∧ p (wAt l j) = true
  | [] => .inl fun x h => by cases h
  | x :: l => by
    cases h : p x
    · rcases fstW_cases p l with q | ⟨j, h1, h2, h3⟩
      · exact .inl fun y hy => by rcases List.mem_cons.1 hy with rfl | hy; exact h; exact q y hy
      · refine .inr ⟨j + 1, by simpa using h1, fun i hi => ?_, h3⟩
        cases i with
        | zero => exact h
        | succ i => exact h2 i (by omega)
    · exact .inr ⟨0, by simp, fun i hi => absurd hi (by omega), h⟩
def nextI (l : List Win) (now : Int) : Int := if 0 ≤ fstW (inW now) l 0 then fstW (inW now) l 0 else max (mnx l now l.length) 0
def nextB (l : List Win) (now : Int) : Bool := decide (0 ≤ fstW (inW now) l 0) || decide (0 ≤ mnx l now l.length)
theorem next_in {l : List Win} {now : Int} {j : Nat} (h1 : j < l.length) (h2 : ∀ i, i < j → inW now (wAt l i) = false) (h3 : inW now (wAt l j) = true) : nextI l now = j ∧ nextB l now = true := by
  have e : fstW (inW now) l 0 = j := by rw [fstW_at h1 h2 h3]; omega
  unfold nextI nextB
  rw [e, if_pos (by omega)]
  exact ⟨rfl, by rw [decide_eq_true (show (0 : Int) ≤ j by omega)]; rfl⟩
theorem next_out {l : List Win} {now : Int} (h : ∀ i, i < l.length → inW now (wAt l i) = false) : nextI l now = max (mnx l now l.length) 0 ∧ nextB l now = decide (0 ≤ mnx l now l.length) := by
  have e : fstW (inW now) l 0 = -1 := fstW_none fun x hx => by
    obtain ⟨i, hi, rfl⟩ := List.getElem_of_mem hx
    have := h i hi
    simpa [wAt, List.getD_eq_getElem?_getD, List.getElem?_eq_getElem hi] using this
  unfold nextI nextB
  rw [e]
  exact ⟨rfl, by simp⟩
end Go.V
