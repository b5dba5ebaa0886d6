/-
  archive: the program and the reference agree (plain).
  archive: gaps and items agree (plain).
  ArchiveParts: application processes are independent.
  ArchiveAdds: items are accepted, and gaps and items returned, as specified.
  From the arguments of a given statement to abstract values: what is read as data lies for good.
  The arguments of the statements of chapter 52 as abstract values.
-/
import Derived.Test.YtoohlpieakeecaaPart21
import Derived.ChangeArms
import Derived.ChangeShapes
import Derived.ChangeReads
import Derived.DataReads
import Derived.Below
import Derived.OpenShut
import Derived.RowKit
import Derived.Carry
set_option linter.unusedVariables false
set_option linter.unusedSimpArgs false
set_option maxRecDepth 100000
set_option maxHeartbeats 8000000
namespace Go.V
open Go.Proofs
def enR (x : Ent) : REnt := ⟨x.apid, x.cnt, x.time, x.data, x.count⟩
def srtE (xs : List Ent) : Prop := xs.Pairwise fun x y => x.count < y.count
structure Agree (ps : List Prc) (rs : List REnt) : Prop where
  perm : ∀ a, (rs.filter (isA a)).Perm ((getP ps a).map enR)
  srt : ∀ a, srtE (getP ps a)
  cnt : ∀ a, ∀ x ∈ getP ps a, x.apid = a ∧ x.cnt = x.count % 16384
  len : lenP ps = rs.length
/-! ### sorted -/
def insQ (lt : REnt → REnt → Bool) : List REnt → REnt → List REnt
  | [], x => [x]
  | y :: A, x => if lt x y = true then y :: insQ lt A x else x :: y :: A
theorem sAt_app1 {A C : List REnt} {x : REnt} : sAt (A ++ x :: C) A.length = x := by
  show (A ++ x :: C).getD A.length REnt.zero = x
  rw [List.getD_eq_getElem?_getD, List.getElem?_append_right (Nat.le_refl _), Nat.sub_self]; rfl
theorem bub_insQ (lt : REnt → REnt → Bool) : ∀ (R C : List REnt) (x : REnt), bub lt (R.reverse ++ x :: C) R.length = (insQ lt R x).reverse ++ C
  | [], C, x => rfl
  | y :: R, C, x => by
    have e1 : sAt ((y :: R).reverse ++ x :: C) (R.length + 1) = x := by
      have := sAt_app1 (A := (y :: R).reverse) (C := C) (x := x)
      rw [List.length_reverse] at this; exact this
    have e0 : (y :: R).reverse ++ x :: C = R.reverse ++ y :: x :: C := by simp
    have e2 : sAt ((y :: R).reverse ++ x :: C) R.length = y := by
      rw [e0]
      have := sAt_app1 (A := R.reverse) (C := x :: C) (x := y)
      rw [List.length_reverse] at this; exact this
    show (if lt (sAt _ (R.length + 1)) (sAt _ R.length) = true then bub lt (swp _ R.length) R.length else _) = _
    rw [e1, e2]
    by_cases c : lt x y = true
    · rw [if_pos c]
      have e3 : swp ((y :: R).reverse ++ x :: C) R.length = R.reverse ++ x :: y :: C := by
        unfold swp
        rw [e1, e2, e0]
        have h1 : (R.reverse ++ y :: x :: C).set (R.length + 1) y = R.reverse ++ y :: y :: C := by
          rw [List.set_append_right _ _ (by simp), List.length_reverse, Nat.add_sub_cancel_left]; rfl
        rw [h1, List.set_append_right _ _ (by simp), List.length_reverse, Nat.sub_self]; rfl
      rw [e3, bub_insQ lt R (y :: C) x]
      show _ = (if lt x y = true then y :: insQ lt R x else x :: y :: R).reverse ++ C
      rw [if_pos c]
      simp
    · rw [if_neg c]
      show _ = (if lt x y = true then y :: insQ lt R x else x :: y :: R).reverse ++ C
      rw [if_neg c]
      simp
theorem insQ_perm (lt : REnt → REnt → Bool) : ∀ (A : List REnt) (x : REnt), (insQ lt A x).Perm (x :: A)
  | [], _ => .refl _
  | y :: A, x => by
    unfold insQ
    split
    · exact ((insQ_perm lt A x).cons y).trans (.swap x y A)
    · exact .refl _
theorem insQ_len (lt : REnt → REnt → Bool) (A : List REnt) (x : REnt) : (insQ lt A x).length = A.length + 1 := by
  rw [(insQ_perm lt A x).length_eq]; rfl
def accR (lt : REnt → REnt → Bool) (l : List REnt) : List REnt := l.foldl (insQ lt) []
theorem accR_next (lt : REnt → REnt → Bool) {l : List REnt} {k : Nat} (h : k < l.length) : accR lt (l.take (k + 1)) = insQ lt (accR lt (l.take k)) l[k] := by
  unfold accR
  rw [List.take_succ_eq_append_getElem h, List.foldl_append]; rfl
theorem accR_len (lt : REnt → REnt → Bool) (l : List REnt) : ∀ k, k ≤ l.length → (accR lt (l.take k)).length = k
  | 0, _ => rfl
  | k + 1, h => by rw [accR_next lt (by omega), insQ_len, accR_len lt l k (by omega)]
theorem oS_acc (lt : REnt → REnt → Bool) (l : List REnt) : ∀ i, i ≤ l.length → oS lt l i = (accR lt (l.take i)).reverse ++ l.drop i
  | 0, _ => rfl
  | i + 1, h => by
    show bub lt (oS lt l i) i = _
    have hl := accR_len lt l i (by omega)
    rw [oS_acc lt l i (by omega), List.drop_eq_getElem_cons (by omega : i < l.length)]
    have := bub_insQ lt (accR lt (l.take i)) (l.drop (i + 1)) (l[i])
    rw [hl] at this
    rw [this, accR_next lt (by omega)]
theorem sortR_acc (lt : REnt → REnt → Bool) (l : List REnt) : sortR lt l = (accR lt l).reverse := by
  unfold sortR
  by_cases c : l.length = 0
  · obtain rfl := List.eq_nil_of_length_eq_zero c
    rfl
  · rw [Nat.max_eq_right (by omega), oS_acc lt l _ (Nat.le_refl _), List.take_length, List.drop_length, List.append_nil]
theorem accR_perm (lt : REnt → REnt → Bool) (l : List REnt) : (accR lt l).Perm l := by
  have key : ∀ (l acc : List REnt), (l.foldl (insQ lt) acc).Perm (l ++ acc) := by
    intro l
    induction l with
    | nil => intro acc; exact .refl _
    | cons x l ih =>
      intro acc
      refine (ih (insQ lt acc x)).trans ?_
      refine ((insQ_perm lt acc x).append_left l).trans ?_
      exact List.perm_middle
  have := key l []
  rwa [List.append_nil] at this
/-- a strict order whose ties form classes -/
structure OrdQ (lt : REnt → REnt → Bool) : Prop where
  asym : ∀ x y, lt x y = true → lt y x = false
  ntr : ∀ x y z, lt x y = false → lt y z = false → lt x z = false
theorem insQ_sorted {lt : REnt → REnt → Bool} (o : OrdQ lt) : ∀ {A : List REnt} {x : REnt}, A.Pairwise (fun p q => lt p q = false) → (insQ lt A x).Pairwise (fun p q => lt p q = false)
  | [], _, _ => by simp [insQ]
  | y :: A, x, h => by
    obtain ⟨h1, h2⟩ := List.pairwise_cons.1 h
    unfold insQ
    split
    · rename_i c
      refine List.pairwise_cons.2 ⟨fun z hz => ?_, insQ_sorted o h2⟩
      rcases List.mem_cons.1 ((insQ_perm lt A x).mem_iff.1 hz) with rfl | hz
      · exact o.asym _ _ c
      · exact h1 z hz
    · rename_i c
      have c : lt x y = false := by cases q : lt x y <;> simp_all
      refine List.pairwise_cons.2 ⟨fun z hz => ?_, h⟩
      rcases List.mem_cons.1 hz with rfl | hz
      · exact c
      · exact o.ntr _ _ _ c (h1 z hz)
theorem accR_sorted {lt : REnt → REnt → Bool} (o : OrdQ lt) (l : List REnt) : (accR lt l).Pairwise (fun p q => lt p q = false) := by
  have key : ∀ (l acc : List REnt), acc.Pairwise (fun p q => lt p q = false) → (l.foldl (insQ lt) acc).Pairwise (fun p q => lt p q = false) := by
    intro l
    induction l with
    | nil => intro acc h; exact h
    | cons x l ih => intro acc h; exact ih _ (insQ_sorted o h)
  exact key l [] .nil
theorem sortR_sorted {lt : REnt → REnt → Bool} (o : OrdQ lt) (l : List REnt) : (sortR lt l).Pairwise (fun p q => lt q p = false) := by
  rw [sortR_acc]
  exact List.pairwise_reverse.2 (accR_sorted o l)
theorem sortR_perm (lt : REnt → REnt → Bool) (l : List REnt) : (sortR lt l).Perm l := by
  rw [sortR_acc]
  exact (List.reverse_perm _).trans (accR_perm lt l)
theorem sort_one {lt : REnt → REnt → Bool} (ha : ∀ x y, lt x y = true → lt y x = false) : ∀ {l m : List REnt}, l.Perm m → l.Pairwise (fun p q => lt q p = false) → m.Pairwise (fun p q => lt p q = true) → l = m
  | [], m, hp, _, _ => (List.nil_perm.1 hp).symm
  | x :: l, [], hp, _, _ => by have := hp.length_eq; simp at this
  | x :: l, y :: m, hp, h1, h2 => by
    obtain ⟨a1, a2⟩ := List.pairwise_cons.1 h1
    obtain ⟨b1, b2⟩ := List.pairwise_cons.1 h2
    have hy : y ∈ x :: l := hp.mem_iff.2 (by simp)
    have hx : x ∈ y :: m := hp.mem_iff.1 (by simp)
    have e : x = y := by
      rcases List.mem_cons.1 hx with q | q
      · exact q
      · rcases List.mem_cons.1 hy with r | r
        · exact r.symm
        · have s1 := b1 x q
          have s2 := a1 y r
          rw [s1] at s2; cases s2
    subst e
    rw [sort_one ha ((List.perm_cons x).1 hp) a2 b2]
theorem ordC : OrdQ ltC := by
  constructor
  · intro x y h; unfold ltC at *; simp at *; omega
  · intro x y z h1 h2; unfold ltC at *; simp at *; omega
/-! ### Extend -/
theorem extS_spec (rs : List REnt) (a : Int) : (extS rs a = none ∧ rs.filter (isA a) = []) ∨ ∃ e, extS rs a = some e ∧ (∃ r ∈ rs.filter (isA a), r.count = e) ∧ ∀ r ∈ rs.filter (isA a), r.count ≤ e := by
  have key : ∀ (rs S : List REnt) (o : Option Int), ((o = none ∧ S = []) ∨ ∃ e, o = some e ∧ (∃ r ∈ S, r.count = e) ∧ ∀ r ∈ S, r.count ≤ e) →
      ((rs.foldl (extStep a) o = none ∧ S ++ rs.filter (isA a) = []) ∨ ∃ e, rs.foldl (extStep a) o = some e ∧ (∃ r ∈ S ++ rs.filter (isA a), r.count = e) ∧ ∀ r ∈ S ++ rs.filter (isA a), r.count ≤ e) := by
    intro rs
    induction rs with
    | nil => intro S o h; simpa using h
    | cons x rs ih =>
      intro S o h
      by_cases c : x.apid = a
      · have hf : (x :: rs).filter (isA a) = x :: rs.filter (isA a) := List.filter_cons_of_pos (by unfold isA; exact decide_eq_true c)
        have := ih (S ++ [x]) (extStep a o x) (by
          right
          unfold extStep
          rw [if_pos c]
          rcases h with ⟨rfl, rfl⟩ | ⟨e, rfl, ⟨r, hr, he⟩, hm⟩
          · exact ⟨x.count, rfl, ⟨x, by simp, rfl⟩, fun r hr => by simp at hr; rw [hr]; exact Int.le_refl _⟩
          · by_cases c2 : e < x.count
            · refine ⟨x.count, if_pos c2, ⟨x, by simp, rfl⟩, fun r hr => ?_⟩
              rcases List.mem_append.1 hr with hr | hr
              · have := hm r hr; omega
              · simp at hr; rw [hr]; exact Int.le_refl _
            · refine ⟨e, if_neg c2, ⟨r, by simp [hr], he⟩, fun r hr => ?_⟩
              rcases List.mem_append.1 hr with hr | hr
              · exact hm r hr
              · simp at hr; rw [hr]; omega)
        rw [List.append_assoc] at this
        rw [hf]
        exact this
      · have hf : (x :: rs).filter (isA a) = rs.filter (isA a) := List.filter_cons_of_neg (by unfold isA; rw [decide_eq_false c]; decide)
        rw [hf]
        have hs : extStep a o x = o := if_neg c
        show ((rs.foldl (extStep a) (extStep a o x)) = none ∧ _) ∨ ∃ e, rs.foldl (extStep a) (extStep a o x) = some e ∧ _
        rw [hs]
        exact ih S o h
  have := key rs [] none (.inl ⟨rfl, rfl⟩)
  rw [List.nil_append] at this
  exact this
theorem last_max {xs : List Ent} (h : srtE xs) (hn : 0 < xs.length) : eAt xs (xs.length - 1) ∈ xs ∧ ∀ x ∈ xs, x.count ≤ (eAt xs (xs.length - 1)).count := by
  have hne : xs ≠ [] := List.length_pos_iff.1 hn
  have e : eAt xs (xs.length - 1) = xs.getLast hne := by
    show xs.getD _ Ent.zero = _
    rw [List.getD_eq_getElem?_getD, ← List.getLast?_eq_getElem?, List.getLast?_eq_some_getLast hne]; rfl
  rw [e]
  refine ⟨List.getLast_mem hne, fun x hx => ?_⟩
  have hq := List.dropLast_concat_getLast hne
  have h2 := h
  rw [← hq] at hx h2
  rcases List.mem_append.1 hx with q | q
  · exact Int.le_of_lt ((List.pairwise_append.1 h2).2.2 x q _ (by simp))
  · rw [List.mem_singleton.1 q]; exact Int.le_refl _
theorem Agree.ext {ps : List Prc} {rs : List REnt} (h : Agree ps rs) (a c : Int) : extR rs a c = if (getP ps a).length = 0 then c else Go.V.ext (eAt (getP ps a) ((getP ps a).length - 1)).count c := by
  have hp := h.perm a
  unfold extR
  rcases extS_spec rs a with ⟨h1, h2⟩ | ⟨e, h1, ⟨r, hr, hre⟩, h3⟩
  · rw [h1]
    have : (getP ps a).length = 0 := by
      have := hp.length_eq
      rw [h2, List.length_map] at this
      exact this.symm
    rw [if_pos this]
  · rw [h1]
    have hl : 0 < (getP ps a).length := by
      have := hp.length_eq
      rw [List.length_map] at this
      rw [← this]
      exact List.length_pos_of_mem hr
    rw [if_neg (by omega)]
    obtain ⟨m1, m2⟩ := last_max (h.srt a) hl
    have q1 : (eAt (getP ps a) ((getP ps a).length - 1)).count ≤ e := h3 _ (hp.mem_iff.2 (List.mem_map.2 ⟨_, m1, rfl⟩))
    obtain ⟨x, hx, hxr⟩ := List.mem_map.1 (hp.mem_iff.1 hr)
    have q2 := m2 x hx
    have q3 : x.count = e := by rw [← hre, ← hxr]; rfl
    show Go.V.ext e c = _
    rw [show e = (eAt (getP ps a) ((getP ps a).length - 1)).count by omega]
/-! ### Add -/
theorem splitE : ∀ (xs : List Ent) (e : Int), srtE xs → ∃ A B, xs = A ++ B ∧ (∀ x ∈ A, x.count < e) ∧ (∀ x ∈ B, e ≤ x.count)
  | [], e, _ => ⟨[], [], rfl, by simp, by simp⟩
  | x :: xs, e, h => by
    obtain ⟨h1, h2⟩ := List.pairwise_cons.1 h
    by_cases c : x.count < e
    · obtain ⟨A, B, q, g1, g2⟩ := splitE xs e h2
      refine ⟨x :: A, B, by rw [q]; rfl, fun y hy => ?_, g2⟩
      rcases List.mem_cons.1 hy with rfl | hy
      · exact c
      · exact g1 y hy
    · refine ⟨[], x :: xs, rfl, by simp, fun y hy => ?_⟩
      rcases List.mem_cons.1 hy with rfl | hy
      · omega
      · have := h1 y hy; omega
theorem posE_split {A B : List Ent} {e : Int} (h1 : ∀ x ∈ A, x.count < e) (h2 : ∀ x ∈ B, e ≤ x.count) : posE (A ++ B) e (A ++ B).length = A.length := by
  have hl : (A ++ B).length = A.length + B.length := List.length_append
  refine posE_at (fun k hk => ?_) _ (by rw [hl]; omega) fun k a b => ?_
  · refine h1 _ ?_
    show (A ++ B).getD k Ent.zero ∈ A
    rw [List.getD_eq_getElem?_getD, List.getElem?_append_left (by omega), List.getElem?_eq_getElem (by omega)]
    exact List.getElem_mem _
  · refine h2 _ ?_
    show (A ++ B).getD k Ent.zero ∈ B
    rw [List.getD_eq_getElem?_getD, List.getElem?_append_right a, List.getElem?_eq_getElem (by omega)]
    exact List.getElem_mem _
theorem addQ_cases (i : Itm) (e : Int) {xs : List Ent} (h : srtE xs) : (∃ x ∈ xs, x.count = e ∧ addQ i e xs = (xs, if x.time = i.time ∧ x.data = i.data then 9 else 4)) ∨
    ((∀ x ∈ xs, x.count ≠ e) ∧ ∃ A B, xs = A ++ B ∧ (∀ x ∈ A, x.count < e) ∧ (∀ x ∈ B, e < x.count) ∧ addQ i e xs = (A ++ newE i e :: B, 0)) := by
  obtain ⟨A, B, rfl, h1, h2⟩ := splitE xs e h
  unfold addQ
  rw [posE_split h1 h2]
  have hl : (A ++ B).length = A.length + B.length := List.length_append
  cases B with
  | nil =>
    right
    refine ⟨fun x hx => ?_, A, [], rfl, h1, by simp, ?_⟩
    · rw [List.append_nil] at hx; have := h1 x hx; omega
    · rw [if_neg (by rw [hl]; simp)]; simp
  | cons b B =>
    have e0 : eAt (A ++ b :: B) A.length = b := by
      show (A ++ b :: B).getD A.length Ent.zero = b
      rw [List.getD_eq_getElem?_getD, List.getElem?_append_right (Nat.le_refl _), Nat.sub_self]; rfl
    rw [e0]
    have hb := h2 b (by simp)
    have hB := (List.pairwise_cons.1 (List.pairwise_append.1 h).2.1).1
    by_cases c : b.count = e
    · left
      exact ⟨b, by simp, c, by rw [if_pos ⟨by rw [hl, List.length_cons]; omega, c⟩]⟩
    · right
      have hB2 : ∀ x ∈ b :: B, e < x.count := fun x hx => by
        rcases List.mem_cons.1 hx with rfl | hx
        · omega
        · have := hB x hx; omega
      refine ⟨fun x hx => ?_, A, b :: B, rfl, h1, hB2, ?_⟩
      · rcases List.mem_append.1 hx with q | q
        · have := h1 x q; omega
        · have := hB2 x q; omega
      · rw [if_neg (fun q => c q.2), List.take_left' rfl, List.drop_left' rfl]
theorem ext_mod (g c : Int) : Go.V.ext g c % 16384 = c % 16384 := by
  unfold Go.V.ext
  split <;> omega
theorem isA_iff {a : Int} {r : REnt} : isA a r = true ↔ r.apid = a := by unfold isA; exact decide_eq_true_iff
theorem lenP_app (A B : List Prc) : lenP (A ++ B) = lenP A + lenP B := by unfold lenP; rw [List.map_append, List.sum_append]
theorem lenP_cons (p : Prc) (B : List Prc) : lenP (p :: B) = p.list.length + lenP B := by unfold lenP; rw [List.map_cons, List.sum_cons]
/-- the program's and the reference's Add give the same -/
theorem Agree.add {ps : List Prc} {rs : List REnt} {n : Nat} (h : Agree ps rs) (hs : StP ps n) (i : Itm) : (addR rs i).2 = (addM i ps).2 ∧ Agree (addM i ps).1 (addR rs i).1 := by
  cases hr : rightB i with
  | false =>
    unfold addR addM
    rw [if_pos hr, if_pos hr]
    exact ⟨rfl, h⟩
  | true =>
    have R := rightB_of hr
    have hget := addM_get (i := i) hs
    have hres := addM_res (i := i) hs.srt
    rw [if_pos hr] at hres
    have hext := h.ext i.apid i.count
    have hcnt := h.cnt i.apid
    have hsrt := h.srt i.apid
    have hperm := h.perm i.apid
    obtain ⟨A, B, X, e, g1, g2, hX, hform⟩ := addM_form hs.srt hr
    have hX2 : (getP ps i.apid).length = lenP X := by
      rcases hX with ⟨rfl, q⟩ | ⟨b, rfl, -, q⟩
      · rw [q]; rfl
      · rw [q]; simp [lenP]
    have hlen : lenP (addM i ps).1 = lenP ps - (getP ps i.apid).length + (addL i (getP ps i.apid)).1.length := by
      rw [hform, e]
      show lenP (A ++ _ :: B) = _
      rw [lenP_app, lenP_cons, lenP_app, lenP_app, ← e, hX2]
      show _ + ((addL i (getP ps i.apid)).1.length + _) = _
      omega
    have hle : (getP ps i.apid).length ≤ lenP ps := by
      rw [hX2, e, lenP_app, lenP_app]; omega
    obtain ⟨xs, hxs⟩ : ∃ xs, getP ps i.apid = xs := ⟨_, rfl⟩
    rw [hxs] at hres hext hcnt hsrt hperm hlen hle
    obtain ⟨N, hN⟩ : ∃ N, extR rs i.apid i.count = N := ⟨_, rfl⟩
    have hNm : N % 16384 = i.count % 16384 := by
      rw [← hN, hext]
      split
      · rfl
      · exact ext_mod _ _
    have hAL : addL i xs = if xs.length = 0 then ([newE i N], 0) else addQ i N xs := by
      unfold addL
      rw [← hN, hext]
      by_cases c : xs.length = 0
      · rw [if_pos c, if_pos c, if_pos c]
      · rw [if_neg c, if_neg c, if_neg c]
    have hcase : (∃ x ∈ xs, x.count = N ∧ addL i xs = (xs, if x.time = i.time ∧ x.data = i.data then 9 else 4)) ∨ ((∀ x ∈ xs, x.count ≠ N) ∧ ∃ A B, xs = A ++ B ∧ (∀ x ∈ A, x.count < N) ∧ (∀ x ∈ B, N < x.count) ∧ addL i xs = (A ++ newE i N :: B, 0)) := by
      by_cases c : xs.length = 0
      · obtain rfl := List.eq_nil_of_length_eq_zero c
        right
        exact ⟨fun x hx => (by cases hx), [], [], rfl, fun x hx => (by cases hx), fun x hx => (by cases hx), hAL⟩
      · rw [hAL, if_neg c]
        exact addQ_cases i N hsrt
    have hmem : ∀ r, r ∈ rs ∧ hitB i.apid N r = true ↔ r ∈ xs.map enR ∧ r.count = N := fun r => by
      rw [← hperm.mem_iff, List.mem_filter]
      unfold hitB isA
      rw [Bool.and_eq_true, decide_eq_true_iff, decide_eq_true_iff]
      exact ⟨fun q => ⟨⟨q.1, q.2.1⟩, q.2.2⟩, fun q => ⟨q.1.1, q.1.2, q.2⟩⟩
    rcases hcase with ⟨x, hx, hxN, hal⟩ | ⟨hno, A2, B2, hAB, a1, a2, hal⟩
    · -- there already
      have hf : ∃ r, rs.find? (hitB i.apid N) = some r := by
        cases q : rs.find? (hitB i.apid N) with
        | some r => exact ⟨r, rfl⟩
        | none =>
          have := List.find?_eq_none.1 q (enR x) ((hmem _).2 ⟨List.mem_map.2 ⟨x, hx, rfl⟩, hxN⟩).1
          exact absurd ((hmem _).2 ⟨List.mem_map.2 ⟨x, hx, rfl⟩, hxN⟩).2 this
      obtain ⟨r, hf⟩ := hf
      have hr1 : r ∈ rs := List.mem_of_find?_eq_some hf
      have hr2 : hitB i.apid N r = true := List.find?_some hf
      obtain ⟨hr3, hr4⟩ := (hmem r).1 ⟨hr1, hr2⟩
      obtain ⟨y, hy, rfl⟩ := List.mem_map.1 hr3
      have hyx : y = x := by
        obtain ⟨A3, B3, e3, c1, c2⟩ := splitE xs N hsrt
        have hyN : y.count = N := hr4
        have key : ∀ z ∈ xs, z.count = N → ∃ l, B3 = z :: l := fun z hz hzN => by
          rw [e3] at hz
          rcases List.mem_append.1 hz with q | q
          · have := c1 z q; omega
          · cases B3 with
            | nil => cases q
            | cons b l =>
              rcases List.mem_cons.1 q with rfl | q
              · exact ⟨l, rfl⟩
              · have hb := c2 b (by simp)
                rw [e3] at hsrt
                have := (List.pairwise_cons.1 (List.pairwise_append.1 hsrt).2.1).1 z q
                omega
        obtain ⟨l1, q1⟩ := key y hy hyN
        obtain ⟨l2, q2⟩ := key x hx hxN
        rw [q1] at q2
        exact (List.cons.inj q2).1
      subst hyx
      have hcc := hcnt y hy
      have hsame : (sameI (itR (enR y)) i = true) ↔ (y.time = i.time ∧ y.data = i.data) := by
        rw [sameI_iff]
        constructor
        · intro q
          rw [← q]; exact ⟨rfl, rfl⟩
        · rintro ⟨q1, q2⟩
          have e1 : y.apid = i.apid := hcc.1
          have e2 : y.cnt = i.count := by rw [hcc.2, hxN]; omega
          obtain ⟨ia, ic, it, id⟩ := i
          show (⟨y.apid, y.cnt, y.time, y.data⟩ : Itm) = ⟨ia, ic, it, id⟩
          rw [e1, e2, q1, q2]
      have hadd : addR rs i = (rs, if y.time = i.time ∧ y.data = i.data then 9 else 4) := by
        unfold addR
        rw [if_neg (by rw [hr]; decide), hN, hf]
        show (rs, if sameI (itR (enR y)) i = true then (9 : Int) else 4) = _
        by_cases c : y.time = i.time ∧ y.data = i.data
        · rw [if_pos c, if_pos (hsame.2 c)]
        · rw [if_neg c, if_neg (fun q => c (hsame.1 q))]
      rw [hadd, hres, hal]
      refine ⟨rfl, ?_⟩
      have hgg : ∀ b, getP (addM i ps).1 b = getP ps b := fun b => by
        rw [hget b]
        split
        · rename_i q
          rw [← q.2, hxs, hal]
        · rfl
      exact ⟨fun b => by rw [hgg]; exact h.perm b, fun b => by rw [hgg]; exact h.srt b, fun b => by rw [hgg]; exact h.cnt b, by
        rw [hlen, hal]
        show lenP ps - xs.length + xs.length = rs.length
        have := h.len; omega⟩
    · -- a new one
      have hf : rs.find? (hitB i.apid N) = none := List.find?_eq_none.2 fun r hr1 hr2 => by
        obtain ⟨q1, q2⟩ := (hmem r).1 ⟨hr1, hr2⟩
        obtain ⟨y, hy, rfl⟩ := List.mem_map.1 q1
        exact hno y hy q2
      have hadd : addR rs i = (rs ++ [newR i N], 0) := by
        unfold addR
        rw [if_neg (by rw [hr]; decide), hN, hf]
      rw [hadd, hres, hal]
      refine ⟨rfl, ?_⟩
      have hgi : getP (addM i ps).1 i.apid = A2 ++ newE i N :: B2 := by
        rw [hget, if_pos ⟨hr, rfl⟩, hxs, hal]
      have hgo : ∀ b, i.apid ≠ b → getP (addM i ps).1 b = getP ps b := fun b hb => by
        rw [hget, if_neg (fun q => hb q.2)]
      have hni : isA i.apid (newR i N) = true := isA_iff.2 rfl
      refine ⟨fun b => ?_, fun b => ?_, fun b => ?_, ?_⟩
      · by_cases hb : i.apid = b
        · subst hb
          rw [hgi, List.filter_append]
          show (rs.filter (isA i.apid) ++ List.filter (isA i.apid) [newR i N]).Perm _
          rw [List.filter_cons_of_pos hni]
          show (rs.filter (isA i.apid) ++ [newR i N]).Perm ((A2 ++ newE i N :: B2).map enR)
          refine (List.perm_append_comm).trans ?_
          have e5 : (A2 ++ newE i N :: B2).map enR = A2.map enR ++ newR i N :: B2.map enR := by rw [List.map_append]; rfl
          rw [e5]
          refine List.Perm.trans ?_ List.perm_middle.symm
          refine List.Perm.cons _ ?_
          rw [← List.map_append, ← hAB]
          exact hperm
        · rw [hgo b hb, List.filter_append]
          have hnb : isA b (newR i N) = false := by
            cases q : isA b (newR i N) with
            | true => exact absurd (isA_iff.1 q) hb
            | false => rfl
          show (rs.filter (isA b) ++ List.filter (isA b) [newR i N]).Perm _
          rw [List.filter_cons_of_neg (by rw [hnb]; decide)]
          show (rs.filter (isA b) ++ []).Perm _
          rw [List.append_nil]
          exact h.perm b
      · by_cases hb : i.apid = b
        · subst hb
          rw [hgi]
          rw [hAB] at hsrt
          have s1 := List.pairwise_append.1 hsrt
          refine List.pairwise_append.2 ⟨s1.1, List.pairwise_cons.2 ⟨fun x hx => a2 x hx, s1.2.1⟩, fun x hx y hy => ?_⟩
          have h1 := a1 x hx
          rcases List.mem_cons.1 hy with rfl | hy
          · exact h1
          · exact s1.2.2 x hx y hy
        · rw [hgo b hb]; exact h.srt b
      · by_cases hb : i.apid = b
        · subst hb
          rw [hgi]
          intro x hx
          have hx2 : x = newE i N ∨ x ∈ xs := by
            rw [hAB]
            rcases List.mem_append.1 hx with q | q
            · exact .inr (List.mem_append.2 (.inl q))
            · rcases List.mem_cons.1 q with q | q
              · exact .inl q
              · exact .inr (List.mem_append.2 (.inr q))
          rcases hx2 with rfl | hx2
          · refine ⟨rfl, ?_⟩
            show i.count = N % 16384
            rw [hNm]; omega
          · exact hcnt x hx2
        · rw [hgo b hb]; exact h.cnt b
      · rw [hlen, hal]
        show lenP ps - xs.length + (A2 ++ newE i N :: B2).length = (rs ++ [newR i N]).length
        have := h.len
        have hx3 : xs.length = A2.length + B2.length := by rw [hAB, List.length_append]
        rw [List.length_append, List.length_cons, List.length_append]
        show _ = rs.length + 1
        omega
theorem Agree.nil : Agree [] [] := ⟨fun a => .refl _, fun a => .nil, fun a x hx => (by cases hx), rfl⟩
end Go.V

set_option maxRecDepth 100000
set_option maxHeartbeats 8000000
namespace Go.V
open Go.Proofs
theorem Agree.items {ps : List Prc} {rs : List REnt} (h : Agree ps rs) (a : Int) : (sortR ltC (rs.filter (isA a))).map itR = (getP ps a).map toI := by
  have e : sortR ltC (rs.filter (isA a)) = (getP ps a).map enR := by
    refine sort_one ordC.asym ((sortR_perm ltC _).trans (h.perm a)) (sortR_sorted ordC _) ?_
    refine List.pairwise_map.2 ((h.srt a).imp fun {x y} q => ?_)
    show ltC (enR x) (enR y) = true
    unfold ltC
    exact decide_eq_true q
  rw [e, List.map_map]
  rfl
theorem cntK_ok (rs : List REnt) (a : Int) : ∀ k, k ≤ rs.length → Vld (cntK rs a k) ∧ ∀ n, memR (cntK rs a k) n ↔ ∃ r ∈ (rs.take k).filter (isA a), r.count = n
  | 0, _ => ⟨.nil, fun n => ⟨fun q => absurd q memR_nil, fun ⟨r, hr, _⟩ => by simp at hr⟩⟩
  | k + 1, hk => by
    obtain ⟨v, m⟩ := cntK_ok rs a k (by omega)
    rw [cntK_next (by omega), filter_next (P := isA a) (d := REnt.zero) (by omega)]
    obtain ⟨r, hr⟩ : ∃ r, rs.getD k REnt.zero = r := ⟨_, rfl⟩
    rw [hr]
    unfold cntS
    by_cases c : r.apid = a
    · have q := insF_ok (l := ofL (cntK rs a k)) (r := ⟨r.count, r.count + 1⟩) (of_vld _)
      rw [if_pos c, if_pos (isA_iff.2 c)]
      refine ⟨q.1, fun n => ?_⟩
      rw [q.2, of_mem, m]
      constructor
      · rintro (⟨z, hz, h⟩ | h)
        · exact ⟨z, List.mem_append.2 (.inl hz), h⟩
        · have h1 : r.count ≤ n := h.1
          have h2 : n < r.count + 1 := h.2
          exact ⟨r, by simp, by omega⟩
      · rintro ⟨z, hz, h⟩
        rcases List.mem_append.1 hz with hz | hz
        · exact .inl ⟨z, hz, h⟩
        · rw [List.mem_singleton.1 hz] at h
          exact .inr ⟨by show r.count ≤ n; omega, by show n < r.count + 1; omega⟩
    · rw [if_neg c, if_neg (fun q => c (isA_iff.1 q)), List.append_nil]
      exact ⟨v, m⟩
theorem first_min {xs : List Ent} (h : srtE xs) (hn : 0 < xs.length) : eAt xs 0 ∈ xs ∧ ∀ x ∈ xs, (eAt xs 0).count ≤ x.count := by
  cases xs with
  | nil => simp at hn
  | cons y xs =>
    refine ⟨by show y ∈ y :: xs; simp, fun x hx => ?_⟩
    show y.count ≤ x.count
    rcases List.mem_cons.1 hx with rfl | hx
    · exact Int.le_refl _
    · exact Int.le_of_lt ((List.pairwise_cons.1 h).1 x hx)
theorem vld_ends {s : List Rng} (v : Vld s) (hn : 0 < s.length) : memR s (rAt s 0).from_ ∧ (∀ n, memR s n → (rAt s 0).from_ ≤ n) ∧ memR s ((rAt s (s.length - 1)).to_ - 1) ∧ ∀ n, memR s n → n < (rAt s (s.length - 1)).to_ := by
  have hne : s ≠ [] := List.length_pos_iff.1 hn
  have hl : rAt s (s.length - 1) = s.getLast hne := by
    show s.getD _ Rng.zero = _
    rw [List.getD_eq_getElem?_getD, ← List.getLast?_eq_getElem?, List.getLast?_eq_some_getLast hne]; rfl
  have hlm := List.getLast_mem hne
  have h0 : rAt s 0 ∈ s := rAt_mem hn
  have n0 := v.ne _ h0
  have n1 := v.ne _ hlm
  refine ⟨⟨_, h0, Int.le_refl _, n0⟩, fun n hm => ?_, ⟨_, hlm, by rw [hl]; omega, by rw [hl]; omega⟩, fun n hm => ?_⟩
  · cases s with
    | nil => simp at hn
    | cons r s => exact v.low hm
  · rw [hl]
    obtain ⟨r, hr, h1, h2⟩ := hm
    have hq := List.dropLast_concat_getLast hne
    have ap := v.ap
    rw [← hq] at hr ap
    rcases List.mem_append.1 hr with q | q
    · have := (List.pairwise_append.1 ap).2.2 r q _ (List.mem_singleton.2 rfl)
      omega
    · rw [List.mem_singleton.1 q] at h2; exact h2
theorem Agree.gaps {ps : List Prc} {rs : List REnt} (h : Agree ps rs) (a : Int) : gapsF (getP ps a) = rgaps rs a := by
  obtain ⟨v, m⟩ := cntK_ok rs a rs.length (Nat.le_refl _)
  rw [List.take_length] at m
  have hp := h.perm a
  have hs := h.srt a
  obtain ⟨xs, hxs⟩ : ∃ xs, getP ps a = xs := ⟨_, rfl⟩
  rw [hxs] at hp hs ⊢
  obtain ⟨s, hse⟩ : ∃ s, cntK rs a rs.length = s := ⟨_, rfl⟩
  have hm : ∀ n, memR s n ↔ ∃ x ∈ xs, x.count = n := fun n => by
    rw [← hse, m]
    constructor
    · rintro ⟨r, hr, e⟩
      obtain ⟨x, hx, rfl⟩ := List.mem_map.1 (hp.mem_iff.1 hr)
      exact ⟨x, hx, e⟩
    · rintro ⟨x, hx, e⟩
      exact ⟨enR x, hp.mem_iff.2 (List.mem_map.2 ⟨x, hx, rfl⟩), e⟩
  unfold rgaps
  rw [hse]
  rw [hse] at v
  by_cases c : xs.length = 0
  · obtain rfl := List.eq_nil_of_length_eq_zero c
    have hs0 : s = [] := by
      cases s with
      | nil => rfl
      | cons r s =>
        have := v.ne r (by simp)
        obtain ⟨x, hx, _⟩ := (hm r.from_).1 ⟨r, by simp, Int.le_refl _, this⟩
        cases hx
    subst hs0
    rfl
  · have hn : 0 < xs.length := by omega
    obtain ⟨f1, f2⟩ := first_min hs hn
    obtain ⟨l1, l2⟩ := last_max hs hn
    have hsn : s.length ≠ 0 := fun q => by
      obtain rfl := List.eq_nil_of_length_eq_zero q
      exact memR_nil ((hm _).2 ⟨_, f1, rfl⟩)
    obtain ⟨v1, v2, v3, v4⟩ := vld_ends v (by omega)
    have E1 : (rAt s 0).from_ = (eAt xs 0).count := by
      obtain ⟨x, hx, e⟩ := (hm _).1 v1
      have h1 := f2 x hx
      have h2 := v2 _ ((hm _).2 ⟨_, f1, rfl⟩)
      omega
    have E2 : (rAt s (s.length - 1)).to_ = (eAt xs (xs.length - 1)).count + 1 := by
      obtain ⟨x, hx, e⟩ := (hm _).1 v3
      have h1 := l2 x hx
      have h2 := v4 _ ((hm _).2 ⟨_, l1, rfl⟩)
      omega
    rw [if_neg hsn]
    unfold gapsF rgK
    rw [if_neg c, List.take_length, E1, E2]
    obtain ⟨F, hF⟩ : ∃ F, (eAt xs 0).count = F := ⟨_, rfl⟩
    obtain ⟨L, hL⟩ : ∃ L, (eAt xs (xs.length - 1)).count = L := ⟨_, rfl⟩
    have hFL : F ≤ L := by rw [← hF, ← hL]; exact f2 _ l1
    rw [hF, hL]
    have w0 : Vld ([⟨F, L + 1⟩] : List Rng) := Vld.cons (by show F < L + 1; omega) (by simp) .nil
    have w := wantK_ok s w0
    have i0 := insF_ok (l := ofL []) (r := ⟨F, L + 1⟩) (of_vld [])
    have g := remC_ok xs i0.1
    refine vld_one g.1 w.1 fun n => ?_
    rw [g.2 n, i0.2 n, w.2 n, memR_one, hm]
    constructor
    · rintro ⟨q, r⟩
      rcases q with q | q
      · exact absurd q memR_nil
      · exact ⟨q, fun ⟨x, hx, e⟩ => r x hx e⟩
    · rintro ⟨q, r⟩
      exact ⟨.inr q, fun x hx e => r ⟨x, hx, e⟩⟩
end Go.V

set_option maxRecDepth 100000
set_option maxHeartbeats 8000000
namespace Go.V
open Go.Proofs
attribute [-go_sem] AE AO
def aK (l : List Itm) : Nat → List Prc
  | 0 => []
  | k + 1 => (addM (l.getD k Itm.zero) (aK l k)).1
theorem aK_ok (l : List Itm) : ∀ k, StP (aK l k) k
  | 0 => .nil
  | k + 1 => addM_ok (aK_ok l k)
theorem StP.mono {ps : List Prc} {n : Nat} (h : StP ps n) : StP ps (n + 1) := ⟨h.srt, by have := h.len; omega, fun p hp => (h.all p hp).mono⟩
theorem gaps_len (xs : List Ent) : (gapsF xs).length ≤ xs.length + 1 := by
  by_cases c : xs.length = 0
  · unfold gapsF
    rw [if_pos c]; exact Nat.zero_le _
  · rw [← gapK_all (by omega)]
    exact gapK_len xs _ (Nat.le_refl _)
end Go.V

set_option maxRecDepth 100000
set_option maxHeartbeats 8000000
namespace Go.V
open Go.Proofs
attribute [-go_sem] AE AO
def rK (l : List Itm) : Nat → List REnt
  | 0 => []
  | k + 1 => (addR (rK l k) (l.getD k Itm.zero)).1
theorem ag_K (l : List Itm) : ∀ k, Agree (aK l k) (rK l k)
  | 0 => .nil
  | k + 1 => ((ag_K l k).add (aK_ok l k) (l.getD k Itm.zero)).2
theorem rK_len (l : List Itm) : ∀ k, (rK l k).length ≤ k
  | 0 => Nat.le_refl 0
  | k + 1 => by
    have ih := rK_len l k
    show ((addR (rK l k) (l.getD k Itm.zero)).1).length ≤ k + 1
    unfold addR
    split
    · show (rK l k).length ≤ k + 1; omega
    · split
      · show (rK l k).length ≤ k + 1; omega
      · show (rK l k ++ [_]).length ≤ k + 1
        rw [List.length_append]
        show (rK l k).length + 1 ≤ k + 1
        omega
theorem rK_ok (l : List Itm) {k : Nat} (hk : k ≤ 1000) : okR (rK l k) := by
  refine ⟨by have := rK_len l k; omega, fun j => ?_⟩
  by_cases c : j < (rK l k).length
  · have hm : (rK l k).getD j REnt.zero ∈ rK l k := by
      rw [List.getD_eq_getElem?_getD, List.getElem?_eq_getElem c]; exact List.getElem_mem c
    obtain ⟨r, hr⟩ : ∃ r, (rK l k).getD j REnt.zero = r := ⟨_, rfl⟩
    rw [hr] at hm ⊢
    have hf : r ∈ (rK l k).filter (isA r.apid) := List.mem_filter.2 ⟨hm, isA_iff.2 rfl⟩
    obtain ⟨x, hx, rfl⟩ := List.mem_map.1 (((ag_K l k).perm r.apid).mem_iff.1 hf)
    rcases (aK_ok l k).get (enR x).apid with q | q
    · rw [q.1] at hx; cases hx
    · have := q.1.all x hx
      show -1099511627776 ≤ x.count ∧ x.count ≤ 1099511627776
      omega
  · rw [List.getD_eq_getElem?_getD, List.getElem?_eq_none (by omega)]
    exact ⟨by decide, by decide⟩
theorem StP.okCl {ps : List Prc} {n : Nat} (h : StP ps n) (hn : n ≤ 10000) : okCl ps := by
  have hmem : ∀ i, i < ps.length → pAt ps i ∈ ps := fun i hi => by
    show ps.getD i Prc.zero ∈ ps
    rw [List.getD_eq_getElem?_getD, List.getElem?_eq_getElem hi]; exact List.getElem_mem hi
  refine ⟨by have := h.len; omega, fun i hi => by have := (h.all _ (hmem i hi)).len; omega, fun i k => ?_⟩
  by_cases c : i < ps.length
  · by_cases c2 : k < (pAt ps i).list.length
    · have := ((h.all _ (hmem i c)).all _ (eAt_mem c2)).2
      exact Nat.le_trans this (by decide)
    · rw [List.getD_eq_getElem?_getD, List.getElem?_eq_none (by omega)]; exact Nat.zero_le _
  · have : pAt ps i = Prc.zero := by
      show ps.getD i Prc.zero = _
      rw [List.getD_eq_getElem?_getD, List.getElem?_eq_none (by omega)]; rfl
    rw [this]
    exact Nat.zero_le _
theorem c_addMn {h : List Ch} {K : KT} {u : Nat} {a c t r : Int} {ps qs : List Prc} (H : K (.int .i64 r) (h.set u (.pack (AM qs)))) (o : hth h u = .pack (AM ps)) (e1 : okAdd ps) (e3 : addM ⟨a, c, t, []⟩ ps = (qs, r)) : Does Try.prog 10 [.ptr u 0, .agg [.int .i64 a, .int .i64 c, .int .i64 t, .lit (.slice none 0 0)]] h K := by
  have hbr : brL [u] h [.ptr 0 0, .agg (itL ⟨a, c, t, []⟩)] [.ptr u 0, .agg [.int .i64 a, .int .i64 c, .int .i64 t, .lit (.slice none 0 0)]] := br_cons (br_ptr rfl) (br_cons (br_agg (br_cons br_int (br_cons br_int (br_cons br_int (br_cons br_ro0 br_nil))))) br_nil)
  unfold addM at e3
  cases hr : rightB ⟨a, c, t, []⟩ with
  | false =>
    rw [if_pos hr] at e3
    obtain ⟨rfl, rfl⟩ := Prod.mk.inj e3
    exact frame_obj0 (b_addMW ⟨a, c, t, []⟩ ps hr) o (by simp) (fitC_pack _) hbr (.inl rfl) (fun _ => rfl) rfl H
  | true =>
    have R := rightB_of hr
    have hd : (⟨a, c, t, []⟩ : Itm).data.length ≤ 1099511627776 := Nat.zero_le _
    rw [if_neg (by rw [hr]; decide)] at e3
    cases hi : isP ps (⟨a, c, t, []⟩ : Itm).apid with
    | true =>
      obtain ⟨q1, q2, q3, q4⟩ := e1.lst _ hi
      rw [if_pos hi] at e3
      have e5 : addL ⟨a, c, t, []⟩ (getP ps (⟨a, c, t, []⟩ : Itm).apid) = addQ ⟨a, c, t, []⟩ (Go.V.ext (eAt (getP ps (⟨a, c, t, []⟩ : Itm).apid) ((getP ps (⟨a, c, t, []⟩ : Itm).apid).length - 1)).count (⟨a, c, t, []⟩ : Itm).count) (getP ps (⟨a, c, t, []⟩ : Itm).apid) := if_neg (by omega)
      rw [e5] at e3
      obtain ⟨rfl, rfl⟩ := Prod.mk.inj e3
      exact frame_obj0 (b_addMI ⟨a, c, t, []⟩ ps e1.max hr hi hd q1 q2 ⟨q3, q4⟩ ⟨R.2.2.1, R.2.2.2.1⟩) o (by simp) (fitC_pack _) hbr (.inl rfl) (fun _ => rfl) rfl H
    | false =>
      rw [if_neg (by rw [hi]; decide)] at e3
      obtain ⟨rfl, rfl⟩ := Prod.mk.inj e3
      by_cases hn : ps.length = 0
      · obtain rfl := List.eq_nil_of_length_eq_zero hn
        exact frame_obj0 (b_addMZ ⟨a, c, t, []⟩ hr hd) o (by simp) (fitC_pack _) hbr (.inl rfl) (fun _ => rfl) rfl H
      · exact frame_obj0 (b_addMN ⟨a, c, t, []⟩ ps (by omega) e1.max hr hi hd) o (by simp) (fitC_pack _) hbr (.inl rfl) (fun _ => rfl) rfl H
abbrev i_addMn := Ctr.mk (i := 4) (g := 10) @c_addMn
attribute [instance] i_addMn
theorem b_adds (l : List Itm) (hln : l.length ≤ 9223372036854775807) :
    DoesK Try.prog 0 5 [.ro .itm l] [] (EndF 0 (.bool true) []) := by
  refine DoesK.close ?_
  have hro : RoLit := .mk
  refine w_body (rs := [.tmp 2]) (tm := [.ro .itm l, .any, .any, .any, .any, .any, .any, .any, .any, .any, .any, .any, .any, .any, .any, .any, .any, .any, .any, .any, .any, .any, .any, .any, .any, .any, .any, .any, .any, .any, .any, .any, .any, .any, .any, .any, .any, .any, .any, .any, .any, .any, .any, .any, .any, .any, .any, .any, .any, .any, .any, .any, .any, .any, .any, .any, .any, .any, .any, .any, .any, .any, .any, .any, .any, .any, .any, .any, .any, .any, .any, .any, .any, .any, .any, .any, .any, .any, .any, .any, .any, .any, .any, .any, .any, .any, .any, .any, .any, .any, .any, .any, .any, .any, .any, .any, .any, .any]) fn_5 rfl rfl rfl rfl fun R hR => ?_
  cases hf : fewB l with
  | false =>
    (have zx1 := @hf; all_goals (try ((first | (with_reducible refine wp_id ?_) | (with_reducible refine does_id ?_) | (with_reducible refine ops_id ?_)); refine walk ?_; (repeat' (first | exact trivial | with_reducible refine And.intro ?_ ?_)); all_goals (repeat (first | (with_reducible refine ImpB.mk fun hb => ?_) | (with_reducible refine ImpK.mk fun hK => ?_) | (with_reducible refine ImpF.mk fun hF => ?_) | (with_reducible refine ImpQ.mk fun hp => ?_) | (with_reducible refine AllE.mk fun p => ?_) | (with_reducible refine AllR.mk fun rest => ?_) | (with_reducible refine AllK.mk fun K => ?_))))); repeat' (with_reducible refine And.intro ?_ ?_))
    (focus (refine ⟨_, _, Gh.refl, [], rfl, ?_⟩; (refine fitq ?_ ?_ ?_ <;> try exact trivial); (try any_goals (refine ⟨?_, ?_⟩)); (try any_goals (with_reducible rfl))))
    all_goals (repeat' (first | (refine And.intro ?_ ?_) | rfl))
  | true =>
    obtain ⟨hl80, -⟩ := few_of hf
    (have zx1 := @hf; all_goals (try ((first | (with_reducible refine wp_id ?_) | (with_reducible refine does_id ?_) | (with_reducible refine ops_id ?_)); refine walk ?_; (repeat' (first | exact trivial | with_reducible refine And.intro ?_ ?_)); all_goals (repeat (first | (with_reducible refine ImpB.mk fun hb => ?_) | (with_reducible refine ImpK.mk fun hK => ?_) | (with_reducible refine ImpF.mk fun hF => ?_) | (with_reducible refine ImpQ.mk fun hp => ?_) | (with_reducible refine AllE.mk fun p => ?_) | (with_reducible refine AllR.mk fun rest => ?_) | (with_reducible refine AllK.mk fun K => ?_))))); repeat' (with_reducible refine And.intro ?_ ?_))
    any_goals ((try (refine w_seq fun K hK => ?_)); (try (refine w_block ?_)); refine w_loop (A := Nat) (fun k => k ≤ l.length) (fun k => l.length - k) (fun k => [(3, .ptr 0 0), (4, .ro .ren (rK l k)), (5, .int .i64 k), (14, .any)]) (fun k => [(0, .pack (AM (aK l k)))]) (0) (ws := ?ws1) (tk := ?tk1) ?hw1 ?ht1 ?hi ?h0 ?LH1; (case hw1 => simp only [go_sem, decide_true, decide_false, Int.reduceToNat, Nat.min_eq_left, Nat.min_eq_right, Int.reducePow, Nat.reducePow, Int.reduceLE, Int.reduceLT, Int.reduceMul, Int.reduceAdd, Int.reduceSub, Int.reduceNeg, Bool.not_true, Bool.not_false, Bool.not_not, ↓reduceIte, Nat.reduceAdd, Nat.reduceSub, Nat.reduceMul, Nat.reduceEqDiff, reduceCtorEq, Nat.reduceLT, Nat.reduceLeDiff, Nat.reduceGT]; exact rfl); (case ht1 => simp only [go_sem, decide_true, decide_false, Int.reduceToNat, Nat.min_eq_left, Nat.min_eq_right, Int.reducePow, Nat.reducePow, Int.reduceLE, Int.reduceLT, Int.reduceMul, Int.reduceAdd, Int.reduceSub, Int.reduceNeg, Bool.not_true, Bool.not_false, Bool.not_not, ↓reduceIte, Nat.reduceAdd, Nat.reduceSub, Nat.reduceMul, Nat.reduceEqDiff, reduceCtorEq, Nat.reduceLT, Nat.reduceLeDiff, Nat.reduceGT]; exact rfl); (case' LH1 => rintro k E t hx hE ht; simp only [go_sem] at ht; subst ht; simp only [go_sem]; try dsimp only at hx))
    case hi => exact Nat.zero_le _
    case h0 =>
      (focus (refine ⟨_, _, Gh.refl, [0], rfl, ?_⟩; (refine fitq ?_ ?_ ?_ <;> try exact trivial); (try any_goals (refine ⟨?_, ?_⟩)); (try any_goals (with_reducible rfl))))
      all_goals (repeat' (first | (refine And.intro ?_ ?_) | rfl))
    case LH1 =>
      have hk0 : k ≤ l.length := hx
      by_cases hk : k < l.length
      · have hkd : decide ((k : Int) < (l.length : Int)) = true := decide_eq_true (by omega)
        have hw : IntKind.i64.wrap ((k : Int) + 1) = ((k + 1 : Nat) : Int) := by rw [wrap_i64 _ (by omega) (by omega)]; omega
        obtain ⟨x, hxx⟩ : ∃ x, l.getD k Itm.zero = x := ⟨_, rfl⟩
        have oA := (aK_ok l k).add (by omega)
        have oR := rK_ok l (k := k) (by omega)
        have oA2 := (aK_ok l (k + 1)).add (by omega)
        have oR2 := rK_ok l (k := k + 1) (by omega)
        have mA := (aK_ok l (k + 1)).okM (by omega) x.apid
        have oC := (aK_ok l (k + 1)).okCl (by omega)
        have AG := ag_K l (k + 1)
        have hsame := ((ag_K l k).add (aK_ok l k) x).1
        have hA1 : aK l (k + 1) = (addM x (aK l k)).1 := by rw [← hxx]; rfl
        have hB1 : rK l (k + 1) = (addR (rK l k) x).1 := by rw [← hxx]; rfl
        obtain ⟨r, hr⟩ : ∃ r, (addM x (aK l k)).2 = r := ⟨_, rfl⟩
        have e3 : addM ⟨x.apid, x.count, x.time, x.data⟩ (aK l k) = (aK l (k + 1), r) := by rw [hA1, ← hr]
        have e4 : addR (rK l k) ⟨x.apid, x.count, x.time, x.data⟩ = (rK l (k + 1), r) := by rw [hB1, ← hr, ← hsame]
        have hLx := (aK_ok l (k + 1)).get x.apid
        have hrl2 := rK_len l (k + 1)
        generalize hps : aK l (k + 1) = psN at *
        generalize hrsN : rK l (k + 1) = rsN at *
        obtain ⟨X, gA⟩ : ∃ X, getP psN x.apid = X := ⟨_, rfl⟩
        have hG := AG.gaps x.apid
        have hI := AG.items x.apid
        have hL := AG.len
        rw [gA] at hG hI hLx
        have hXl : X.length ≤ 10000 := by
          rcases hLx with q | q
          · rw [q.1]; exact Nat.zero_le _
          · have := q.1.len; omega
        have hgl : (gapsF X).length ≤ 1099511627776 := Nat.le_trans (gaps_len X) (by omega)
        have hml : (X.map toI).length ≤ 1099511627776 := by rw [List.length_map]; omega
        have hrr : decide (¬ r = r) = false := decide_eq_false fun q => q rfl
        have hLd : decide (¬ ((lenP psN : Nat) : Int) = (rsN.length : Int)) = false := decide_eq_false fun q => q (by rw [hL])
        have hd1 : decide (gapsF X = gapsF X) = true := decide_eq_true rfl
        have hd2 : decide (X.map toI = X.map toI) = true := decide_eq_true rfl
        have hrs : rsN.length ≤ 100000 := by omega
        obtain ⟨⟨qs, r2⟩, e5⟩ : ∃ q, addM ⟨x.apid, 77, 77, []⟩ psN = q := ⟨_, rfl⟩
        have G := And.intro gA (And.intro hG.symm hI)
        have DD := And.intro hrr (And.intro hLd (And.intro hd1 hd2))
        have hwm : IntKind.i64.wrap (Int.tmod (k : Int) 9) = Int.tmod (k : Int) 9 := by
          have h1 : Int.tmod (k : Int) 9 < 9 := Int.tmod_lt_of_pos _ (by decide)
          have h2 : -9 < Int.tmod (k : Int) 9 := Int.lt_tmod_of_pos _ (by decide)
          exact wrap_i64 _ (by omega) (by omega)
        cases hi : isP psN x.apid with
        | true =>
          cases h9 : decide (Int.tmod (k : Int) 9 = 5) with
          | true =>
            (have zx1 := @hkd; have zx2 := @hw; have zx3 := @hxx; have zx4 := @G; have zx5 := @DD; have zx6 := @hwm; have zx7 := @h9; all_goals (try ((first | (with_reducible refine wp_id ?_) | (with_reducible refine does_id ?_) | (with_reducible refine ops_id ?_)); refine walk ?_; (repeat' (first | exact trivial | with_reducible refine And.intro ?_ ?_)); all_goals (repeat (first | (with_reducible refine ImpB.mk fun hb => ?_) | (with_reducible refine ImpK.mk fun hK => ?_) | (with_reducible refine ImpF.mk fun hF => ?_) | (with_reducible refine ImpQ.mk fun hp => ?_) | (with_reducible refine AllE.mk fun p => ?_) | (with_reducible refine AllR.mk fun rest => ?_) | (with_reducible refine AllK.mk fun K => ?_))))); repeat' (with_reducible refine And.intro ?_ ?_))
            (all_goals first | exact Int.natCast_nonneg _ | exact Int.ofNat_lt.2 (by assumption) | assumption | omega | exact Nat.le_refl _ | (exfalso; simp at hb; done) | (simp only [go_sem, decide_true, decide_false, Int.reduceToNat, Nat.min_eq_left, Nat.min_eq_right, Int.reducePow, Nat.reducePow, Int.reduceLE, Int.reduceLT, Int.reduceMul, Int.reduceAdd, Int.reduceSub, Int.reduceNeg, Bool.not_true, Bool.not_false, Bool.not_not, ↓reduceIte, Nat.reduceAdd, Nat.reduceSub, Nat.reduceMul, Nat.reduceEqDiff, reduceCtorEq, Nat.reduceLT, Nat.reduceLeDiff, Nat.reduceGT]; done) | (unfold capM; omega) | (simp only [List.length_drop, List.length_take, List.length_append, List.length_cons, List.length_nil]; omega) | skip)
            refine ⟨k + 1, ⟨(by omega : k + 1 ≤ l.length), (by first | omega | (dsimp only; omega))⟩, ?_⟩
            dsimp only
            rw [hps, hrsN]
            (focus (refine ⟨_, _, Gh.refl, [1], rfl, ?_⟩; (refine fitq ?_ ?_ ?_ <;> try exact trivial); (try any_goals (refine ⟨?_, ?_⟩)); (try any_goals (with_reducible rfl))))
            all_goals (repeat' (first | (refine And.intro ?_ ?_) | rfl))
          | false =>
            (have zx1 := @hkd; have zx2 := @hw; have zx3 := @hxx; have zx4 := @G; have zx5 := @DD; have zx6 := @hwm; have zx7 := @h9; all_goals (try ((first | (with_reducible refine wp_id ?_) | (with_reducible refine does_id ?_) | (with_reducible refine ops_id ?_)); refine walk ?_; (repeat' (first | exact trivial | with_reducible refine And.intro ?_ ?_)); all_goals (repeat (first | (with_reducible refine ImpB.mk fun hb => ?_) | (with_reducible refine ImpK.mk fun hK => ?_) | (with_reducible refine ImpF.mk fun hF => ?_) | (with_reducible refine ImpQ.mk fun hp => ?_) | (with_reducible refine AllE.mk fun p => ?_) | (with_reducible refine AllR.mk fun rest => ?_) | (with_reducible refine AllK.mk fun K => ?_))))); repeat' (with_reducible refine And.intro ?_ ?_))
            (all_goals first | exact Int.natCast_nonneg _ | exact Int.ofNat_lt.2 (by assumption) | assumption | omega | exact Nat.le_refl _ | (exfalso; simp at hb; done) | (simp only [go_sem, decide_true, decide_false, Int.reduceToNat, Nat.min_eq_left, Nat.min_eq_right, Int.reducePow, Nat.reducePow, Int.reduceLE, Int.reduceLT, Int.reduceMul, Int.reduceAdd, Int.reduceSub, Int.reduceNeg, Bool.not_true, Bool.not_false, Bool.not_not, ↓reduceIte, Nat.reduceAdd, Nat.reduceSub, Nat.reduceMul, Nat.reduceEqDiff, reduceCtorEq, Nat.reduceLT, Nat.reduceLeDiff, Nat.reduceGT]; done) | (unfold capM; omega) | (simp only [List.length_drop, List.length_take, List.length_append, List.length_cons, List.length_nil]; omega) | skip)
            refine ⟨k + 1, ⟨(by omega : k + 1 ≤ l.length), (by first | omega | (dsimp only; omega))⟩, ?_⟩
            dsimp only
            rw [hps, hrsN]
            (focus (refine ⟨_, _, Gh.refl, [0], rfl, ?_⟩; (refine fitq ?_ ?_ ?_ <;> try exact trivial); (try any_goals (refine ⟨?_, ?_⟩)); (try any_goals (with_reducible rfl))))
            all_goals (repeat' (first | (refine And.intro ?_ ?_) | rfl))
        | false =>
          have hXn : X = [] := by
            rcases hLx with q | q
            · exact q.1
            · rw [q.2] at hi; cases hi
          subst hXn
          have hI2 : (sortR ltC (rsN.filter (isA x.apid))).map itR = [] := hI
          have G2 := And.intro gA (And.intro hG.symm hI2)
          have hd3 : decide (([] : List Itm) = []) = true := decide_eq_true rfl
          have DD2 := And.intro hrr (And.intro hLd (And.intro hd1 hd3))
          cases h9 : decide (Int.tmod (k : Int) 9 = 5) with
          | true =>
            (have zx1 := @hkd; have zx2 := @hw; have zx3 := @hxx; have zx4 := @G2; have zx5 := @DD2; have zx6 := @hwm; have zx7 := @h9; all_goals (try ((first | (with_reducible refine wp_id ?_) | (with_reducible refine does_id ?_) | (with_reducible refine ops_id ?_)); refine walk ?_; (repeat' (first | exact trivial | with_reducible refine And.intro ?_ ?_)); all_goals (repeat (first | (with_reducible refine ImpB.mk fun hb => ?_) | (with_reducible refine ImpK.mk fun hK => ?_) | (with_reducible refine ImpF.mk fun hF => ?_) | (with_reducible refine ImpQ.mk fun hp => ?_) | (with_reducible refine AllE.mk fun p => ?_) | (with_reducible refine AllR.mk fun rest => ?_) | (with_reducible refine AllK.mk fun K => ?_))))); repeat' (with_reducible refine And.intro ?_ ?_))
            (all_goals first | exact Int.natCast_nonneg _ | exact Int.ofNat_lt.2 (by assumption) | assumption | omega | exact Nat.le_refl _ | (exfalso; simp at hb; done) | (simp only [go_sem, decide_true, decide_false, Int.reduceToNat, Nat.min_eq_left, Nat.min_eq_right, Int.reducePow, Nat.reducePow, Int.reduceLE, Int.reduceLT, Int.reduceMul, Int.reduceAdd, Int.reduceSub, Int.reduceNeg, Bool.not_true, Bool.not_false, Bool.not_not, ↓reduceIte, Nat.reduceAdd, Nat.reduceSub, Nat.reduceMul, Nat.reduceEqDiff, reduceCtorEq, Nat.reduceLT, Nat.reduceLeDiff, Nat.reduceGT]; done) | (unfold capM; omega) | (simp only [List.length_drop, List.length_take, List.length_append, List.length_cons, List.length_nil]; omega) | skip)
            refine ⟨k + 1, ⟨(by omega : k + 1 ≤ l.length), (by first | omega | (dsimp only; omega))⟩, ?_⟩
            dsimp only
            rw [hps, hrsN]
            (focus (refine ⟨_, _, Gh.refl, [1], rfl, ?_⟩; (refine fitq ?_ ?_ ?_ <;> try exact trivial); (try any_goals (refine ⟨?_, ?_⟩)); (try any_goals (with_reducible rfl))))
            all_goals (repeat' (first | (refine And.intro ?_ ?_) | rfl))
          | false =>
            (have zx1 := @hkd; have zx2 := @hw; have zx3 := @hxx; have zx4 := @G2; have zx5 := @DD2; have zx6 := @hwm; have zx7 := @h9; all_goals (try ((first | (with_reducible refine wp_id ?_) | (with_reducible refine does_id ?_) | (with_reducible refine ops_id ?_)); refine walk ?_; (repeat' (first | exact trivial | with_reducible refine And.intro ?_ ?_)); all_goals (repeat (first | (with_reducible refine ImpB.mk fun hb => ?_) | (with_reducible refine ImpK.mk fun hK => ?_) | (with_reducible refine ImpF.mk fun hF => ?_) | (with_reducible refine ImpQ.mk fun hp => ?_) | (with_reducible refine AllE.mk fun p => ?_) | (with_reducible refine AllR.mk fun rest => ?_) | (with_reducible refine AllK.mk fun K => ?_))))); repeat' (with_reducible refine And.intro ?_ ?_))
            (all_goals first | exact Int.natCast_nonneg _ | exact Int.ofNat_lt.2 (by assumption) | assumption | omega | exact Nat.le_refl _ | (exfalso; simp at hb; done) | (simp only [go_sem, decide_true, decide_false, Int.reduceToNat, Nat.min_eq_left, Nat.min_eq_right, Int.reducePow, Nat.reducePow, Int.reduceLE, Int.reduceLT, Int.reduceMul, Int.reduceAdd, Int.reduceSub, Int.reduceNeg, Bool.not_true, Bool.not_false, Bool.not_not, ↓reduceIte, Nat.reduceAdd, Nat.reduceSub, Nat.reduceMul, Nat.reduceEqDiff, reduceCtorEq, Nat.reduceLT, Nat.reduceLeDiff, Nat.reduceGT]; done) | (unfold capM; omega) | (simp only [List.length_drop, List.length_take, List.length_append, List.length_cons, List.length_nil]; omega) | skip)
            refine ⟨k + 1, ⟨(by omega : k + 1 ≤ l.length), (by first | omega | (dsimp only; omega))⟩, ?_⟩
            dsimp only
            rw [hps, hrsN]
            (focus (refine ⟨_, _, Gh.refl, [0], rfl, ?_⟩; (refine fitq ?_ ?_ ?_ <;> try exact trivial); (try any_goals (refine ⟨?_, ?_⟩)); (try any_goals (with_reducible rfl))))
            all_goals (repeat' (first | (refine And.intro ?_ ?_) | rfl))
      · have hkd : decide ((k : Int) < (l.length : Int)) = false := decide_eq_false (by omega)
        (have zx1 := @hkd; all_goals (try ((first | (with_reducible refine wp_id ?_) | (with_reducible refine does_id ?_) | (with_reducible refine ops_id ?_)); refine walk ?_; (repeat' (first | exact trivial | with_reducible refine And.intro ?_ ?_)); all_goals (repeat (first | (with_reducible refine ImpB.mk fun hb => ?_) | (with_reducible refine ImpK.mk fun hK => ?_) | (with_reducible refine ImpF.mk fun hF => ?_) | (with_reducible refine ImpQ.mk fun hp => ?_) | (with_reducible refine AllE.mk fun p => ?_) | (with_reducible refine AllR.mk fun rest => ?_) | (with_reducible refine AllK.mk fun K => ?_))))); repeat' (with_reducible refine And.intro ?_ ?_))
        (focus (refine ⟨_, _, Gh.refl, [], rfl, ?_⟩; (refine fitq ?_ ?_ ?_ <;> try exact trivial); (try any_goals (refine ⟨?_, ?_⟩)); (try any_goals (with_reducible rfl))))
        all_goals (repeat' (first | (refine And.intro ?_ ?_) | rfl))
end Go.V

namespace Go.V
/-- all that lies in the memory at the start lies for good -/
def oldR (w : World) : RO := fun b => w.heap[b]?
theorem old_ok (w : World) : HOk (oldR w) [] [] w := ⟨trivial, by simp [ownH], fun b hb => by simp [ownH] at hb, fun _ _ h => h⟩
theorem cell_of {w : World} {a : Addr} {v : Value} (h : w.cell? a = some v) : a.spot = none ∧ ∃ arr ty fr, w.heap[a.block]? = some (.cells arr ty fr) ∧ arr[a.off]? = some v := by
  unfold World.cell? at h
  split at h
  · rename_i c ty fr hc
    split at h
    · simp at h
    · rename_i hs
      exact ⟨by simpa using hs, c, ty, fr, hc, h⟩
  · simp at h
theorem add_block (a : Addr) (i : Nat) : (a.add i).block = a.block := by
  unfold Addr.add
  split <;> rfl
theorem add_off (a : Addr) (i : Nat) : (a.add i).off = a.off + i := by
  unfold Addr.add
  split
  · simp_all
  · rfl
/-- some cells in a row -/
theorem cells_of {w : World} {base : Nat} {a : Addr} {n : Nat} {cs : List Value} (h : w.cells? base a n = some cs) (hn : 0 < n) : a.spot = none ∧ ∃ arr ty fr, w.heap[a.block]? = some (.cells arr ty fr) ∧ (arr.toList.drop a.off).take n = cs := by
  obtain ⟨_, hl, hg⟩ := World.cells?_some h
  have h0 := hg 0 hn
  rw [List.getElem?_eq_getElem (by omega)] at h0
  obtain ⟨hs, arr, ty, fr, hb, _⟩ := cell_of h0
  rw [add_block] at hb
  refine ⟨by simpa [Addr.add] using hs, arr, ty, fr, hb, ?_⟩
  apply List.ext_getElem?
  intro i
  by_cases hi : i < n
  · have h1 := hg i hi
    rw [List.getElem?_eq_getElem (show i < cs.length by omega)] at h1
    obtain ⟨_, arr', ty', fr', hb', h2⟩ := cell_of h1
    rw [add_block, hb] at hb'
    cases hb'
    rw [add_off] at h2
    rw [List.getElem?_take_of_lt hi, List.getElem?_drop, List.getElem?_eq_getElem (show i < cs.length by omega)]
    simpa using h2
  · rw [List.getElem?_eq_none (by simp; omega), List.getElem?_eq_none (by omega)]
/-- a type: what reads as data of it lies as one of these lists of abstract values -/
def Opens (P : Program) (w : World) (t : TypeId) (S : List AV → Prop) : Prop :=
  ∀ (H : Type) (enc : TypeId × Value → H) (base : Nat) (spare : Nat → Bool) (held : Bool) (fuel : Nat) (cs : List Value) (x : DataW H × List MemPlace), DataW.trod enc P w base spare held fuel t cs = some x → ∃ l, S l ∧ LRel (oldR w) [] l cs
section
variable {P : Program} {w : World}
theorem Opens.mono {t : TypeId} {S S' : List AV → Prop} (h : Opens P w t S) (hs : ∀ l, S l → S' l) : Opens P w t S' := fun H enc base spare held fuel cs x hx => by
  obtain ⟨l, h1, h2⟩ := h H enc base spare held fuel cs x hx
  exact ⟨l, hs l h1, h2⟩
theorem Opens.int {t : TypeId} {k : IntKind} (ht : P.underlying t = some (.int k)) : Opens P w t fun l => ∃ n, k.has n ∧ l = [.int k n] := fun H enc base spare held fuel cs x hx => by
  cases fuel with
  | zero => simp [DataW.trod] at hx
  | succ fuel =>
    unfold DataW.trod at hx
    simp only [ht] at hx
    split at hx
    all_goals first | (rename_i h1 _; cases h1; done) | skip
    all_goals simp_all
    rename_i k' n h1
    subst h1
    obtain ⟨⟨rfl, h2⟩, _⟩ := hx
    exact ⟨_, ⟨n, by simpa [Lit.wf, IntKind.has] using h2, rfl⟩, .cons .int .nil⟩
theorem Opens.struct {t : TypeId} {fs : Array Field} {Ss : List (List AV → Prop)} (ht : P.underlying t = some (.struct fs)) (hl : fs.size = Ss.length)
    (hS : ∀ (i : Nat) (f : Field) (S : List AV → Prop), fs[i]? = some f → Ss[i]? = some S → Opens P w f.type S)
    (hoff : ∀ (i : Nat) (f : Field), fs[i]? = some f → f.offset = ((fs.toList.take i).map fun g => P.cellsOf g.type).sum) (hsz : P.cellsOf t = (fs.toList.map fun g => P.cellsOf g.type).sum) :
    Opens P w t fun l => ∃ ls : List (List AV), ls.length = Ss.length ∧ (∀ (i : Nat) (S : List AV → Prop) (m : List AV), Ss[i]? = some S → ls[i]? = some m → S m) ∧ l = ls.flatten := fun H enc base spare held fuel cs x hx => by
  obtain ⟨xs, n, _, _, hlen, hxs, hf⟩ := DataW.trod_struct ht hx
  have key : ∀ k, k ≤ fs.size → ∃ ls : List (List AV), ls.length = k ∧ (∀ (i : Nat) (S : List AV → Prop) (m : List AV), Ss[i]? = some S → ls[i]? = some m → S m) ∧ LRel (oldR w) [] ls.flatten (cs.take (((fs.toList.take k).map fun g => P.cellsOf g.type).sum)) := by
    intro k
    induction k with
    | zero => intro _; exact ⟨[], rfl, fun i S m _ h => by simp at h, by simp; exact .nil⟩
    | succ k ih =>
      intro hk
      obtain ⟨ls, h1, h2, h3⟩ := ih (by omega)
      have hfk : fs[k]? = some fs[k] := by simp [show k < fs.size by omega]
      have hSk : Ss[k]? = some (Ss[k]'(by omega)) := by simp [show k < Ss.length by omega]
      have hx := hf k _ hfk
      rw [List.getElem?_eq_getElem (by omega)] at hx
      obtain ⟨m, h4, h5⟩ := hS k _ _ hfk hSk H enc base spare held n _ _ hx
      refine ⟨ls ++ [m], by simp [h1], fun i S m' hS' hm' => ?_, ?_⟩
      · by_cases hi : i < ls.length
        · rw [List.getElem?_append_left hi] at hm'
          exact h2 i S m' hS' hm'
        · have : i = k := by
            have := (List.getElem?_eq_some_iff.1 hm').1
            simp at this
            omega
          subst this
          rw [List.getElem?_append_right (by omega), h1] at hm'
          simp at hm'
          subst hm'
          rw [hSk] at hS'
          cases hS'
          exact h4
      · rw [List.flatten_append, List.flatten_singleton, List.take_succ_eq_append_getElem (show k < fs.toList.length by simp; omega), List.map_append, List.sum_append, List.take_add]
        rw [hoff k _ hfk] at h5
        have e : fs.toList[k] = fs[k] := by simp
        rw [e]
        simp only [List.map_cons, List.map_nil, List.sum_cons, List.sum_nil, Nat.add_zero]
        exact h3.app h5
  obtain ⟨ls, h1, h2, h3⟩ := key fs.size (Nat.le_refl _)
  refine ⟨ls.flatten, ⟨ls, by omega, h2, rfl⟩, ?_⟩
  rw [List.take_of_length_le (l := fs.toList) (by simp), ← hsz, ← hlen, List.take_length] at h3
  exact h3
def OpL (P : Program) (w : World) : List Field → List (List AV → Prop) → Prop
  | [], [] => True
  | f :: fs, S :: Ss => Opens P w f.type S ∧ OpL P w fs Ss
  | _, _ => False
def offB (P : Program) : List Field → Nat → Bool
  | [], _ => true
  | f :: fs, n => (f.offset == n) && offB P fs (n + P.cellsOf f.type)
theorem OpL.len : ∀ {fs : List Field} {Ss : List (List AV → Prop)}, OpL P w fs Ss → fs.length = Ss.length
  | [], [], _ => rfl
  | _ :: _, _ :: _, h => by simp [OpL.len h.2]
  | [], _ :: _, h => h.elim
  | _ :: _, [], h => h.elim
theorem OpL.get : ∀ {fs : List Field} {Ss : List (List AV → Prop)} (i : Nat) {f : Field} {S : List AV → Prop}, OpL P w fs Ss → fs[i]? = some f → Ss[i]? = some S → Opens P w f.type S
  | _ :: _, _ :: _, 0, _, _, h, e1, e2 => by simp at e1 e2; subst e1; subst e2; exact h.1
  | _ :: _, _ :: _, i + 1, _, _, h, e1, e2 => OpL.get i h.2 (by simpa using e1) (by simpa using e2)
  | [], [], _, _, _, _, e1, _ => by simp at e1
  | [], _ :: _, _, _, _, h, _, _ => h.elim
  | _ :: _, [], _, _, _, h, _, _ => h.elim
theorem offB_get : ∀ {fs : List Field} {n : Nat} (i : Nat) {f : Field}, offB P fs n = true → fs[i]? = some f → f.offset = n + ((fs.take i).map fun g => P.cellsOf g.type).sum
  | _ :: _, _, 0, _, h, e => by
    simp at e
    subst e
    simp only [offB, Bool.and_eq_true, beq_iff_eq] at h
    simpa using h.1
  | g :: fs, n, i + 1, _, h, e => by
    simp only [offB, Bool.and_eq_true, beq_iff_eq] at h
    have := offB_get i h.2 (by simpa using e)
    simp only [List.take_succ_cons, List.map_cons, List.sum_cons]
    omega
  | [], _, _, _, _, e => by simp at e
/-- a struct's fields lie one behind the other -/
theorem Opens.fields {t : TypeId} {fl : List Field} {Ss : List (List AV → Prop)} (ht : P.underlying t = some (.struct fl.toArray)) (hS : OpL P w fl Ss) (ho : offB P fl 0 = true) (hsz : P.cellsOf t = (fl.map fun g => P.cellsOf g.type).sum) :
    Opens P w t fun l => ∃ ls : List (List AV), ls.length = Ss.length ∧ (∀ (i : Nat) (S : List AV → Prop) (m : List AV), Ss[i]? = some S → ls[i]? = some m → S m) ∧ l = ls.flatten :=
  Opens.struct ht (by simpa using hS.len) (fun i f S h1 h2 => hS.get i (by simpa using h1) h2) (fun i f h => by simpa using offB_get i ho (by simpa using h)) hsz
/-- slices: of the kind of elements e, each as `ok` says -/
theorem Opens.slice {t te : TypeId} {e : Ety} {S : List AV → Prop} {ok : e.T → Prop} (ht : P.underlying t = some (.slice te)) (hsz : P.cellsOf te = e.sz) (he : Opens P w te S) (hok : ∀ l, S l → ∃ x : e.T, e.enc x = l ∧ ok x) :
    Opens P w t fun l => ∃ xs : List e.T, xs.length ≤ maxLen ∧ (∀ x ∈ xs, ok x) ∧ l = [.ro e xs] := fun H enc base spare held fuel cs x hx => by
  rcases DataW.trod_slice ht hx with ⟨rfl, _⟩ | ⟨a, len, cap, elems, rest, n, _, rfl, _, _, hlc, hcm, hel, hg, _⟩
  · exact ⟨[.ro e []], ⟨[], by simp, by simp, rfl⟩, .cons (.ro0 (Nat.zero_le _)) .nil⟩
  · by_cases h0 : len = 0
    · subst h0
      exact ⟨[.ro e []], ⟨[], by simp, by simp, rfl⟩, .cons (.ro0 hcm) .nil⟩
    · have hz := e.sz_pos
      have each : ∀ i, i < len → ∃ (m : e.T) (cs' : List Value), ok m ∧ LRel (oldR w) [] (e.enc m) cs' ∧ w.cells? base (a.add (i * e.sz)) e.sz = some cs' := by
        intro i hi
        have h1 := hg i hi
        rw [List.getElem?_eq_getElem (by omega), hsz] at h1
        obtain ⟨cs', h2, h3⟩ := Option.bind_eq_some_iff.1 h1
        obtain ⟨l, h4, h5⟩ := he H enc base spare held n _ _ h3
        obtain ⟨m, rfl, h6⟩ := hok l h4
        exact ⟨m, cs', h6, h5, h2⟩
      obtain ⟨_, _, _, _, hc0⟩ := each 0 (by omega)
      obtain ⟨hs, arr, ty, fr, hb, _⟩ := cells_of hc0 hz
      have hs0 : a.spot = none := by
        rw [Nat.zero_mul] at hs
        simpa [Addr.add] using hs
      rw [add_block] at hb
      have key : ∀ k, k ≤ len → ∃ xs : List e.T, xs.length = k ∧ (∀ x ∈ xs, ok x) ∧ LRel (oldR w) [] (xs.flatMap e.enc) ((arr.toList.drop a.off).take (k * e.sz)) := by
        intro k
        induction k with
        | zero => intro _; exact ⟨[], rfl, by simp, by simp; exact .nil⟩
        | succ k ih =>
          intro hk
          obtain ⟨xs, h1, h2, h3⟩ := ih (by omega)
          obtain ⟨m, cs', h4, h5, h6⟩ := each k (by omega)
          obtain ⟨_, arr', ty', fr', hb', h7⟩ := cells_of h6 hz
          rw [add_block, hb] at hb'
          cases hb'
          rw [add_off] at h7
          refine ⟨xs ++ [m], by simp [h1], fun x hx => ?_, ?_⟩
          · rcases List.mem_append.1 hx with hx | hx
            · exact h2 x hx
            · rw [List.mem_singleton] at hx
              subst hx
              exact h4
          · rw [List.flatMap_append, List.flatMap_singleton, Nat.succ_mul, List.take_add, List.drop_drop, h7]
            exact h3.app h5
      obtain ⟨xs, h1, h2, h3⟩ := key len (Nat.le_refl _)
      refine ⟨[.ro e xs], ⟨xs, by omega, h2, rfl⟩, .cons ?_ .nil⟩
      obtain ⟨ab, ao, sp⟩ := a
      simp only at hs0
      subst hs0
      rw [← h1]
      exact .ro hb (by rw [h1]; exact h3) (by omega) hcm
/-! ### Arguments -/
def OpensV (P : Program) (w : World) (t : TypeId) (S : AV → Prop) : Prop :=
  ∀ (H : Type) (enc : TypeId × Value → H) (r : Reach) (b0 : Nat) (v : Value) (d : DataW H) (p : List MemPlace), Value.okWide P w r b0 t v → DataW.Trod enc P w 0 (fun _ => true) true t v d p → ∃ a, S a ∧ Rel (oldR w) [] a v
theorem Opens.arg1 {t : TypeId} {S : List AV → Prop} (h : Opens P w t S) (ht : ∀ v r b0, Value.okWide P w r b0 t v → v.cells = #[v]) : OpensV P w t fun a => S [a] := fun H enc r b0 v d p hv hd => by
  obtain ⟨fuel, hd⟩ := hd
  obtain ⟨l, h1, h2⟩ := h H enc _ _ _ fuel _ _ hd
  rw [ht v r b0 hv] at h2
  cases h2 with
  | cons h3 h4 =>
    cases h4
    exact ⟨_, h1, h3⟩
theorem one_of {t : TypeId} {u : TypeDesc} (ht : P.underlying t = some u) (hu : (match u with | .bool | .int _ | .string | .slice _ => true | _ => false) = true) (v : Value) (r : Reach) (b0 : Nat) (hv : Value.okWide P w r b0 t v) : v.cells = #[v] := by
  unfold Value.okWide at hv
  cases u <;> simp at hu <;> simp only [ht] at hv <;> unfold Cell.okWide Cell.ok at hv <;> simp only [ht] at hv <;> cases v <;> first | rfl | (simp at hv; done)
end
/-- a call over nothing but what lies for good leaves what lay there as it is -/
theorem does_calls {P : Program} {g : FuncId} {xs : List AV} {S : AV → Prop} {vs : List Value} {w : World} (H : Does P g xs [] fun a _ => S a) (hr : LRel (oldR w) [] xs vs) : Calls P g vs.toArray w fun e w' => (∃ v a R μ, e = .returned v ∧ S a ∧ Rel R μ a v) ∧ Go.RowKit.Below w.heap.size w w' :=
  (H.run (oldR w) [] w vs hr (old_ok w)).mono fun e w' hx => by
    obtain ⟨v, R', μ', h', av, rfl, h1, h2, _, _, h3⟩ := hx
    exact ⟨⟨v, av, R', μ', rfl, h1, h2⟩, h3.os, h3.tape, h3.output, h3.size, fun k hk => h3.out k hk (by simp [ownH])⟩
theorem does_true {P : Program} {g : FuncId} {xs : List AV} {vs : List Value} {w : World} (H : Does P g xs [] fun a _ => a = .bool true) (hr : LRel (oldR w) [] xs vs) : Calls P g vs.toArray w fun e w' => e = .returned (.bool true) ∧ Go.RowKit.Below w.heap.size w w' :=
  (does_calls H hr).mono fun e w' hx => by
    obtain ⟨⟨v, a, R, μ, rfl, rfl, h2⟩, hb⟩ := hx
    cases h2
    exact ⟨rfl, hb⟩
end Go.V

set_option maxRecDepth 100000
namespace Go.V
open Go.Proofs
theorem byte_enc {n : Int} (h : IntKind.u8.has n) : Ety.enc .byte (UInt8.ofNat n.toNat) = [.int .u8 n] := by
  have h1 : 0 ≤ n ∧ n ≤ 255 := h
  have : ((UInt8.ofNat n.toNat).toNat : Int) = n := by simp; omega
  show [AV.int .u8 ((UInt8.ofNat n.toNat).toNat : Int)] = _
  rw [this]
def okE_byte (x : Ety.T .byte) : Prop := True
def okS_Itm (x : Itm) : Prop := IntKind.i64.has x.apid ∧ IntKind.i64.has x.count ∧ IntKind.i64.has x.time ∧ (x.data.length ≤ maxLen ∧ ∀ y ∈ x.data, okE_byte y)
theorem op_T3 (w : World) : Opens Try.prog w 3 fun l => ∃ n, IntKind.i64.has n ∧ l = [.int .i64 n] := Opens.int Try.underlying3
theorem op_T5 (w : World) : Opens Try.prog w 5 fun l => ∃ n, IntKind.u8.has n ∧ l = [.int .u8 n] := Opens.int Try.underlying5
theorem op_T29 (w : World) : Opens Try.prog w 29 fun l => ∃ xs : List (Ety.T .byte), xs.length ≤ maxLen ∧ (∀ x ∈ xs, okE_byte x) ∧ l = [.ro .byte xs] :=
  Opens.slice (e := .byte) (ok := okE_byte) Try.underlying29 (by kernel_rfl) (op_T5 w) fun l ⟨n, h, e⟩ => ⟨UInt8.ofNat n.toNat, by rw [e]; exact byte_enc h, trivial⟩
theorem op_T31 (w : World) : Opens Try.prog w 31 fun l => ∃ x : Itm, okS_Itm x ∧ l = [.int .i64 x.apid, .int .i64 x.count, .int .i64 x.time, .ro .byte x.data] := by
  refine (Opens.fields Try.underlying31 (Ss := [_, _, _, _]) ⟨op_T3 w, op_T3 w, op_T3 w, op_T29 w, trivial⟩ (by kernel_rfl) (by kernel_rfl)).mono ?_
  rintro l ⟨ls, h1, h2, rfl⟩
  obtain ⟨a0, a1, a2, a3, rfl⟩ : ∃ a0 a1 a2 a3, ls = [a0, a1, a2, a3] := by
    match ls, h1 with
    | [a0, a1, a2, a3], _ => exact ⟨a0, a1, a2, a3, rfl⟩
  obtain ⟨x0, h10, rfl⟩ := h2 0 _ _ rfl rfl
  obtain ⟨x1, h11, rfl⟩ := h2 1 _ _ rfl rfl
  obtain ⟨x2, h12, rfl⟩ := h2 2 _ _ rfl rfl
  obtain ⟨x3, h13, g13, rfl⟩ := h2 3 _ _ rfl rfl
  exact ⟨⟨x0, x1, x2, x3⟩, ⟨h10, h11, h12, ⟨h13, g13⟩⟩, rfl⟩
def okE_itm (x : Ety.T .itm) : Prop := okS_Itm x
theorem op_T40 (w : World) : Opens Try.prog w 40 fun l => ∃ xs : List (Ety.T .itm), xs.length ≤ maxLen ∧ (∀ x ∈ xs, okE_itm x) ∧ l = [.ro .itm xs] :=
  Opens.slice (e := .itm) (ok := okE_itm) Try.underlying40 (by kernel_rfl) (op_T31 w) fun l ⟨x, h, e⟩ => ⟨x, e.symm, h⟩
theorem arg_T40 (w : World) : OpensV Try.prog w 40 fun a => ∃ xs : List (Ety.T .itm), xs.length ≤ maxLen ∧ (∀ x ∈ xs, okE_itm x) ∧ a = .ro .itm xs := fun H enc r b0 v d p hv hd => by
  obtain ⟨a, ⟨n, h1, h2, e⟩, h⟩ := (op_T40 w).arg1 (one_of Try.underlying40 rfl) H enc r b0 v d p hv hd
  cases e
  exact ⟨_, ⟨n, h1, h2, rfl⟩, h⟩
/-- a law that was walked -/
theorem law_true {g : FuncId} {la : List AV} {vs : List Value} {w : World} (H : DoesK Try.prog 0 g la [] (EndF 0 (.bool true) [])) (hb : brL [] [] la la) (hr : LRel (oldR w) [] la vs) : Calls Try.prog g vs.toArray w fun e w' => e = .returned (.bool true) ∧ Go.RowKit.Below w.heap.size w w' :=
  does_true (frame_pure H hb (.inr rfl) (fun _ => rfl) rfl) hr
end Go.V
