/-
  Rt
  Rt2
  Sm
-/
import Derived.Test.YtalpgifnkajkbaaPart11
set_option linter.unusedVariables false
set_option linter.unusedSimpArgs false
namespace Go.V
/-- two blocks with no key in common change places -/
theorem KE_rot {f : Int → Int} {U V : List Int} (h : ∀ u ∈ U, ∀ v ∈ V, f u ≠ f v) : KE f (U ++ V) (V ++ U) := fun k => by
  rw [List.filter_append, List.filter_append]
  by_cases c : ∃ u ∈ U, f u = k
  · obtain ⟨u, hu, hk⟩ := c
    have e : V.filter (fun a => decide (f a = k)) = [] := List.filter_eq_nil_iff.2 fun v hv => by
      have := h u hu v hv
      simp only [decide_eq_true_eq]
      omega
    rw [e, List.append_nil, List.nil_append]
  · have e : U.filter (fun a => decide (f a = k)) = [] := List.filter_eq_nil_iff.2 fun u hu => by
      simp only [decide_eq_true_eq]
      exact fun q => c ⟨u, hu, q⟩
    rw [e, List.append_nil, List.nil_append]
theorem KE_rot3 {f : Int → Int} {A U V B : List Int} (h : ∀ u ∈ U, ∀ v ∈ V, f u ≠ f v) : KE f (A ++ U ++ V ++ B) (A ++ V ++ U ++ B) := by
  rw [List.append_assoc A U V, List.append_assoc A V U]
  exact KE.app (KE.app KE.refl (KE_rot h)) KE.refl
/-- places a+k and b+k change their contents, k below n -/
def swR (a b : Nat) : Nat → List Int → List Int
  | 0, xs => xs
  | k + 1, xs => ((swR a b k xs).set (a + k) ((swR a b k xs).getD (b + k) 0)).set (b + k) ((swR a b k xs).getD (a + k) 0)
theorem swR_len {a b : Nat} : ∀ {k : Nat} {xs : List Int}, (swR a b k xs).length = xs.length
  | 0, _ => rfl
  | k + 1, xs => by rw [swR, List.length_set, List.length_set, swR_len]
theorem getD_set {xs : List Int} {p i : Nat} {y : Int} (hp : p < xs.length) : (xs.set p y).getD i 0 = if i = p then y else xs.getD i 0 := by
  rw [List.getD_eq_getElem?_getD]
  by_cases e : i = p
  · rw [if_pos e, e, List.getElem?_set_self hp]; rfl
  · rw [if_neg e, List.getElem?_set_ne (fun q => e q.symm), List.getD_eq_getElem?_getD]
theorem swR_get {a b : Nat} : ∀ {k : Nat} {xs : List Int}, a + k ≤ b → b + k ≤ xs.length → ∀ i, (swR a b k xs).getD i 0 = if a ≤ i ∧ i < a + k then xs.getD (b + (i - a)) 0 else if b ≤ i ∧ i < b + k then xs.getD (a + (i - b)) 0 else xs.getD i 0
  | 0, xs, _, _, i => by rw [if_neg (by omega), if_neg (by omega)]; rfl
  | k + 1, xs, h1, h2, i => by
    have hl := swR_len (a := a) (b := b) (k := k) (xs := xs)
    have ih := swR_get (a := a) (b := b) (k := k) (xs := xs) (by omega) (by omega)
    rw [swR, getD_set (by rw [List.length_set]; omega), getD_set (by omega)]
    by_cases e1 : i = b + k
    · rw [if_pos e1, ih, if_neg (by omega), if_neg (by omega), if_neg (by omega), if_pos (by omega)]
      congr 1; omega
    · rw [if_neg e1]
      by_cases e2 : i = a + k
      · rw [if_pos e2, ih, if_neg (by omega), if_neg (by omega), if_pos (by omega)]
        congr 1; omega
      · rw [if_neg e2, ih]
        by_cases c1 : a ≤ i ∧ i < a + k
        · rw [if_pos c1, if_pos (by omega)]
        · rw [if_neg c1]
          by_cases c2 : b ≤ i ∧ i < b + k
          · rw [if_pos c2, if_neg (by omega), if_pos (by omega)]
          · rw [if_neg c2, if_neg (by omega), if_neg (by omega)]
end Go.V

namespace Go.V
theorem getD_app {A B : List Int} {i : Nat} : (A ++ B).getD i 0 = if i < A.length then A.getD i 0 else B.getD (i - A.length) 0 := by
  rw [List.getD_eq_getElem?_getD]
  by_cases h : i < A.length
  · rw [if_pos h, List.getElem?_append_left h, List.getD_eq_getElem?_getD]
  · rw [if_neg h, List.getElem?_append_right (by omega), List.getD_eq_getElem?_getD]
theorem ext_getD {A B : List Int} (hl : A.length = B.length) (h : ∀ i, i < A.length → A.getD i 0 = B.getD i 0) : A = B := by
  refine List.ext_getElem hl fun i h1 h2 => ?_
  have := h i h1
  rw [List.getD_eq_getElem?_getD, List.getD_eq_getElem?_getD, List.getElem?_eq_getElem h1, List.getElem?_eq_getElem h2] at this
  exact this
/-- two blocks of the same length change places -/
theorem swR_list {A X M Y B : List Int} (h : X.length = Y.length) : swR A.length (A.length + X.length + M.length) X.length (A ++ X ++ M ++ Y ++ B) = A ++ Y ++ M ++ X ++ B := by
  refine ext_getD (by rw [swR_len]; simp only [List.length_append]; omega) fun i hi => ?_
  rw [swR_len] at hi
  simp only [List.length_append] at hi
  rw [swR_get (by omega) (by simp only [List.length_append]; omega)]
  simp only [getD_app, List.length_append]
  by_cases c1 : i < A.length
  · rw [if_neg (by omega), if_neg (by omega)]
    simp only [c1, show i < A.length + X.length by omega, show i < A.length + Y.length by omega, show i < A.length + X.length + M.length by omega, show i < A.length + Y.length + M.length by omega, show i < A.length + X.length + M.length + Y.length by omega, show i < A.length + Y.length + M.length + X.length by omega, if_true]
  by_cases c2 : i < A.length + X.length
  · rw [if_pos (by omega)]
    simp only [show ¬ (A.length + X.length + M.length + (i - A.length)) < A.length by omega, show ¬ (A.length + X.length + M.length + (i - A.length)) < A.length + X.length by omega, show ¬ (A.length + X.length + M.length + (i - A.length)) < A.length + X.length + M.length by omega, show (A.length + X.length + M.length + (i - A.length)) < A.length + X.length + M.length + Y.length by omega, c1, show i < A.length + Y.length by omega, show i < A.length + Y.length + M.length by omega, show i < A.length + Y.length + M.length + X.length by omega, if_true, if_false]
    congr 1; omega
  rw [if_neg (by omega)]
  by_cases c3 : i < A.length + X.length + M.length
  · rw [if_neg (by omega)]
    simp only [c1, c2, c3, show ¬ i < A.length + Y.length by omega, show i < A.length + Y.length + M.length by omega, show i < A.length + X.length + M.length + Y.length by omega, show i < A.length + Y.length + M.length + X.length by omega, if_true, if_false]
    congr 1; omega
  by_cases c4 : i < A.length + X.length + M.length + Y.length
  · rw [if_pos (by omega)]
    simp only [show ¬ (A.length + (i - (A.length + X.length + M.length))) < A.length by omega, show (A.length + (i - (A.length + X.length + M.length))) < A.length + X.length by omega, show (A.length + (i - (A.length + X.length + M.length))) < A.length + X.length + M.length by omega, show (A.length + (i - (A.length + X.length + M.length))) < A.length + X.length + M.length + Y.length by omega, c1, show ¬ i < A.length + Y.length by omega, show ¬ i < A.length + Y.length + M.length by omega, show i < A.length + Y.length + M.length + X.length by omega, if_true, if_false]
    congr 1; omega
  · rw [if_neg (by omega)]
    simp only [c1, c2, c3, c4, show ¬ i < A.length + Y.length by omega, show ¬ i < A.length + Y.length + M.length by omega, show ¬ i < A.length + Y.length + M.length + X.length by omega, if_false]
    congr 1; omega
end Go.V

namespace Go.V
theorem srt_congrK {f : Int → Int} {xs ys : List Int} (h : KE f xs ys) : srt f xs = srt f ys := srt_uniq srt_Srt srt_Srt ((srt_KE.trans h).trans srt_KE.symm)
theorem srt_id {f : Int → Int} {xs : List Int} (h : Srt f xs) : srt f xs = xs := srt_uniq srt_Srt h srt_KE
theorem srt_lenK {f : Int → Int} : ∀ {l : List Int}, (srt f l).length = l.length
  | [] => rfl
  | x :: xs => by
    have : ∀ {x : Int} {l : List Int}, (insF f x l).length = l.length + 1 := by
      intro x l
      induction l with
      | nil => rfl
      | cons y ys ih =>
        unfold insF
        split
        · rfl
        · simp [ih]
    rw [srt, this, srt_lenK]; rfl
theorem Srt_app {f : Int → Int} {L R : List Int} : Srt f (L ++ R) ↔ Srt f L ∧ Srt f R ∧ ∀ u ∈ L, ∀ v ∈ R, f u ≤ f v := List.pairwise_append
theorem srt_two {f : Int → Int} {L R : List Int} (h : ∀ u ∈ L, ∀ v ∈ R, f u ≤ f v) : srt f (L ++ R) = srt f L ++ srt f R :=
  srt_uniq srt_Srt (Srt_app.2 ⟨srt_Srt, srt_Srt, fun u hu v hv => h u (srt_KE.mem hu) v (srt_KE.mem hv)⟩) (srt_KE.trans (KE.app srt_KE srt_KE).symm)
theorem sym_list {f : Int → Int} {L1 U V L2 : List Int} (h1 : Srt f (L1 ++ U)) (h2 : Srt f (V ++ L2)) (h3 : ∀ u ∈ U, ∀ v ∈ V, f v < f u) (h4 : ∀ u ∈ L1, ∀ v ∈ L2, f u ≤ f v) : srt f (L1 ++ U ++ V ++ L2) = srt f (L1 ++ V) ++ srt f (U ++ L2) := by
  have hk := KE_rot3 (f := f) (A := L1) (U := U) (V := V) (B := L2) fun u hu v hv => by have := h3 u hu v hv; omega
  rw [srt_congrK hk, List.append_assoc (L1 ++ V)]
  refine srt_two fun u hu v hv => ?_
  rcases List.mem_append.1 hu with hu | hu <;> rcases List.mem_append.1 hv with hv | hv
  · exact (Srt_app.1 h1).2.2 u hu v hv
  · exact h4 u hu v hv
  · have := h3 v hv u hu; omega
  · exact (Srt_app.1 h2).2.2 u hu v hv
theorem srtR_app {f : Int → Int} {A M B : List Int} {a b : Nat} (ha : a = A.length) (hb : b = A.length + M.length) : srtR f a b (A ++ M ++ B) = A ++ srt f M ++ B := by
  subst ha; subst hb
  have e1 : (A ++ M ++ B).take A.length = A := by rw [List.append_assoc, List.take_left']; rfl
  have e2 : (A ++ M ++ B).take (A.length + M.length) = A ++ M := by rw [List.take_left']; simp
  have e3 : (A ++ M ++ B).drop (A.length + M.length) = B := by rw [List.drop_left']; simp
  unfold srtR
  rw [e1, e2, e3, List.drop_left']; rfl
/-- a part of a list, cut out -/
theorem part_app {A M B : List Int} {a b : Nat} (ha : a = A.length) (hb : b = A.length + M.length) : ((A ++ M ++ B).take b).drop a = M := by
  subst ha; subst hb
  have e2 : (A ++ M ++ B).take (A.length + M.length) = A ++ M := by rw [List.take_left']; simp
  rw [e2, List.drop_left']; rfl
theorem Srt_ix {f : Int → Int} {a b : Nat} {xs : List Int} (h : Srt f ((xs.take b).drop a)) (hb : b ≤ xs.length) {u v : Nat} (h1 : a ≤ u) (h2 : u < v) (h3 : v < b) : f (xs.getD u 0) ≤ f (xs.getD v 0) := by
  have hl : ((xs.take b).drop a).length = b - a := by rw [List.length_drop, List.length_take]; omega
  have := List.pairwise_iff_getElem.1 h (u - a) (v - a) (by omega) (by omega) (by omega)
  simp only [List.getElem_drop, List.getElem_take] at this
  have q : ∀ i, a ≤ i → (hi : i < xs.length) → (hj : a + (i - a) < xs.length) → xs[a + (i - a)] = xs.getD i 0 := fun i hi hi' hj => by
    rw [List.getD_eq_getElem?_getD, List.getElem?_eq_getElem hi', Option.getD_some]
    congr 1; omega
  rw [q u h1 (by omega), q v (by omega) (by omega)] at this
  exact this
theorem Srt_ix' {f : Int → Int} {a b : Nat} {xs : List Int} (h : Srt f ((xs.take b).drop a)) (hb : b ≤ xs.length) {u v : Nat} (h1 : a ≤ u) (h2 : u ≤ v) (h3 : v < b) : f (xs.getD u 0) ≤ f (xs.getD v 0) := by
  rcases Nat.lt_or_ge u v with q | q
  · exact Srt_ix h hb h1 q h3
  · obtain rfl : u = v := by omega
    exact Int.le_refl _
theorem mem_part {a b : Nat} {xs : List Int} {u : Int} (hb : b ≤ xs.length) (h : u ∈ (xs.take b).drop a) : ∃ i, a ≤ i ∧ i < b ∧ xs.getD i 0 = u := by
  obtain ⟨i, hi, e⟩ := List.getElem_of_mem h
  rw [List.length_drop, List.length_take] at hi
  rw [List.getElem_drop, List.getElem_take] at e
  exact ⟨a + i, by omega, by omega, by rw [List.getD_eq_getElem?_getD, List.getElem?_eq_getElem (by omega)]; exact e⟩
theorem part_cut {a m b : Nat} {xs : List Int} (h1 : a ≤ m) (h2 : m ≤ b) : (xs.take b).drop a = (xs.take m).drop a ++ (xs.take b).drop m := by
  have e : (xs.take m).drop a = ((xs.take b).drop a).take (m - a) := by
    rw [List.take_drop, List.take_take, Nat.min_eq_left (by omega), Nat.add_sub_cancel' h1]
  have e2 : (xs.take b).drop m = ((xs.take b).drop a).drop (m - a) := by
    rw [List.drop_drop, Nat.add_sub_cancel' h1]
  rw [e, e2, List.take_append_drop]
/-- what remains to do behind the rotation -/
theorem sym_pack {f : Int → Int} {xs : List Int} {a m b c s e : Nat} (q1 : a ≤ s) (q2 : s ≤ m) (q3 : m ≤ e) (q4 : e ≤ b) (q5 : b ≤ xs.length) (hc : c + m = s + e)
    (h1 : Srt f ((xs.take m).drop a)) (h2 : Srt f ((xs.take b).drop m)) (h3 : s < m → m < e → f (xs.getD (e - 1) 0) < f (xs.getD s 0)) (h4 : a < s → e < b → f (xs.getD (s - 1) 0) ≤ f (xs.getD e 0)) :
    ∃ ys, xs.take s ++ (xs.take e).drop m ++ (xs.take m).drop s ++ xs.drop e = ys ∧ (s = m ∨ m = e → ys = xs) ∧ ys.length = xs.length ∧ KE f xs ys ∧ Srt f ((ys.take s).drop a) ∧ Srt f ((ys.take c).drop s) ∧ (s = a ∨ s = c → srtR f a c ys = ys) ∧
    ∃ ws, srtR f a c ys = ws ∧ ws.length = xs.length ∧ KE f xs ws ∧ Srt f ((ws.take e).drop c) ∧ Srt f ((ws.take b).drop e) ∧ (e = c ∨ e = b → srtR f c b ws = ws) ∧ srtR f c b ws = srtR f a b xs := by
  have c1 := part_cut (xs := xs) q1 q2
  have c2 := part_cut (xs := xs) q3 q4
  obtain ⟨A, hA⟩ : ∃ A, xs.take a = A := ⟨_, rfl⟩
  obtain ⟨L1, hL1⟩ : ∃ A, (xs.take s).drop a = A := ⟨_, rfl⟩
  obtain ⟨U, hU⟩ : ∃ A, (xs.take m).drop s = A := ⟨_, rfl⟩
  obtain ⟨V, hV⟩ : ∃ A, (xs.take e).drop m = A := ⟨_, rfl⟩
  obtain ⟨L2, hL2⟩ : ∃ A, (xs.take b).drop e = A := ⟨_, rfl⟩
  obtain ⟨B, hB⟩ : ∃ A, xs.drop b = A := ⟨_, rfl⟩
  have lA : A.length = a := by rw [← hA, List.length_take]; omega
  have lL1 : L1.length = s - a := by rw [← hL1, List.length_drop, List.length_take]; omega
  have lU : U.length = m - s := by rw [← hU, List.length_drop, List.length_take]; omega
  have lV : V.length = e - m := by rw [← hV, List.length_drop, List.length_take]; omega
  have lL2 : L2.length = b - e := by rw [← hL2, List.length_drop, List.length_take]; omega
  have k3 : ∀ u ∈ U, ∀ v ∈ V, f v < f u := fun u hu v hv => by
    rw [← hU] at hu; rw [← hV] at hv
    obtain ⟨i, i1, i2, rfl⟩ := mem_part (by omega) hu
    obtain ⟨j, j1, j2, rfl⟩ := mem_part (by omega) hv
    have := h3 (by omega) (by omega)
    have w1 := Srt_ix' h1 (by omega) (u := s) (v := i) q1 i1 i2
    have w2 := Srt_ix' h2 q5 (u := j) (v := e - 1) j1 (by omega) (by omega)
    omega
  have k4 : ∀ u ∈ L1, ∀ v ∈ L2, f u ≤ f v := fun u hu v hv => by
    rw [← hL1] at hu; rw [← hL2] at hv
    obtain ⟨i, i1, i2, rfl⟩ := mem_part (by omega) hu
    obtain ⟨j, j1, j2, rfl⟩ := mem_part q5 hv
    have := h4 (by omega) (by omega)
    have w1 := Srt_ix' h1 (by omega) (u := i) (v := s - 1) i1 (by omega) (by omega)
    have w2 := Srt_ix' h2 q5 (u := e) (v := j) (by omega) j1 j2
    omega
  rw [c1, hL1, hU] at h1
  rw [c2, hV, hL2] at h2
  have hs : xs.take s = A ++ L1 := by
    have := part_cut (xs := xs) (a := 0) (m := a) (b := s) (by omega) q1
    rw [List.drop_zero, List.drop_zero, hA, hL1] at this
    exact this
  have he : xs.drop e = L2 ++ B := by
    have e1 := cut3 (xs := xs) q4
    have e2 := List.take_append_drop e xs
    rw [hL2, hB, List.append_assoc] at e1
    exact List.append_cancel_left (e2.trans e1.symm)
  have hm : xs.take m = A ++ L1 ++ U := by
    have := part_cut (xs := xs) (a := 0) (m := s) (b := m) (by omega) q2
    rw [List.drop_zero, List.drop_zero, hs, hU] at this
    exact this
  have hxs : xs = A ++ (L1 ++ U ++ V ++ L2) ++ B := by
    have e2 := List.take_append_drop e xs
    have := part_cut (xs := xs) (a := 0) (m := m) (b := e) (by omega) q3
    rw [List.drop_zero, List.drop_zero, hm, hV] at this
    rw [this, he] at e2
    rw [← e2]
    simp only [List.append_assoc]
  have hys : A ++ L1 ++ V ++ U ++ (L2 ++ B) = A ++ (L1 ++ V) ++ (U ++ L2 ++ B) := by simp only [List.append_assoc]
  have hkr := KE_rot3 (f := f) (A := A ++ L1) (U := U) (V := V) (B := L2 ++ B) fun u hu v hv => by have := k3 u hu v hv; omega
  have e0 : A ++ L1 ++ U ++ V ++ (L2 ++ B) = xs := by rw [hxs]; simp only [List.append_assoc]
  rw [e0] at hkr
  have p1 := Srt_app.1 h1
  have p2 := Srt_app.1 h2
  rw [hs, hV, hU, he]
  have eS : srtR f a c (A ++ L1 ++ V ++ U ++ (L2 ++ B)) = A ++ srt f (L1 ++ V) ++ (U ++ L2 ++ B) := by
    rw [hys]; exact srtR_app lA.symm (by rw [List.length_append]; omega)
  have lS : (srt f (L1 ++ V)).length = c - a := by rw [srt_lenK, List.length_append]; omega
  have eT : A ++ srt f (L1 ++ V) ++ (U ++ L2 ++ B) = (A ++ srt f (L1 ++ V)) ++ (U ++ L2) ++ B := by simp only [List.append_assoc]
  have eU : srtR f c b (A ++ srt f (L1 ++ V) ++ (U ++ L2 ++ B)) = (A ++ srt f (L1 ++ V)) ++ srt f (U ++ L2) ++ B := by
    rw [eT]; exact srtR_app (by rw [List.length_append]; omega) (by rw [List.length_append, List.length_append]; omega)
  refine ⟨_, rfl, fun h => ?_, ?_, hkr, ?_, ?_, fun h => ?_, _, rfl, ?_, ?_, ?_, ?_, fun h => ?_, ?_⟩
  · have : U = [] ∨ V = [] := by
      rcases h with h | h
      · exact .inl (List.eq_nil_of_length_eq_zero (by omega))
      · exact .inr (List.eq_nil_of_length_eq_zero (by omega))
    rcases this with q | q
    · rw [hxs, q]; simp only [List.append_assoc, List.nil_append, List.append_nil]
    · rw [hxs, q]; simp only [List.append_assoc, List.nil_append, List.append_nil]
  · conv => rhs; rw [hxs]
    simp only [List.length_append]; omega
  · rw [show A ++ L1 ++ V ++ U ++ (L2 ++ B) = A ++ L1 ++ (V ++ U ++ L2 ++ B) by simp only [List.append_assoc], part_app lA.symm (by omega)]
    exact p1.1
  · rw [show A ++ L1 ++ V ++ U ++ (L2 ++ B) = (A ++ L1) ++ V ++ (U ++ L2 ++ B) by simp only [List.append_assoc], part_app (by rw [List.length_append]; omega) (by rw [List.length_append]; omega)]
    exact p2.1
  · rw [eS, srt_id]
    · simp only [List.append_assoc]
    · rcases h with h | h
      · have : L1 = [] := List.eq_nil_of_length_eq_zero (by omega)
        rw [this]; exact p2.1
      · have : V = [] := List.eq_nil_of_length_eq_zero (by omega)
        rw [this, List.append_nil]; exact p1.1
  · rw [eS]
    conv => rhs; rw [hxs]
    simp only [List.length_append, lS]; omega
  · rw [eS]
    refine hkr.trans ?_
    rw [hys]
    exact KE.app (KE.app KE.refl srt_KE.symm) KE.refl
  · rw [eS, show A ++ srt f (L1 ++ V) ++ (U ++ L2 ++ B) = (A ++ srt f (L1 ++ V)) ++ U ++ (L2 ++ B) by simp only [List.append_assoc], part_app (by rw [List.length_append]; omega) (by rw [List.length_append]; omega)]
    exact p1.2.1
  · rw [eS, show A ++ srt f (L1 ++ V) ++ (U ++ L2 ++ B) = (A ++ srt f (L1 ++ V) ++ U) ++ L2 ++ B by simp only [List.append_assoc], part_app (by simp only [List.length_append]; omega) (by simp only [List.length_append]; omega)]
    exact p2.2.1
  · rw [eS, eU, srt_id (xs := U ++ L2)]
    · simp only [List.append_assoc]
    · rcases h with h | h
      · have : U = [] := List.eq_nil_of_length_eq_zero (by omega)
        rw [this]; exact p2.2.1
      · have : L2 = [] := List.eq_nil_of_length_eq_zero (by omega)
        rw [this, List.append_nil]; exact p1.2.1
  · rw [eS, eU, hxs, srtR_app lA.symm (by simp only [List.length_append]; omega), sym_list h1 h2 k3 k4]
    simp only [List.append_assoc]
end Go.V
