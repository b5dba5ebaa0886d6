/-
  slices.SortFunc at elements of whatever kind: the shelf's contract over the abstract memory.
  Sets of integers as lists of ranges: the plain law.
  ranges: IndexFunc, ContainsFunc, Clone, DeleteFunc of slices; Has, Valid, Same.
-/
import Derived.Test.YtgijhjmegicnfaaPart08
import Derived.Shelf.SlSortCmp.WholeK
import Derived.Shelf.SlSortCmp.NoneTotal
import Derived.Sort.OwnSorted
import Derived.Test.YtgijhjmegicnfaaPart09
import Derived.Test.YtgijhjmegicnfaaPart10
set_option linter.unusedVariables false
set_option linter.unusedSimpArgs false
namespace Go.V
open Go.Sort Go.Shelf Go.RowKit Go.Proofs

theorem rel_int {R : RO} {μ : List Bind} {k k' : IntKind} {n m : Int} (h : Rel R μ (.int k n) (.int k' m)) : m = n := by cases h; rfl
/-- two lists, element by element -/
inductive All2 {α β : Type} (r : α → β → Prop) : List α → List β → Prop
  | nil : All2 r [] []
  | cons {a b l m} (h : r a b) (hs : All2 r l m) : All2 r (a :: l) (b :: m)
theorem All2.len {α β : Type} {r : α → β → Prop} : ∀ {l : List α} {m : List β}, All2 r l m → l.length = m.length
  | _, _, .nil => rfl
  | _, _, .cons _ hs => by simp [All2.len hs]
theorem All2.perm {α β : Type} {r : α → β → Prop} {d d' : List β} (hp : d.Perm d') : ∀ {xs : List α}, All2 r xs d → ∃ ys, xs.Perm ys ∧ All2 r ys d' := by
  induction hp with
  | nil => intro xs h; cases h; exact ⟨[], .nil, .nil⟩
  | cons b _ ih =>
    intro xs h
    cases h with
    | cons h1 h2 =>
      obtain ⟨ys, p1, p2⟩ := ih h2
      exact ⟨_ :: ys, p1.cons _, .cons h1 p2⟩
  | swap b c l =>
    intro xs h
    cases h with
    | cons h1 h2 =>
      cases h2 with
      | cons h3 h4 => exact ⟨_, List.Perm.swap _ _ _, .cons h3 (.cons h1 h4)⟩
  | trans _ _ ih1 ih2 =>
    intro xs h
    obtain ⟨ys, p1, p2⟩ := ih1 h
    obtain ⟨zs, p3, p4⟩ := ih2 p2
    exact ⟨zs, p1.trans p3, p4⟩
theorem All2.get {α β : Type} {r : α → β → Prop} : ∀ {l : List α} {m : List β}, All2 r l m → ∀ (i : Nat) (h1 : i < l.length) (h2 : i < m.length), r l[i] m[i]
  | _, _, .nil, i, h1, _ => by simp at h1
  | _, _, .cons h _, 0, _, _ => h
  | _, _, .cons _ hs, i + 1, h1, h2 => All2.get hs i (by simpa using h1) (by simpa using h2)
theorem flat_split {R : RO} {e : Ety} {α : Type} {enc : α → List Value} (hdec : ∀ (x : e.T) (cs : List Value), LRel R [] (e.enc x) cs → ∃ a, enc a = cs) : ∀ {xs : List e.T} {cs : List Value}, LRel R [] (xs.flatMap e.enc) cs → ∃ d : List α, cs = d.flatMap enc ∧ All2 (fun x a => LRel R [] (e.enc x) (enc a)) xs d
  | [], cs, h => by cases h; exact ⟨[], rfl, .nil⟩
  | x :: xs, cs, h => by
    rw [List.flatMap_cons] at h
    have h1 := h.take (e.enc x).length
    rw [List.take_left] at h1
    have h2 := h.drop (e.enc x).length
    rw [List.drop_left] at h2
    obtain ⟨a, ha⟩ := hdec x _ h1
    obtain ⟨d, hd, hall⟩ := flat_split hdec h2
    refine ⟨a :: d, ?_, .cons (by rw [ha]; exact h1) hall⟩
    rw [List.flatMap_cons, ← hd, ha, List.take_append_drop]
theorem flat_join {R : RO} {e : Ety} {α : Type} {enc : α → List Value} : ∀ {xs : List e.T} {d : List α}, All2 (fun x a => LRel R [] (e.enc x) (enc a)) xs d → LRel R [] (xs.flatMap e.enc) (d.flatMap enc)
  | _, _, .nil => .nil
  | _, _, .cons h hs => by
    rw [List.flatMap_cons, List.flatMap_cons]
    exact h.app (flat_join hs)
section
variable {α : Type} [Inhabited α] {enc : α → List Value} {k : Nat}
theorem flatMap_get (hk : ∀ x, (enc x).length = k) (k0 : 0 < k) : ∀ (l : List α) (t : Nat), t < l.length * k → (l.flatMap enc)[t]? = (enc (l.getD (t / k) default))[t % k]?
  | [], t, h => by simp at h
  | x :: l, t, h => by
    rw [List.flatMap_cons]
    by_cases ht : t < k
    · rw [List.getElem?_append_left (by rw [hk]; exact ht), Nat.div_eq_of_lt ht, Nat.mod_eq_of_lt ht]
      rfl
    · have h1 : t - k < l.length * k := by
        rw [List.length_cons, Nat.succ_mul] at h
        omega
      rw [List.getElem?_append_right (by rw [hk]; omega), hk, flatMap_get hk k0 l _ h1]
      have e1 : t / k = (t - k) / k + 1 := by
        rw [Nat.div_eq t k, if_pos ⟨k0, by omega⟩]
      have e2 : t % k = (t - k) % k := by
        rw [Nat.mod_eq t k, if_pos ⟨k0, by omega⟩]
      rw [e1, e2]
      rfl
omit [Inhabited α] in
theorem flatMap_len (hk : ∀ x, (enc x).length = k) : ∀ l : List α, (l.flatMap enc).length = l.length * k
  | [] => by simp
  | x :: l => by rw [List.flatMap_cons, List.length_append, hk, flatMap_len hk l, List.length_cons, Nat.succ_mul]; omega
theorem flatK_list (hk : ∀ x, (enc x).length = k) (k0 : 0 < k) (d : Array α) : (flatK enc k d).toList = d.toList.flatMap enc := by
  apply List.ext_getElem?
  intro t
  by_cases h : t < d.size * k
  · rw [flatMap_get hk k0 d.toList t (by simpa using h)]
    have h1 := get_flatK enc k d t h
    have hs : t < (flatK enc k d).size := by rw [size_flatK]; exact h
    rw [getElem!_pos (flatK enc k d) t hs] at h1
    have h2 : (flatK enc k d).toList[t]? = some (flatK enc k d)[t] := by rw [Array.getElem?_toList, Array.getElem?_eq_getElem hs]
    rw [h2, h1]
    have hd : t / k < d.size := Nat.div_lt_of_lt_mul (by rw [Nat.mul_comm]; exact h)
    rw [getElem!_pos d (t / k) hd]
    have e3 : d.toList.getD (t / k) default = d[t / k] := by
      rw [List.getD_eq_getElem?_getD, List.getElem?_eq_getElem (by simpa using hd)]
      simp
    rw [e3]
    have hm : t % k < (enc d[t / k]).length := by rw [hk]; exact Nat.mod_lt _ k0
    rw [getElem!_pos (enc d[t / k]) (t % k) hm, List.getElem?_eq_getElem hm]
  · rw [List.getElem?_eq_none (by rw [Array.length_toList, size_flatK]; omega), List.getElem?_eq_none (by rw [flatMap_len hk]; simp; omega)]
theorem holdsK_of {w : World} {g : Nat} {cur : Array Value} {ty : TypeId} {d : List α} (hk : ∀ x, (enc x).length = k) (k0 : 0 < k) (hb : w.heap[g]? = some (.cells cur ty (0, 0))) (ht : cur.toList.take (d.length * k) = d.flatMap enc) : HoldsK enc k w g 0 d.toArray := by
  intro j hj
  rw [size_flatK] at hj
  have hj' : j < d.length * k := by simpa using hj
  have h2 : (flatK enc k d.toArray).toList = d.flatMap enc := flatK_list hk k0 _
  have h1 : (cur.toList.take (d.length * k))[j]? = (flatK enc k d.toArray).toList[j]? := by rw [ht, h2]
  have hjs : j < (flatK enc k d.toArray).size := by rw [size_flatK]; exact hj
  rw [List.getElem?_take_of_lt hj', Array.getElem?_toList, Array.getElem?_toList, Array.getElem?_eq_getElem hjs] at h1
  refine ⟨?_, by simp [World.frozen?, hb]⟩
  simp only [World.cell?, hb, Nat.zero_add, Option.isSome_none, Bool.false_eq_true, if_false]
  rw [h1, getElem!_pos (flatK enc k d.toArray) j hjs]
  rfl
theorem heapK_sorted {w : World} {g n : Nat} {os : Array Obj} {cur : Array Value} {ty : TypeId} {fr : Nat × Nat} (d : Array α) (hb : w.heap[g]? = some (.cells cur ty fr)) :
    (sortWorldK enc k w g 0 n d os).heap[g]? = some (.cells (putCells id 0 (flatK enc k d) cur) ty fr) := by
  have hg : g < w.heap.size := (Array.getElem?_eq_some_iff.1 hb).1
  unfold sortWorldK putRowK
  rw [heap_grow_old _ _ (by simpa using hg)]
  simp [putRow, mapBlock, Sort.ahead, Array.getElem?_modify, hb, onCells]
theorem grownByK_sorted {w : World} {g n : Nat} {os : Array Obj} (d : Array α) : w.grownBy (sortWorldK enc k w g 0 n d os) (some g) := by
  unfold sortWorldK putRowK
  refine ⟨rfl, rfl, rfl, by simp, fun i hi hne => ?_⟩
  rw [heap_grow_old _ _ (by simpa using hi)]
  have : g ≠ i := fun e => hne (by rw [e])
  simp [putRow, mapBlock, Sort.ahead, Array.getElem?_modify, this]
theorem takeK_putCells (hk : ∀ x, (enc x).length = k) (k0 : 0 < k) (cur : Array Value) (d : List α) (h : d.length * k ≤ cur.size) : (putCells id 0 (flatK enc k d.toArray) cur).toList.take (d.length * k) = d.flatMap enc := by
  have h2 : (flatK enc k d.toArray).toList = d.flatMap enc := flatK_list hk k0 _
  have hsz : (flatK enc k d.toArray).size = d.length * k := by rw [size_flatK]; simp
  apply List.ext_getElem?
  intro j
  by_cases hj : j < d.length * k
  · rw [List.getElem?_take_of_lt hj, Array.getElem?_toList, ← h2, Array.getElem?_toList]
    have h3 : j < (flatK enc k d.toArray).size := by rw [hsz]; exact hj
    rw [Array.getElem?_eq_getElem h3]
    have h5 : (flatK enc k d.toArray)[j]! = (flatK enc k d.toArray)[j] := getElem!_pos (flatK enc k d.toArray) j h3
    simp [putCells, hj, show j < cur.size by omega, h5]
  · rw [List.getElem?_take_eq_none (by omega), List.getElem?_eq_none (by rw [flatMap_len hk]; omega)]
end
theorem sort_cmpK {P : Program} {g : FuncId} (hr : Here P g) {e : Ety} {α : Type} [Inhabited α] {enc : α → List Value} (hk : ∀ a, (enc a).length = e.sz) {fc : FuncId} {cf : α → α → Int} {lt : e.T → e.T → Bool}
    (hdec : ∀ (R : RO) (x : e.T) (cs : List Value), LRel R [] (e.enc x) cs → ∃ a, enc a = cs)
    (hlt : ∀ (R : RO) (x y : e.T) (a b : α), LRel R [] (e.enc x) (enc a) → LRel R [] (e.enc y) (enc b) → ltOf cf a b = lt x y)
    (hc : ∀ (blk off cap : Nat) (d : Array α) (w : World), HoldsK enc e.sz w blk off d → blk < w.heap.size → d.size < 4611686018427387904 →
      Calls P g #[.slice (some ⟨blk, off, none⟩) d.size cap, .func (.func fc) #[] #[]] w fun e' w' => e' = .returned (.tuple #[]) ∧ ∃ d' n os, PermIn 0 d.size d d' ∧ SortedIn (ltOf cf) 0 d.size d' ∧ w' = sortWorldK enc e.sz w blk off n d' os)
    (hc0 : ∀ (p : Option Addr) (cap : Nat) (w : World), Calls P g #[.slice p 0 cap, .func (.func fc) #[] #[]] w fun e w' => e = .returned (.tuple #[]) ∧ w' = w)
    {h : List Ch} {K : KT} {t : Nat} {xs : List e.T} {n : Nat} (hn : n = xs.length) (hx : xs.length ≤ 1099511627776)
    (H : ∀ ys : List e.T, ys.Perm xs → (ys.Pairwise fun x y => lt y x = false) → K (.tup []) (h.set t (.rows e ys))) (o : hth h t = .rows e xs) : Does P g [.sl t e 0 n, .fn fc []] h K := by
  refine ⟨hr, fun R μ w vs hv H0 => ?_⟩
  have hg := hth_get o (by simp)
  have k0 := e.sz_pos
  cases hv with
  | cons hv h2 =>
  cases h2 with
  | cons hf h3 =>
  cases h3
  cases hf with
  | @fn _ _ _ cvs hcv =>
  cases hcv
  have hz : n = 0 → K (.tup []) h := fun e1 => by
    rw [e1] at hn
    have : xs = [] := List.eq_nil_of_length_eq_zero hn.symm
    subst this
    have := H [] (.refl _) .nil
    rw [← o, set_hth rfl (by rw [o]; simp)] at this
    exact this
  generalize hN : n = N at hv
  cases hv with
  | sl0 hl =>
    refine (hc0 _ _ _).mono ?_
    rintro e w' ⟨rfl, rfl⟩
    exact ⟨_, R, μ, h, .tup [], rfl, hz hN, .tup .nil, H0, Ext.refl _, Step.refl _ _ _⟩
  | sl h1 hcap hl hm =>
    rename_i b cap c
    obtain ⟨B, hB, hr1, hown⟩ := H0.rel.get hg
    have : B = .blk b cap := by rw [h1] at hB; exact (Option.some.inj hB).symm
    subst this
    rcases hr1 with ⟨hx, _⟩ | ⟨b', cap', arr, ty, hx, hb, hsz, hlen, hmx, hrel⟩
    · cases hx
    · cases hx
      obtain ⟨d, hd, hall⟩ := flat_split (hdec R) hrel
      have hdl := hall.len
      rw [hdl] at hd
      have hH := holdsK_of hk k0 hb hd
      have hbl : b < w.heap.size := (Array.getElem?_eq_some_iff.1 hb).1
      subst hN
      subst hn
      rw [Nat.zero_mul, hdl]
      refine (hc b 0 c d.toArray w hH hbl (by simp; omega)).mono ?_
      rintro e' w' ⟨rfl, d', m, os, hp, hs, rfl⟩
      obtain ⟨p1, _, p3⟩ := hp
      have hperm : d'.toList.Perm d := by
        have e1 : d'.extract 0 d.toArray.size = d' := by rw [← p1, Array.extract_size]
        rw [e1, Array.extract_size] at p3
        exact p3
      obtain ⟨ys, hy1, hy2⟩ := All2.perm hperm.symm hall
      have hyl := hy2.len
      have hyx := hy1.length_eq
      have hpw : ys.Pairwise fun x y => lt y x = false := by
        rw [List.pairwise_iff_getElem]
        intro i j hi hj hij
        have hi' : i < d'.size := by rw [← Array.length_toList, ← hyl]; exact hi
        have hj' : j < d'.size := by rw [← Array.length_toList, ← hyl]; exact hj
        have q := hs i j (Nat.zero_le _) hij (by rw [← p1]; exact hj')
        rw [getElem!_pos d' i hi', getElem!_pos d' j hj'] at q
        have r1 := hy2.get i hi (by simpa using hi')
        have r2 := hy2.get j hj (by simpa using hj')
        rw [← hlt R _ _ _ _ r2 r1]
        simpa using q
      have hg2 := grownByK_sorted (enc := enc) (k := e.sz) (w := w) (g := b) (n := m) (os := os) d'
      obtain ⟨g1, g2, g3, g4, g5⟩ := hg2
      have hdd : d'.toList.toArray = d' := by simp
      obtain ⟨H1, hst⟩ := H0.set (w' := sortWorldK enc e.sz w b 0 m d' os) (c' := .rows e ys) hg hB (by simp [ownC]) (fun k hk hne => g5 k hk (fun e => hne (by simp only [ownC, List.mem_singleton]; exact Option.some.inj e))) g4
        (.inr ⟨b, cap, _, ty, rfl, heapK_sorted _ hb, by simp only [putCells, Array.size_mapIdx, hsz], by omega, hmx, by
          have h4 : d'.toList.length = ys.length := hyl.symm
          have h5 := takeK_putCells (k := e.sz) hk k0 arr d'.toList (by rw [h4, hsz]; exact Nat.mul_le_mul_right _ (by omega))
          rw [h4, hdd] at h5
          rw [h5]
          exact flat_join hy2⟩) rfl rfl rfl
      exact ⟨_, R, μ, _, .tup [], rfl, H ys hy1.symm hpw, .tup .nil, H1, Ext.refl _, hst⟩
end Go.V

set_option maxRecDepth 100000
namespace Go.V
abbrev rAt (l : List Rng) (k : Nat) : Rng := l.getD k Rng.zero
/-- n lies in one of the ranges -/
def memR (l : List Rng) (n : Int) : Prop := ∃ r ∈ l, r.from_ ≤ n ∧ n < r.to_
structure Vld (l : List Rng) : Prop where
  ne : ∀ r ∈ l, r.from_ < r.to_
  ap : l.Pairwise fun r s => r.to_ < s.from_
theorem Vld.nil : Vld [] := ⟨fun _ h => (by cases h), .nil⟩
theorem Vld.tail {r : Rng} {l : List Rng} (h : Vld (r :: l)) : Vld l := ⟨fun s hs => h.ne s (by simp [hs]), (List.pairwise_cons.1 h.ap).2⟩
theorem Vld.head {r : Rng} {l : List Rng} (h : Vld (r :: l)) : r.from_ < r.to_ ∧ ∀ s ∈ l, r.to_ < s.from_ := ⟨h.ne r (by simp), (List.pairwise_cons.1 h.ap).1⟩
theorem Vld.cons {r : Rng} {l : List Rng} (h1 : r.from_ < r.to_) (h2 : ∀ s ∈ l, r.to_ < s.from_) (h : Vld l) : Vld (r :: l) :=
  ⟨fun s hs => by rcases List.mem_cons.1 hs with rfl | hs; exact h1; exact h.ne s hs, List.pairwise_cons.2 ⟨h2, h.ap⟩⟩
theorem memR_cons {r : Rng} {l : List Rng} {n : Int} : memR (r :: l) n ↔ (r.from_ ≤ n ∧ n < r.to_) ∨ memR l n := by
  unfold memR
  constructor
  · rintro ⟨s, hs, h⟩
    rcases List.mem_cons.1 hs with rfl | hs
    · exact .inl h
    · exact .inr ⟨s, hs, h⟩
  · rintro (h | ⟨s, hs, h⟩)
    · exact ⟨r, by simp, h⟩
    · exact ⟨s, by simp [hs], h⟩
theorem memR_app {l m : List Rng} {n : Int} : memR (l ++ m) n ↔ memR l n ∨ memR m n := by
  unfold memR
  constructor
  · rintro ⟨s, hs, h⟩
    rcases List.mem_append.1 hs with hs | hs
    · exact .inl ⟨s, hs, h⟩
    · exact .inr ⟨s, hs, h⟩
  · rintro (⟨s, hs, h⟩ | ⟨s, hs, h⟩)
    · exact ⟨s, by simp [hs], h⟩
    · exact ⟨s, by simp [hs], h⟩
theorem memR_nil {n : Int} : ¬ memR [] n := by rintro ⟨_, h, _⟩; cases h
theorem memR_one {r : Rng} {n : Int} : memR [r] n ↔ r.from_ ≤ n ∧ n < r.to_ := by rw [memR_cons]; simp [memR_nil]
theorem memR_perm {l m : List Rng} (h : l.Perm m) {n : Int} : memR l n ↔ memR m n := by
  unfold memR
  constructor
  · rintro ⟨s, hs, q⟩; exact ⟨s, h.mem_iff.1 hs, q⟩
  · rintro ⟨s, hs, q⟩; exact ⟨s, h.mem_iff.2 hs, q⟩
theorem Vld.above {r : Rng} {l : List Rng} (h : Vld (r :: l)) {n : Int} (hn : memR l n) : r.to_ < n := by
  obtain ⟨s, hs, h1, _⟩ := hn
  have := h.head.2 s hs
  omega
theorem Vld.low {r : Rng} {l : List Rng} (h : Vld (r :: l)) {n : Int} (hn : memR (r :: l) n) : r.from_ ≤ n := by
  rcases memR_cons.1 hn with h1 | h1
  · exact h1.1
  · have := h.above h1
    have := h.head.1
    omega
/-- a set has one such list -/
theorem vld_one : ∀ {l m : List Rng}, Vld l → Vld m → (∀ n, memR l n ↔ memR m n) → l = m
  | [], [], _, _, _ => rfl
  | [], s :: m, _, h2, h => absurd ((h s.from_).2 (memR_cons.2 (.inl ⟨Int.le_refl _, h2.head.1⟩))) memR_nil
  | r :: l, [], h1, _, h => absurd ((h r.from_).1 (memR_cons.2 (.inl ⟨Int.le_refl _, h1.head.1⟩))) memR_nil
  | r :: l, s :: m, h1, h2, h => by
    have a1 := h1.head.1
    have a2 := h2.head.1
    have e1 : r.from_ = s.from_ := by
      have q1 := h2.low ((h r.from_).1 (memR_cons.2 (.inl ⟨Int.le_refl _, a1⟩)))
      have q2 := h1.low ((h s.from_).2 (memR_cons.2 (.inl ⟨Int.le_refl _, a2⟩)))
      omega
    have e2 : r.to_ = s.to_ := by
      rcases Int.lt_trichotomy r.to_ s.to_ with q | q | q
      · have := (h r.to_).2 (memR_cons.2 (.inl ⟨by omega, q⟩))
        rcases memR_cons.1 this with k | k
        · omega
        · have := h1.above k; omega
      · exact q
      · have := (h s.to_).1 (memR_cons.2 (.inl ⟨by omega, q⟩))
        rcases memR_cons.1 this with k | k
        · omega
        · have := h2.above k; omega
    have e : r = s := by cases r; cases s; simp_all
    subst e
    rw [vld_one h1.tail h2.tail fun n => ?_]
    have hn := h n
    rw [memR_cons, memR_cons] at hn
    constructor
    · intro k
      have := h1.above k
      rcases hn.1 (.inr k) with q | q
      · omega
      · exact q
    · intro k
      have := h2.above k
      rcases hn.2 (.inr k) with q | q
      · omega
      · exact q
/-! ### The reference's way -/
def insR : List Rng → Rng → List Rng
  | [], r => [r]
  | x :: l, r => if x.from_ ≤ r.to_ then insR l ⟨min r.from_ x.from_, max r.to_ x.to_⟩ else r :: x :: l
def insL : List Rng → Rng → List Rng
  | [], r => [r]
  | x :: l, r => if x.to_ < r.from_ then x :: insL l r else insR (x :: l) r
theorem insL_skip (l : List Rng) (r : Rng) : ∀ k, k ≤ l.length → (∀ i, i < k → (rAt l i).to_ < r.from_) → insL l r = l.take k ++ insL (l.drop k) r := by
  induction l with
  | nil => intro k hk _; simp at hk; subst hk; rfl
  | cons x l ih =>
    intro k hk h
    cases k with
    | zero => rfl
    | succ k =>
      have h1 : x.to_ < r.from_ := h 0 (by omega)
      have h2 := ih k (by simpa using hk) fun i hi => h (i + 1) (by omega)
      rw [List.take_succ_cons, List.drop_succ_cons, List.cons_append, ← h2]
      conv => lhs; unfold insL
      rw [if_pos h1]
def insF (l : List Rng) (r : Rng) : List Rng := if r.to_ ≤ r.from_ then l else insL l r
def ofL (l : List Rng) : List Rng := l.foldl insF []
theorem insR_ok : ∀ {l : List Rng} {r : Rng}, Vld l → r.from_ < r.to_ → (∀ x ∈ l, r.from_ ≤ x.to_) → Vld (insR l r) ∧ (∀ n, memR (insR l r) n ↔ memR l n ∨ (r.from_ ≤ n ∧ n < r.to_)) ∧ ∀ b : Int, b < r.from_ → (∀ x ∈ l, b < x.from_) → ∀ x ∈ insR l r, b < x.from_
  | [], r, _, hr, _ => ⟨.cons hr (fun s hs => by cases hs) .nil, fun n => by simp [insR, memR_one, memR_nil], fun b hb _ x hx => by simp [insR] at hx; rw [hx]; exact hb⟩
  | x :: l, r, h, hr, ht => by
    have hx := h.head.1
    have hxr := ht x (by simp)
    unfold insR
    by_cases hc : x.from_ ≤ r.to_
    · rw [if_pos hc]
      have ih := insR_ok (l := l) (r := ⟨min r.from_ x.from_, max r.to_ x.to_⟩) h.tail (by simp only; omega) (fun y hy => by
        have := h.head.2 y hy
        have := h.tail.ne y hy
        simp only
        omega)
      refine ⟨ih.1, fun n => ?_, fun b hb hbx => ih.2.2 b (by have := hbx x (by simp); simp only; omega) fun y hy => hbx y (by simp [hy])⟩
      rw [ih.2.1 n, memR_cons]
      simp only
      constructor
      · rintro (q | q)
        · exact .inl (.inr q)
        · by_cases k : x.from_ ≤ n ∧ n < x.to_
          · exact .inl (.inl k)
          · exact .inr (by omega)
      · rintro ((q | q) | q)
        · exact .inr (by omega)
        · exact .inl q
        · exact .inr (by omega)
    · rw [if_neg hc]
      refine ⟨.cons hr (fun s hs => ?_) h, fun n => by rw [memR_cons]; exact Or.comm, fun b hb hbx y hy => ?_⟩
      · rcases List.mem_cons.1 hs with rfl | hs
        · omega
        · have := h.head.2 s hs
          omega
      · rcases List.mem_cons.1 hy with rfl | hy
        · exact hb
        · exact hbx y hy
theorem insL_ok : ∀ {l : List Rng} {r : Rng}, Vld l → r.from_ < r.to_ → Vld (insL l r) ∧ (∀ n, memR (insL l r) n ↔ memR l n ∨ (r.from_ ≤ n ∧ n < r.to_)) ∧ ∀ b : Int, b < r.from_ → (∀ x ∈ l, b < x.from_) → ∀ x ∈ insL l r, b < x.from_
  | [], r, _, hr => ⟨.cons hr (fun s hs => by cases hs) .nil, fun n => by simp [insL, memR_one, memR_nil], fun b hb _ x hx => by simp [insL] at hx; rw [hx]; exact hb⟩
  | x :: l, r, h, hr => by
    unfold insL
    by_cases hc : x.to_ < r.from_
    · rw [if_pos hc]
      have ih := insL_ok (l := l) (r := r) h.tail hr
      refine ⟨.cons h.head.1 (ih.2.2 _ hc h.head.2) ih.1, fun n => ?_, fun b hb hbx y hy => ?_⟩
      · rw [memR_cons, memR_cons, ih.2.1 n, or_assoc]
      · rcases List.mem_cons.1 hy with rfl | hy
        · exact hbx y (by simp)
        · exact ih.2.2 b hb (fun z hz => hbx z (by simp [hz])) y hy
    · rw [if_neg hc]
      exact insR_ok h hr fun y hy => by
        rcases List.mem_cons.1 hy with rfl | hy
        · omega
        · have := h.head.2 y hy
          have := h.tail.ne y hy
          omega
theorem insF_ok {l : List Rng} {r : Rng} (h : Vld l) : Vld (insF l r) ∧ ∀ n, memR (insF l r) n ↔ memR l n ∨ (r.from_ ≤ n ∧ n < r.to_) := by
  unfold insF
  by_cases hc : r.to_ ≤ r.from_
  · rw [if_pos hc]
    exact ⟨h, fun n => ⟨.inl, fun q => q.elim id fun k => by omega⟩⟩
  · rw [if_neg hc]
    have := insL_ok (r := r) h (by omega)
    exact ⟨this.1, this.2.1⟩
theorem fold_ok : ∀ (l : List Rng) {s : List Rng}, Vld s → Vld (l.foldl insF s) ∧ ∀ n, memR (l.foldl insF s) n ↔ memR s n ∨ memR l n
  | [], s, h => ⟨h, fun n => by simp [memR_nil]⟩
  | r :: l, s, h => by
    have h1 := insF_ok (r := r) h
    have h2 := fold_ok l h1.1
    refine ⟨h2.1, fun n => ?_⟩
    rw [List.foldl_cons, h2.2 n, h1.2 n, memR_cons, or_assoc]
theorem of_vld (l : List Rng) : Vld (ofL l) := (fold_ok l .nil).1
theorem of_mem (l : List Rng) (n : Int) : memR (ofL l) n ↔ memR l n := by
  unfold ofL
  rw [(fold_ok l .nil).2 n]
  simp [memR_nil]
theorem of_eq {l m : List Rng} (h : Vld m) (hm : ∀ n, memR m n ↔ memR l n) : m = ofL l := vld_one h (of_vld l) fun n => by rw [hm, of_mem]
theorem of_add (l : List Rng) (r : Rng) : ofL (l ++ [r]) = insF (ofL l) r := by unfold ofL; rw [List.foldl_append]; rfl
theorem insR_len : ∀ (l : List Rng) (r : Rng), (insR l r).length ≤ l.length + 1
  | [], _ => by simp [insR]
  | x :: l, r => by
    unfold insR
    split
    · have := insR_len l ⟨min r.from_ x.from_, max r.to_ x.to_⟩
      simp only [List.length_cons]; omega
    · simp
theorem insL_len : ∀ (l : List Rng) (r : Rng), (insL l r).length ≤ l.length + 1
  | [], _ => by simp [insL]
  | x :: l, r => by
    unfold insL
    split
    · have := insL_len l r
      simp only [List.length_cons]; omega
    · exact insR_len _ _
theorem insF_len (l : List Rng) (r : Rng) : (insF l r).length ≤ l.length + 1 := by
  unfold insF
  split
  · omega
  · exact insL_len l r
theorem of_len (l : List Rng) : (ofL l).length ≤ l.length := by
  have key : ∀ (l s : List Rng), (l.foldl insF s).length ≤ s.length + l.length := by
    intro l
    induction l with
    | nil => intro s; simp
    | cons r l ih =>
      intro s
      have h1 := ih (insF s r)
      have h2 := insF_len s r
      simp only [List.foldl_cons, List.length_cons]
      omega
  simpa [ofL] using key l []
/-! ### The program's way: sorted, then joined -/
def joinS (out : List Rng) (r : Rng) : List Rng :=
  if 0 < out.length ∧ r.from_ ≤ (rAt out (out.length - 1)).to_ then out.set (out.length - 1) ⟨(rAt out (out.length - 1)).from_, max (rAt out (out.length - 1)).to_ r.to_⟩ else out ++ [r]
theorem last_form {out : List Rng} (h : 0 < out.length) : ∃ pre x, out = pre ++ [x] := by
  rcases List.eq_nil_or_concat out with rfl | ⟨p, x, rfl⟩
  · simp at h
  · exact ⟨p, x, by simp⟩
theorem joinS_ok {out : List Rng} {r : Rng} (h : Vld out) (hr : r.from_ < r.to_) (hb : ∀ x ∈ out, x.from_ ≤ r.from_) :
    Vld (joinS out r) ∧ (∀ n, memR (joinS out r) n ↔ memR out n ∨ (r.from_ ≤ n ∧ n < r.to_)) ∧ ∀ x ∈ joinS out r, x.from_ ≤ r.from_ := by
  unfold joinS
  by_cases h0 : 0 < out.length
  · obtain ⟨pre, x, rfl⟩ := last_form h0
    have e1 : (pre ++ [x]).length - 1 = pre.length := by simp
    have e2 : rAt (pre ++ [x]) pre.length = x := by simp [rAt]
    rw [e1, e2]
    have hx := h.ne x (by simp)
    have hbx := hb x (by simp)
    have hpw := List.pairwise_append.1 h.ap
    by_cases hc : r.from_ ≤ x.to_
    · rw [if_pos ⟨h0, hc⟩]
      have e3 : (pre ++ [x]).set pre.length (⟨x.from_, max x.to_ r.to_⟩ : Rng) = pre ++ [⟨x.from_, max x.to_ r.to_⟩] := by simp
      rw [e3]
      refine ⟨⟨fun y hy => ?_, List.pairwise_append.2 ⟨hpw.1, by simp, fun a ha b hb' => ?_⟩⟩, fun n => ?_, fun y hy => ?_⟩
      · rcases List.mem_append.1 hy with hy | hy
        · exact h.ne y (by simp [hy])
        · simp at hy; rw [hy]; simp only; omega
      · simp at hb'; rw [hb']
        exact hpw.2.2 a ha x (by simp)
      · rw [memR_app, memR_app, memR_one, memR_one]
        simp only
        constructor
        · rintro (q | q)
          · exact .inl (.inl q)
          · by_cases k : x.from_ ≤ n ∧ n < x.to_
            · exact .inl (.inr k)
            · exact .inr (by omega)
        · rintro ((q | q) | q)
          · exact .inl q
          · exact .inr (by omega)
          · exact .inr (by omega)
      · rcases List.mem_append.1 hy with hy | hy
        · exact hb y (by simp [hy])
        · simp at hy; rw [hy]; exact hbx
    · rw [if_neg (fun q => hc q.2)]
      refine ⟨⟨fun y hy => ?_, List.pairwise_append.2 ⟨h.ap, by simp, fun a ha b hb' => ?_⟩⟩, fun n => by rw [memR_app, memR_one], fun y hy => ?_⟩
      · rcases List.mem_append.1 hy with hy | hy
        · exact h.ne y hy
        · simp at hy; rw [hy]; exact hr
      · simp at hb'; rw [hb']
        rcases List.mem_append.1 ha with ha | ha
        · have := hpw.2.2 a ha x (by simp)
          omega
        · simp at ha; rw [ha]; omega
      · rcases List.mem_append.1 hy with hy | hy
        · exact hb y hy
        · simp at hy; rw [hy]; exact Int.le_refl _
  · rw [if_neg (fun q => h0 q.1)]
    have : out = [] := by cases out with | nil => rfl | cons => simp at h0
    subst this
    exact ⟨.cons hr (fun s hs => by cases hs) .nil, fun n => by simp [memR_one, memR_nil], fun y hy => by simp at hy; rw [hy]; exact Int.le_refl _⟩
theorem join_ok : ∀ (l : List Rng) {out : List Rng}, Vld out → (∀ r ∈ l, r.from_ < r.to_) → (l.Pairwise fun r s => r.from_ ≤ s.from_) → (∀ x ∈ out, ∀ r ∈ l, x.from_ ≤ r.from_) →
    Vld (l.foldl joinS out) ∧ ∀ n, memR (l.foldl joinS out) n ↔ memR out n ∨ memR l n
  | [], out, h, _, _, _ => ⟨h, fun n => by simp [memR_nil]⟩
  | r :: l, out, h, hr, hp, hb => by
    rw [List.pairwise_cons] at hp
    have h1 := joinS_ok (r := r) h (hr r (by simp)) fun x hx => hb x hx r (by simp)
    have h2 := join_ok l h1.1 (fun s hs => hr s (by simp [hs])) hp.2 fun x hx s hs => Int.le_trans (h1.2.2 x hx) (hp.1 s hs)
    refine ⟨h2.1, fun n => ?_⟩
    rw [List.foldl_cons, h2.2 n, h1.2.1 n, memR_cons, or_assoc]
def neR (r : Rng) : Bool := decide (r.to_ ≤ r.from_)
theorem memR_filter (l : List Rng) (n : Int) : memR (l.filter fun r => !neR r) n ↔ memR l n := by
  unfold memR
  constructor
  · rintro ⟨r, hr, h⟩; exact ⟨r, (List.mem_filter.1 hr).1, h⟩
  · rintro ⟨r, hr, h⟩; exact ⟨r, List.mem_filter.2 ⟨hr, by simp [neR]; omega⟩, h⟩
theorem normal_eq {l d : List Rng} (hp : d.Perm (l.filter fun r => !neR r)) (hs : d.Pairwise fun r s => r.from_ ≤ s.from_) : d.foldl joinS [] = ofL l := by
  have h := join_ok d .nil (fun r hr => by
    have := (List.mem_filter.1 (hp.mem_iff.1 hr)).2
    simp [neR] at this
    omega) hs (fun x hx => by cases hx)
  refine of_eq h.1 fun n => ?_
  rw [h.2 n, memR_perm hp, memR_filter]
  simp [memR_nil]
/-! ### Removing -/
def lftR (x r : Rng) : Rng := ⟨x.from_, min x.to_ r.from_⟩
def rgtR (x r : Rng) : Rng := ⟨max x.from_ r.to_, x.to_⟩
def pieces (s : List Rng) (r : Rng) : List Rng := s.flatMap fun x => [lftR x r, rgtR x r]
def part (r x : Rng) : List Rng := (if (lftR x r).from_ < (lftR x r).to_ then [lftR x r] else []) ++ (if (rgtR x r).from_ < (rgtR x r).to_ then [rgtR x r] else [])
def remL (s : List Rng) (r : Rng) : List Rng := s.flatMap (part r)
theorem part_mem {r x y : Rng} (h : y ∈ part r x) : x.from_ ≤ y.from_ ∧ y.to_ ≤ x.to_ ∧ y.from_ < y.to_ := by
  unfold part lftR rgtR at h
  simp only [List.mem_append] at h
  rcases h with h | h <;> split at h <;> simp at h
  · rw [h]; simp only at *; omega
  · rw [h]; simp only at *; omega
theorem part_set {r x : Rng} (hx : x.from_ < x.to_) (hr : r.from_ < r.to_) (n : Int) : memR (part r x) n ↔ (x.from_ ≤ n ∧ n < x.to_) ∧ ¬ (r.from_ ≤ n ∧ n < r.to_) := by
  unfold part lftR rgtR
  rw [memR_app]
  simp only
  constructor
  · rintro (h | h)
    · split at h
      · rw [memR_one] at h; simp only at h; omega
      · exact absurd h memR_nil
    · split at h
      · rw [memR_one] at h; simp only at h; omega
      · exact absurd h memR_nil
  · rintro ⟨h1, h2⟩
    by_cases h3 : n < r.from_
    · left
      rw [if_pos (by omega), memR_one]
      simp only; omega
    · right
      rw [if_pos (by omega), memR_one]
      simp only; omega
theorem memR_flat {f : Rng → List Rng} {s : List Rng} {n : Int} : memR (s.flatMap f) n ↔ ∃ x ∈ s, memR (f x) n := by
  unfold memR
  constructor
  · rintro ⟨y, hy, h⟩
    obtain ⟨x, hx, hy⟩ := List.mem_flatMap.1 hy
    exact ⟨x, hx, y, hy, h⟩
  · rintro ⟨x, hx, y, hy, h⟩
    exact ⟨y, List.mem_flatMap.2 ⟨x, hx, hy⟩, h⟩
theorem rem_ok {s : List Rng} {r : Rng} (h : Vld s) (hr : r.from_ < r.to_) : Vld (remL s r) ∧ ∀ n, memR (remL s r) n ↔ memR s n ∧ ¬ (r.from_ ≤ n ∧ n < r.to_) := by
  refine ⟨⟨fun y hy => ?_, ?_⟩, fun n => ?_⟩
  · obtain ⟨x, _, hy⟩ := List.mem_flatMap.1 hy
    exact (part_mem hy).2.2
  · unfold remL
    rw [List.pairwise_flatMap]
    refine ⟨fun x hx => ?_, h.ap.imp fun {a b} hab y hy z hz => ?_⟩
    · have := h.ne x hx
      unfold part lftR rgtR
      split <;> split <;> simp_all
      omega
    · have := part_mem hy
      have := part_mem hz
      omega
  · unfold remL
    rw [memR_flat]
    constructor
    · rintro ⟨x, hx, q⟩
      rw [part_set (h.ne x hx) hr] at q
      exact ⟨⟨x, hx, q.1⟩, q.2⟩
    · rintro ⟨⟨x, hx, q⟩, k⟩
      exact ⟨x, hx, (part_set (h.ne x hx) hr n).2 ⟨q, k⟩⟩
theorem pieces_mem {s : List Rng} {r : Rng} (hr : r.from_ < r.to_) (n : Int) : memR (pieces s r) n ↔ memR s n ∧ ¬ (r.from_ ≤ n ∧ n < r.to_) := by
  unfold pieces
  rw [memR_flat]
  have key : ∀ x : Rng, memR [lftR x r, rgtR x r] n ↔ (x.from_ ≤ n ∧ n < x.to_) ∧ ¬ (r.from_ ≤ n ∧ n < r.to_) := by
    intro x
    rw [memR_cons, memR_one]
    unfold lftR rgtR
    simp only
    omega
  constructor
  · rintro ⟨x, hx, q⟩
    rw [key] at q
    exact ⟨⟨x, hx, q.1⟩, q.2⟩
  · rintro ⟨⟨x, hx, q⟩, k⟩
    exact ⟨x, hx, (key x).2 ⟨q, k⟩⟩
def remF (s : List Rng) (r : Rng) : List Rng := if r.to_ ≤ r.from_ then s else remL s r
theorem remF_ok {s : List Rng} {r : Rng} (h : Vld s) : Vld (remF s r) ∧ ∀ n, memR (remF s r) n ↔ memR s n ∧ ¬ (r.from_ ≤ n ∧ n < r.to_) := by
  unfold remF
  split
  · exact ⟨h, fun n => ⟨fun q => ⟨q, by omega⟩, fun q => q.1⟩⟩
  · exact rem_ok h (by omega)
theorem pieces_of {s : List Rng} {r : Rng} (h : Vld s) (hr : r.from_ < r.to_) : ofL (pieces s r) = remL s r :=
  (of_eq (rem_ok h hr).1 fun n => by rw [(rem_ok h hr).2 n, pieces_mem hr n]).symm
theorem of_self {s : List Rng} (h : Vld s) : ofL s = s := (of_eq h fun _ => Iff.rfl).symm
theorem part_le1 {r x : Rng} (h : ¬ (x.from_ < r.from_ ∧ r.to_ < x.to_)) : (part r x).length ≤ 1 := by
  unfold part lftR rgtR
  simp only
  split <;> split <;> simp <;> omega
theorem rem_len_out {r : Rng} : ∀ {s : List Rng}, (∀ y ∈ s, r.from_ ≤ y.from_) → (remL s r).length ≤ s.length
  | [], _ => by simp [remL]
  | x :: s, h => by
    have h1 := rem_len_out (r := r) (s := s) fun y hy => h y (by simp [hy])
    have h2 := h x (by simp)
    have h3 := part_le1 (r := r) (x := x) (by omega)
    unfold remL at *
    rw [List.flatMap_cons, List.length_append, List.length_cons]
    omega
theorem part_two (r x : Rng) : (part r x).length ≤ 2 := by
  unfold part
  split <;> split <;> simp
theorem rem_len {r : Rng} : ∀ {s : List Rng}, Vld s → r.from_ < r.to_ → (remL s r).length ≤ s.length + 1
  | [], _, _ => by simp [remL]
  | x :: s, h, hr => by
    by_cases hc : x.from_ < r.from_ ∧ r.to_ < x.to_
    · have h1 := rem_len_out (r := r) (s := s) fun y hy => by have := h.head.2 y hy; omega
      have h2 := part_two r x
      unfold remL at *
      rw [List.flatMap_cons, List.length_append, List.length_cons]
      omega
    · have h1 := rem_len (r := r) h.tail hr
      have h2 := part_le1 hc
      unfold remL at *
      rw [List.flatMap_cons, List.length_append, List.length_cons]
      omega
theorem remF_len {s : List Rng} {r : Rng} (h : Vld s) : (remF s r).length ≤ s.length + 1 := by
  unfold remF
  split
  · omega
  · exact rem_len h (by omega)
/-- what is left of a range -/
def misL (l : List Rng) (t : Int) : List Rng := l.foldl remF (ofL [⟨0, t⟩])
theorem remFs_ok : ∀ (l : List Rng) {s : List Rng}, Vld s → Vld (l.foldl remF s) ∧ ∀ n, memR (l.foldl remF s) n ↔ memR s n ∧ ¬ memR l n
  | [], s, h => ⟨h, fun n => by simp [memR_nil]⟩
  | r :: l, s, h => by
    have h1 := remF_ok (r := r) h
    have h2 := remFs_ok l h1.1
    refine ⟨h2.1, fun n => ?_⟩
    rw [List.foldl_cons, h2.2 n, h1.2 n, memR_cons, not_or, and_assoc]
theorem mis_vld (l : List Rng) (t : Int) : Vld (misL l t) := (remFs_ok l (of_vld _)).1
theorem mis_mem (l : List Rng) (t n : Int) : memR (misL l t) n ↔ (0 ≤ n ∧ n < t) ∧ ¬ memR l n := by
  unfold misL
  rw [(remFs_ok l (of_vld _)).2 n, of_mem, memR_one]
theorem mis_of (l : List Rng) (t : Int) : misL (ofL l) t = misL l t := vld_one (mis_vld _ _) (mis_vld _ _) fun n => by rw [mis_mem, mis_mem, of_mem]
def hasB (l : List Rng) (n : Int) : Bool := l.any fun r => decide (r.from_ ≤ n) && decide (n < r.to_)
theorem hasB_iff {l : List Rng} {n : Int} : hasB l n = true ↔ memR l n := by
  unfold hasB memR
  rw [List.any_eq_true]
  constructor
  · rintro ⟨r, hr, h⟩; exact ⟨r, hr, by simpa using h⟩
  · rintro ⟨r, hr, h⟩; exact ⟨r, hr, by simpa using h⟩
def vldB (l : List Rng) : Bool := decide (∀ i, i < l.length → (rAt l i).from_ < (rAt l i).to_ ∧ (0 < i → (rAt l (i - 1)).to_ < (rAt l i).from_))
theorem rAt_mem {l : List Rng} {i : Nat} (h : i < l.length) : rAt l i ∈ l := by
  unfold rAt
  rw [List.getD_eq_getElem?_getD, List.getElem?_eq_getElem h]
  exact List.getElem_mem h
theorem vldB_of {l : List Rng} (h : Vld l) : vldB l = true := by
  unfold vldB
  rw [decide_eq_true_eq]
  intro i hi
  refine ⟨h.ne _ (rAt_mem hi), fun h0 => ?_⟩
  have := List.pairwise_iff_getElem.1 h.ap (i - 1) i (by omega) hi (by omega)
  simpa [rAt, List.getD_eq_getElem?_getD, List.getElem?_eq_getElem hi, List.getElem?_eq_getElem (show i - 1 < l.length by omega)] using this
end Go.V

set_option maxRecDepth 100000
set_option maxHeartbeats 4000000
namespace Go.V
open Go.Proofs

/-- the first place at which p holds -/
def ixF (p : Rng → Bool) : List Rng → Nat → Int
  | [], _ => -1
  | x :: l, k => if p x then k else ixF p l (k + 1)
theorem ixF_none {p : Rng → Bool} : ∀ {l : List Rng} {k : Nat}, (∀ x ∈ l, p x = false) → ixF p l k = -1
  | [], _, _ => rfl
  | x :: l, k, h => by rw [ixF, h x (by simp)]; exact ixF_none fun y hy => h y (by simp [hy])
theorem ixF_at {p : Rng → Bool} : ∀ {l : List Rng} {j k : Nat}, j < l.length → (∀ i, i < j → p (rAt l i) = false) → p (rAt l j) = true → ixF p l k = ((k + j : Nat) : Int)
  | [], j, _, h, _, _ => by simp at h
  | x :: l, 0, k, _, _, h => by
    have : p x = true := h
    rw [ixF, if_pos this, Nat.add_zero]
  | x :: l, j + 1, k, hl, h0, h => by
    have h1 : p x = false := h0 0 (by omega)
    rw [ixF, h1]
    simp only [Bool.false_eq_true, if_false]
    rw [ixF_at (j := j) (by simpa using hl) (fun i hi => h0 (i + 1) (by omega)) h]
    congr 1; omega
theorem ixF_any {p : Rng → Bool} : ∀ {l : List Rng} {k : Nat}, decide (0 ≤ ixF p l k) = l.any p
  | [], _ => by simp [ixF]
  | x :: l, k => by
    rw [ixF, List.any_cons]
    cases h : p x
    · simp only [Bool.false_eq_true, if_false, Bool.false_or]
      exact ixF_any
    · simp
/-- IndexFunc over what lies for good; the closure's own cells lie where they may -/
theorem k_indexFunc {n0 : Nat} {h : List Ch} {K : KT} {xs : List Rng} {f : FuncId} {caps : List AV} (p : Rng → Bool) (hl : xs.length ≤ 9223372036854775806) (hp : ∀ x : Rng, ∀ K' : KT, K' (.bool (p x)) h → Does Try.prog f (.agg [.int .i64 x.from_, .int .i64 x.to_] :: caps) h K') (H : K (.int .i64 (ixF p xs 0)) h) : DoesK Try.prog n0 37 [.ro .rng xs, .fn f caps] h K := by
  have inst : Ctr 0 f (∀ {h' : List Ch} {K' : KT} {x : Rng} (_ : h' = h) (_ : K' (.bool (p x)) h), Does Try.prog f (.agg [.int .i64 x.from_, .int .i64 x.to_] :: caps) h' K') := Ctr.mk (by rintro h' K' x rfl H; exact hp x K' H)
  refine w_body (rs := [.tmp 4]) (tm := [.ro .rng xs, .fn f caps, .any, .any, .any, .any, .any, .any, .any, .any, .any, .any, .any, .any, .any, .any, .any, .any, .any]) fn_37 rfl rfl rfl rfl fun R hR => ?_
  (all_goals (try ((first | (with_reducible refine wp_id ?_) | (with_reducible refine does_id ?_)); refine walk ?_; (repeat' (first | exact trivial | with_reducible refine And.intro ?_ ?_)); all_goals (repeat (first | (with_reducible refine ImpB.mk fun hb => ?_) | (with_reducible refine ImpK.mk fun hK => ?_) | (with_reducible refine ImpF.mk fun hF => ?_) | (with_reducible refine ImpQ.mk fun hp => ?_) | (with_reducible refine AllE.mk fun p => ?_) | (with_reducible refine AllR.mk fun rest => ?_) | (with_reducible refine AllK.mk fun K => ?_))))); repeat' (with_reducible refine And.intro ?_ ?_))
  any_goals ((try (refine w_seq fun K hK => ?_)); (try (refine w_block ?_)); refine w_loopS (A := Nat) (fun k => k ≤ xs.length ∧ ∀ i, i < k → p (rAt xs i) = false) (fun k => xs.length - k) (fun k => [(8, .int .i64 k)]) (0) (ws := ?ws2) (tk := ?tk2) ?hw2 ?ht2 ?hi ?h0 ?LH2; (case hw2 => simp only [go_sem, decide_true, decide_false, Int.reduceToNat, Nat.min_eq_left, Nat.min_eq_right, Int.reducePow, Nat.reducePow, Int.reduceLE, Int.reduceLT, Int.reduceMul, Int.reduceAdd, Int.reduceSub, Int.reduceNeg, Bool.not_true, Bool.not_false, Bool.not_not, ↓reduceIte, Nat.reduceAdd, Nat.reduceSub, Nat.reduceMul, Nat.reduceEqDiff, reduceCtorEq, Nat.reduceLT, Nat.reduceLeDiff, Nat.reduceGT]; exact rfl); (case ht2 => simp only [go_sem, decide_true, decide_false, Int.reduceToNat, Nat.min_eq_left, Nat.min_eq_right, Int.reducePow, Nat.reducePow, Int.reduceLE, Int.reduceLT, Int.reduceMul, Int.reduceAdd, Int.reduceSub, Int.reduceNeg, Bool.not_true, Bool.not_false, Bool.not_not, ↓reduceIte, Nat.reduceAdd, Nat.reduceSub, Nat.reduceMul, Nat.reduceEqDiff, reduceCtorEq, Nat.reduceLT, Nat.reduceLeDiff, Nat.reduceGT]; exact rfl); (case' LH2 => rintro k E t hx hE ht; simp only [go_sem] at ht; subst ht; simp only [go_sem]; try dsimp only at hx))
  case hi => exact ⟨Nat.zero_le _, fun i hi => absurd hi (by omega)⟩
  case h0 => (focus (simp only [go_sem]; (repeat' (first | exact sub_nil | refine sub_cons ?_ ?_)); (any_goals (first | exact .inl rfl | exact .inr rfl)); (try any_goals (refine .inr ?_)); (try any_goals (refine congrArg _ ?_))))
  case LH2 =>
    have hw : IntKind.i64.wrap ((k : Int) + 1) = ((k + 1 : Nat) : Int) := by rw [wrap_i64 _ (by omega) (by omega)]; omega
    by_cases hk : k < xs.length
    · have hkd : decide ((k : Int) < xs.length) = true := decide_eq_true (by omega)
      (have zx1 := @hkd; all_goals (try ((first | (with_reducible refine wp_id ?_) | (with_reducible refine does_id ?_)); refine walk ?_; (repeat' (first | exact trivial | with_reducible refine And.intro ?_ ?_)); all_goals (repeat (first | (with_reducible refine ImpB.mk fun hb => ?_) | (with_reducible refine ImpK.mk fun hK => ?_) | (with_reducible refine ImpF.mk fun hF => ?_) | (with_reducible refine ImpQ.mk fun hp => ?_) | (with_reducible refine AllE.mk fun p => ?_) | (with_reducible refine AllR.mk fun rest => ?_) | (with_reducible refine AllK.mk fun K => ?_))))); repeat' (with_reducible refine And.intro ?_ ?_))
      all_goals first | exact Int.natCast_nonneg _ | exact Int.ofNat_lt.2 hk | rfl | skip
      · rw [ixF_at hk hx.2 hb, Nat.zero_add] at H
        exact H
      · refine ⟨k + 1, ⟨⟨by first | omega | (dsimp only; omega), fun i hi => ?_⟩, by first | omega | (dsimp only; omega)⟩, ?_, rfl⟩
        · by_cases e : i = k
          · rw [e]; exact hb
          · exact hx.2 i (by omega)
        (focus (simp only [go_sem]; (repeat' (first | exact sub_nil | refine sub_cons ?_ ?_)); (any_goals (first | exact .inl rfl | exact .inr rfl)); (try any_goals (refine .inr ?_)); (try any_goals (refine congrArg _ ?_))))
        exact hw.symm
    · have hkd : decide ((k : Int) < xs.length) = false := decide_eq_false (by omega)
      (have zx1 := @hkd; all_goals (try ((first | (with_reducible refine wp_id ?_) | (with_reducible refine does_id ?_)); refine walk ?_; (repeat' (first | exact trivial | with_reducible refine And.intro ?_ ?_)); all_goals (repeat (first | (with_reducible refine ImpB.mk fun hb => ?_) | (with_reducible refine ImpK.mk fun hK => ?_) | (with_reducible refine ImpF.mk fun hF => ?_) | (with_reducible refine ImpQ.mk fun hp => ?_) | (with_reducible refine AllE.mk fun p => ?_) | (with_reducible refine AllR.mk fun rest => ?_) | (with_reducible refine AllK.mk fun K => ?_))))); repeat' (with_reducible refine And.intro ?_ ?_))
      rw [ixF_none fun x hx' => by
        obtain ⟨i, hi, rfl⟩ := List.getElem_of_mem hx'
        have := hx.2 i (by omega)
        simpa [rAt, List.getD_eq_getElem?_getD, List.getElem?_eq_getElem hi] using this] at H
      exact H
theorem c_indexFunc {h : List Ch} {K : KT} {xs : List Rng} {f : FuncId} {caps : List AV} (p : Rng → Bool) (hl : xs.length ≤ 9223372036854775806) (hp : ∀ x : Rng, ∀ K' : KT, K' (.bool (p x)) h → Does Try.prog f (.agg [.int .i64 x.from_, .int .i64 x.to_] :: caps) h K') (H : K (.int .i64 (ixF p xs 0)) h) : Does Try.prog 37 [.ro .rng xs, .fn f caps] h K := -- nocall
  Does.of_K (k_indexFunc p hl hp H)
theorem k_containsFunc {n0 : Nat} {h : List Ch} {K : KT} {xs : List Rng} {f : FuncId} {caps : List AV} (p : Rng → Bool) (hl : xs.length ≤ 9223372036854775806) (hp : ∀ x : Rng, ∀ K' : KT, K' (.bool (p x)) h → Does Try.prog f (.agg [.int .i64 x.from_, .int .i64 x.to_] :: caps) h K') (H : K (.bool (xs.any p)) h) : DoesK Try.prog n0 27 [.ro .rng xs, .fn f caps] h K := by
  have inst : Ctr 0 37 (∀ {K' : KT} (_ : K' (.int .i64 (ixF p xs 0)) h), Does Try.prog 37 [.ro .rng xs, .fn f caps] h K') := Ctr.mk (fun H => c_indexFunc p hl hp H)
  refine w_body (rs := [.tmp 4]) (tm := [.ro .rng xs, .fn f caps, .any, .any, .any, .any, .any, .any, .any]) fn_27 rfl rfl rfl rfl fun R hR => ?_
  have hia := ixF_any (p := p) (l := xs) (k := 0)
  (have zx1 := @hia; all_goals (try ((first | (with_reducible refine wp_id ?_) | (with_reducible refine does_id ?_)); refine walk ?_; (repeat' (first | exact trivial | with_reducible refine And.intro ?_ ?_)); all_goals (repeat (first | (with_reducible refine ImpB.mk fun hb => ?_) | (with_reducible refine ImpK.mk fun hK => ?_) | (with_reducible refine ImpF.mk fun hF => ?_) | (with_reducible refine ImpQ.mk fun hp => ?_) | (with_reducible refine AllE.mk fun p => ?_) | (with_reducible refine AllR.mk fun rest => ?_) | (with_reducible refine AllK.mk fun K => ?_))))); repeat' (with_reducible refine And.intro ?_ ?_))
  all_goals first | exact H | skip
theorem b_has1 (x : Rng) (n : Int) : DoesK Try.prog 1 28 [.agg [.int .i64 x.from_, .int .i64 x.to_], .ptr 0 0] [.cells [.int .i64 n]] (EndF 1 (.bool (decide (x.from_ ≤ n) && decide (n < x.to_))) ([.cells [.int .i64 n]] ++ [])) := by
  refine DoesK.close ?_
  refine w_body (rs := [.tmp 3]) (tm := [.agg [.int .i64 x.from_, .int .i64 x.to_], .ptr 0 0, .any, .any, .any, .any, .any, .any, .any, .any, .any, .any, .any, .any]) fn_28 rfl rfl rfl rfl fun R hR => ?_
  (all_goals (try ((first | (with_reducible refine wp_id ?_) | (with_reducible refine does_id ?_)); refine walk ?_; (repeat' (first | exact trivial | with_reducible refine And.intro ?_ ?_)); all_goals (repeat (first | (with_reducible refine ImpB.mk fun hb => ?_) | (with_reducible refine ImpK.mk fun hK => ?_) | (with_reducible refine ImpF.mk fun hF => ?_) | (with_reducible refine ImpQ.mk fun hp => ?_) | (with_reducible refine AllE.mk fun p => ?_) | (with_reducible refine AllR.mk fun rest => ?_) | (with_reducible refine AllK.mk fun K => ?_))))); repeat' (with_reducible refine And.intro ?_ ?_))
  all_goals
    rw [hb]
    (focus (refine ⟨_, _, Gh.refl, [0], rfl, ?_⟩; (refine ⟨?_, ?_, ?_⟩ <;> simp only [go_sem, List.range, List.range.loop, List.nodup_cons, List.nodup_nil, List.mem_cons, List.not_mem_nil, or_false, or_self, decide_true, decide_false, Int.reduceToNat, Nat.min_eq_left, Nat.min_eq_right, Int.reducePow, Nat.reducePow, Int.reduceLE, Int.reduceLT, Int.reduceMul, Int.reduceAdd, Int.reduceSub, Int.reduceNeg, Bool.not_true, Bool.not_false, Bool.not_not, ↓reduceIte, Nat.reduceAdd, Nat.reduceSub, Nat.reduceMul, Nat.reduceEqDiff, reduceCtorEq, Nat.reduceLT, Nat.reduceLeDiff, Nat.reduceGT]); (try any_goals (refine ⟨?_, ?_⟩)); (try any_goals (with_reducible rfl))))
    all_goals simp
theorem fitC_int (n : Int) (σ : List Nat) : fitC σ (.cells [.int .i64 n]) (.cells [.int .i64 n]) := ⟨⟨rfl, rfl⟩, trivial⟩
theorem c_has1 {h : List Ch} {K : KT} {x : Rng} {t : Nat} {n : Int} (H : K (.bool (decide (x.from_ ≤ n) && decide (n < x.to_))) h) (o : hth h t = .cells [.int .i64 n]) : Does Try.prog 28 [.agg [.int .i64 x.from_, .int .i64 x.to_], .ptr t 0] h K :=
  frame_look (b_has1 x n) o (by simp) (fitC_int n) (br_cons (br_agg (br_cons br_int (br_cons br_int br_nil))) (br_cons (br_ptr rfl) br_nil)) (.inl rfl) (fun _ => rfl) rfl H
abbrev i_has1 := Ctr.mk (i := 0) (g := 28) @c_has1
attribute [instance] i_has1
theorem c_containsHas {h : List Ch} {K : KT} {xs : List Rng} {t : Nat} {n : Int} (H : K (.bool (hasB xs n)) h) (o : hth h t = .cells [.int .i64 n]) (s1 : xs.length ≤ 9223372036854775806) : Does Try.prog 27 [.ro .rng xs, .fn 28 [.ptr t 0]] h K :=
  Does.of_K (k_containsFunc _ s1 (fun x K' hK' => c_has1 hK' o) H)
abbrev i_containsHas := Ctr.mk (i := 0) (g := 27) @c_containsHas
attribute [instance] i_containsHas
theorem b_has (xs : List Rng) (n : Int) (hl : xs.length ≤ 9223372036854775806) : DoesK Try.prog 0 13 [.ro .rng xs, .int .i64 n] [] (EndF 0 (.bool (hasB xs n)) []) := by
  refine DoesK.close ?_
  refine w_body (rs := [.tmp 4]) (tm := [.ro .rng xs, .int .i64 n, .any, .any, .any, .any, .any, .any]) fn_13 rfl rfl rfl rfl fun R hR => ?_
  (all_goals (try ((first | (with_reducible refine wp_id ?_) | (with_reducible refine does_id ?_)); refine walk ?_; (repeat' (first | exact trivial | with_reducible refine And.intro ?_ ?_)); all_goals (repeat (first | (with_reducible refine ImpB.mk fun hb => ?_) | (with_reducible refine ImpK.mk fun hK => ?_) | (with_reducible refine ImpF.mk fun hF => ?_) | (with_reducible refine ImpQ.mk fun hp => ?_) | (with_reducible refine AllE.mk fun p => ?_) | (with_reducible refine AllR.mk fun rest => ?_) | (with_reducible refine AllK.mk fun K => ?_))))); repeat' (with_reducible refine And.intro ?_ ?_))
  (focus (refine ⟨_, _, Gh.refl, [], rfl, ?_⟩; (refine ⟨?_, ?_, ?_⟩ <;> simp only [go_sem, List.range, List.range.loop, List.nodup_cons, List.nodup_nil, List.mem_cons, List.not_mem_nil, or_false, or_self, decide_true, decide_false, Int.reduceToNat, Nat.min_eq_left, Nat.min_eq_right, Int.reducePow, Nat.reducePow, Int.reduceLE, Int.reduceLT, Int.reduceMul, Int.reduceAdd, Int.reduceSub, Int.reduceNeg, Bool.not_true, Bool.not_false, Bool.not_not, ↓reduceIte, Nat.reduceAdd, Nat.reduceSub, Nat.reduceMul, Nat.reduceEqDiff, reduceCtorEq, Nat.reduceLT, Nat.reduceLeDiff, Nat.reduceGT]); (try any_goals (refine ⟨?_, ?_⟩)); (try any_goals (with_reducible rfl))))
theorem c_has {h : List Ch} {K : KT} {xs : List Rng} {n : Int} {a : AV} (H : K (.bool (hasB xs n)) h) (b1 : brA [] h (.ro .rng xs) a) (s1 : xs.length ≤ 9223372036854775806) : Does Try.prog 13 [a, .int .i64 n] h K :=
  frame_pure (b_has xs n s1) (br_cons b1 (br_cons br_int br_nil)) (.inr rfl) (fun _ => rfl) H
abbrev i_has := Ctr.mk (i := 0) (g := 13) @c_has
attribute [instance] i_has
theorem b_clone (xs : List Rng) (hl : xs.length ≤ 1099511627776) : DoesK Try.prog 0 30 [.ro .rng xs] [] (EndF 0 (.sl 0 .rng 0 xs.length) [.rows .rng xs]) := by
  refine DoesK.close ?_
  refine w_body (rs := [.tmp 2]) (tm := [.ro .rng xs, .any, .any, .any, .any, .any, .any, .any]) fn_30 rfl rfl rfl rfl fun R hR => ?_
  (all_goals (try ((first | (with_reducible refine wp_id ?_) | (with_reducible refine does_id ?_)); refine walk ?_; (repeat' (first | exact trivial | with_reducible refine And.intro ?_ ?_)); all_goals (repeat (first | (with_reducible refine ImpB.mk fun hb => ?_) | (with_reducible refine ImpK.mk fun hK => ?_) | (with_reducible refine ImpF.mk fun hF => ?_) | (with_reducible refine ImpQ.mk fun hp => ?_) | (with_reducible refine AllE.mk fun p => ?_) | (with_reducible refine AllR.mk fun rest => ?_) | (with_reducible refine AllK.mk fun K => ?_))))); repeat' (with_reducible refine And.intro ?_ ?_))
  · exact ⟨_, rfl⟩
  · subst hb
    refine ⟨_, _, gh_adopt (s := 0) .rng trivial, [0], rfl, ?ft⟩
    case' ft => (refine ⟨?_, ?_, ?_⟩ <;> simp only [go_sem, List.range, List.range.loop, List.nodup_cons, List.nodup_nil, List.mem_cons, List.not_mem_nil, or_false, or_self, decide_true, decide_false, Int.reduceToNat, Nat.min_eq_left, Nat.min_eq_right, Int.reducePow, Nat.reducePow, Int.reduceLE, Int.reduceLT, Int.reduceMul, Int.reduceAdd, Int.reduceSub, Int.reduceNeg, Bool.not_true, Bool.not_false, Bool.not_not, ↓reduceIte, Nat.reduceAdd, Nat.reduceSub, Nat.reduceMul, Nat.reduceEqDiff, reduceCtorEq, Nat.reduceLT, Nat.reduceLeDiff, Nat.reduceGT])
    all_goals rfl
  · omega
  · omega
  · (focus (refine ⟨_, _, Gh.refl, [1], rfl, ?_⟩; (refine ⟨?_, ?_, ?_⟩ <;> simp only [go_sem, List.range, List.range.loop, List.nodup_cons, List.nodup_nil, List.mem_cons, List.not_mem_nil, or_false, or_self, decide_true, decide_false, Int.reduceToNat, Nat.min_eq_left, Nat.min_eq_right, Int.reducePow, Nat.reducePow, Int.reduceLE, Int.reduceLT, Int.reduceMul, Int.reduceAdd, Int.reduceSub, Int.reduceNeg, Bool.not_true, Bool.not_false, Bool.not_not, ↓reduceIte, Nat.reduceAdd, Nat.reduceSub, Nat.reduceMul, Nat.reduceEqDiff, reduceCtorEq, Nat.reduceLT, Nat.reduceLeDiff, Nat.reduceGT]); (try any_goals (refine ⟨?_, ?_⟩)); (try any_goals (with_reducible rfl))))
theorem c_clone {h : List Ch} {K : KT} {xs : List Rng} {a : AV} (H : K (.sl h.length .rng 0 xs.length) (h ++ [.rows .rng xs])) (q1 : isRO .rng xs a) (s1 : xs.length ≤ 1099511627776) : Does Try.prog 30 [a] h K :=
  frame_new (b_clone xs s1) (br_cons q1.br br_nil) (.inl (by rw [brTL, q1.brT]; rfl)) (fun _ => rfl) (by simp [renA, rhoC]) H
abbrev i_clone := Ctr.mk (i := 0) (g := 30) @c_clone
attribute [instance] i_clone
theorem b_ne (x : Rng) : DoesK Try.prog 0 33 [.agg [.int .i64 x.from_, .int .i64 x.to_]] [] (EndF 0 (.bool (neR x)) []) := by
  refine DoesK.close ?_
  refine w_body (rs := [.tmp 2]) (tm := [.agg [.int .i64 x.from_, .int .i64 x.to_], .any, .any, .any, .any, .any, .any, .any]) fn_33 rfl rfl rfl rfl fun R hR => ?_
  (all_goals (try ((first | (with_reducible refine wp_id ?_) | (with_reducible refine does_id ?_)); refine walk ?_; (repeat' (first | exact trivial | with_reducible refine And.intro ?_ ?_)); all_goals (repeat (first | (with_reducible refine ImpB.mk fun hb => ?_) | (with_reducible refine ImpK.mk fun hK => ?_) | (with_reducible refine ImpF.mk fun hF => ?_) | (with_reducible refine ImpQ.mk fun hp => ?_) | (with_reducible refine AllE.mk fun p => ?_) | (with_reducible refine AllR.mk fun rest => ?_) | (with_reducible refine AllK.mk fun K => ?_))))); repeat' (with_reducible refine And.intro ?_ ?_))
  (focus (refine ⟨_, _, Gh.refl, [], rfl, ?_⟩; (refine ⟨?_, ?_, ?_⟩ <;> simp only [go_sem, List.range, List.range.loop, List.nodup_cons, List.nodup_nil, List.mem_cons, List.not_mem_nil, or_false, or_self, decide_true, decide_false, Int.reduceToNat, Nat.min_eq_left, Nat.min_eq_right, Int.reducePow, Nat.reducePow, Int.reduceLE, Int.reduceLT, Int.reduceMul, Int.reduceAdd, Int.reduceSub, Int.reduceNeg, Bool.not_true, Bool.not_false, Bool.not_not, ↓reduceIte, Nat.reduceAdd, Nat.reduceSub, Nat.reduceMul, Nat.reduceEqDiff, reduceCtorEq, Nat.reduceLT, Nat.reduceLeDiff, Nat.reduceGT]); (try any_goals (refine ⟨?_, ?_⟩)); (try any_goals (with_reducible rfl))))
  all_goals rfl
theorem c_ne {h : List Ch} {K : KT} {x : Rng} (H : K (.bool (neR x)) h) : Does Try.prog 33 [.agg [.int .i64 x.from_, .int .i64 x.to_]] h K :=
  frame_pure (b_ne x) (br_cons (br_agg (br_cons br_int (br_cons br_int br_nil))) br_nil) (.inl rfl) (fun _ => rfl) H
abbrev i_ne := Ctr.mk (i := 0) (g := 33) @c_ne
attribute [instance] i_ne
theorem b_ixNe (xs : List Rng) (hl : xs.length ≤ 9223372036854775806) : DoesK Try.prog 0 37 [.ro .rng xs, .fn 33 []] [] (EndF 0 (.int .i64 (ixF neR xs 0)) []) :=
  k_indexFunc neR hl (fun x K' hK' => c_ne hK') ⟨[], rfl, ⟨⟨rfl, rfl⟩, trivial⟩, trivial, .nil⟩
theorem br_fn {σ : List Nat} {h : List Ch} {f : FuncId} : brA σ h (.fn f []) (.fn f []) := ⟨rfl, trivial⟩
theorem c_ixNe {h : List Ch} {K : KT} {xs : List Rng} {a : AV} (H : K (.int .i64 (ixF neR xs 0)) h) (b1 : brA [] h (.ro .rng xs) a) (s1 : xs.length ≤ 9223372036854775806) : Does Try.prog 37 [a, .fn 33 []] h K :=
  frame_pure (b_ixNe xs s1) (br_cons b1 (br_cons br_fn br_nil)) (.inr rfl) (fun _ => rfl) H
abbrev i_ixNe := Ctr.mk (i := 0) (g := 37) @c_ixNe
attribute [instance] i_ixNe
theorem ixF_cases (p : Rng → Bool) : ∀ (l : List Rng), (∀ x ∈ l, p x = false) ∨ ∃ j, j < l.length ∧ (∀ i, i < j → p (rAt l i) = false) ∧ p (rAt l j) = true
  | [] => .inl fun x h => by cases h
  | x :: l => by
    cases h : p x
    · rcases ixF_cases p l with q | ⟨j, h1, h2, h3⟩
      · exact .inl fun y hy => by rcases List.mem_cons.1 hy with rfl | hy; exact h; exact q y hy
      · refine .inr ⟨j + 1, by simpa using h1, fun i hi => ?_, h3⟩
        cases i with
        | zero => exact h
        | succ i => exact h2 i (by omega)
    · exact .inr ⟨0, by simp, fun i hi => absurd hi (by omega), h⟩
theorem rAt_eq {l : List Rng} {i : Nat} (h : i < l.length) : rAt l i = l[i] := by
  unfold rAt
  rw [List.getD_eq_getElem?_getD, List.getElem?_eq_getElem h]
  rfl
/-- the state of DeleteFunc's loop -/
structure DelI (xs : List Rng) (i j : Nat) (ys : List Rng) : Prop where
  j0 : j ≤ xs.length
  ij : i < j
  len : ys.length = xs.length
  kept : ys.take i = (xs.take j).filter fun x => !neR x
  rest : ys.drop j = xs.drop j
theorem DelI.start {xs : List Rng} {j : Nat} (h1 : j < xs.length) (h2 : ∀ i, i < j → neR (rAt xs i) = false) (h3 : neR (rAt xs j) = true) : DelI xs j (j + 1) xs := by
  refine ⟨by omega, by omega, rfl, ?_, rfl⟩
  rw [List.take_succ_eq_append_getElem h1, List.filter_append, List.filter_eq_self.2 fun x hx => ?_]
  · rw [rAt_eq h1] at h3
    simp [h3]
  · obtain ⟨i, hi, rfl⟩ := List.getElem_of_mem hx
    rw [List.length_take] at hi
    have := h2 i (by omega)
    rw [rAt_eq (by omega)] at this
    simp [this]
theorem DelI.at_ {xs ys : List Rng} {i j : Nat} (h : DelI xs i j ys) (hj : j < xs.length) : rAt ys j = rAt xs j := by
  have h1 : j < ys.length := by rw [h.len]; exact hj
  rw [rAt_eq hj, rAt_eq h1]
  have := congrArg (fun l => l[0]?) h.rest
  simpa [List.getElem?_drop, List.getElem?_eq_getElem hj, List.getElem?_eq_getElem h1] using this
theorem DelI.keep {xs ys : List Rng} {i j : Nat} (h : DelI xs i j ys) (hj : j < xs.length) (hn : neR (rAt xs j) = false) : DelI xs (i + 1) (j + 1) (ys.set i (rAt xs j)) := by
  have h1 : i < ys.length := by rw [h.len]; have := h.ij; omega
  refine ⟨by omega, by have := h.ij; omega, by rw [List.length_set, h.len], ?_, ?_⟩
  · rw [List.take_succ_eq_append_getElem (by rw [List.length_set]; exact h1), List.take_set_of_le (Nat.le_refl _), h.kept, List.take_succ_eq_append_getElem hj, List.filter_append]
    rw [rAt_eq hj] at hn ⊢
    simp [hn]
  · rw [List.drop_set_of_lt (by have := h.ij; omega), ← List.drop_drop, h.rest, List.drop_drop]
theorem DelI.skip {xs ys : List Rng} {i j : Nat} (h : DelI xs i j ys) (hj : j < xs.length) (hn : neR (rAt xs j) = true) : DelI xs i (j + 1) ys := by
  refine ⟨by omega, by have := h.ij; omega, h.len, ?_, ?_⟩
  · rw [h.kept, List.take_succ_eq_append_getElem hj, List.filter_append]
    rw [rAt_eq hj] at hn
    simp [hn]
  · rw [← List.drop_drop, h.rest, List.drop_drop]
theorem b_delNe (xs : List Rng) (hl : xs.length ≤ 1099511627776) : DoesK Try.prog 1 32 [.sl 0 .rng 0 xs.length, .fn 33 []] [.rows .rng xs] (EndF 1 (.sl 0 .rng 0 (xs.filter fun x => !neR x).length) ([.rows .rng (xs.filter fun x => !neR x)] ++ [])) := by
  refine DoesK.close ?_
  rcases ixF_cases neR xs with q | ⟨j0, g1, g2, g3⟩
  · have e1 : xs.filter (fun x => !neR x) = xs := List.filter_eq_self.2 fun x hx => by rw [q x hx]; rfl
    have e2 := ixF_none (k := 0) q
    rw [e1]
    refine w_body (rs := [.tmp 4]) (tm := [.sl 0 .rng 0 xs.length, .fn 33 [], .any, .any, .any, .any, .any, .any, .any, .any, .any, .any, .any, .any, .any, .any, .any, .any, .any, .any, .any, .any, .any, .any, .any, .any, .any, .any, .any, .any, .any, .any, .any, .any, .any, .any, .any, .any, .any, .any, .any, .any]) fn_32 rfl rfl rfl rfl fun R hR => ?_
    (have zx1 := @e2; all_goals (try ((first | (with_reducible refine wp_id ?_) | (with_reducible refine does_id ?_)); refine walk ?_; (repeat' (first | exact trivial | with_reducible refine And.intro ?_ ?_)); all_goals (repeat (first | (with_reducible refine ImpB.mk fun hb => ?_) | (with_reducible refine ImpK.mk fun hK => ?_) | (with_reducible refine ImpF.mk fun hF => ?_) | (with_reducible refine ImpQ.mk fun hp => ?_) | (with_reducible refine AllE.mk fun p => ?_) | (with_reducible refine AllR.mk fun rest => ?_) | (with_reducible refine AllK.mk fun K => ?_))))); repeat' (with_reducible refine And.intro ?_ ?_))
    all_goals first | (exfalso; simp at hb; done) | skip
    (focus (refine ⟨_, _, Gh.refl, [0], rfl, ?_⟩; (refine ⟨?_, ?_, ?_⟩ <;> simp only [go_sem, List.range, List.range.loop, List.nodup_cons, List.nodup_nil, List.mem_cons, List.not_mem_nil, or_false, or_self, decide_true, decide_false, Int.reduceToNat, Nat.min_eq_left, Nat.min_eq_right, Int.reducePow, Nat.reducePow, Int.reduceLE, Int.reduceLT, Int.reduceMul, Int.reduceAdd, Int.reduceSub, Int.reduceNeg, Bool.not_true, Bool.not_false, Bool.not_not, ↓reduceIte, Nat.reduceAdd, Nat.reduceSub, Nat.reduceMul, Nat.reduceEqDiff, reduceCtorEq, Nat.reduceLT, Nat.reduceLeDiff, Nat.reduceGT]); (try any_goals (refine ⟨?_, ?_⟩)); (try any_goals (with_reducible rfl))))
  · have e2 := ixF_at (k := 0) g1 g2 g3
    rw [Nat.zero_add] at e2
    have d2 : decide ((j0 : Int) = -1) = false := decide_eq_false (by omega)
    have w0 : IntKind.i64.wrap ((j0 : Int) + 1) = ((j0 + 1 : Nat) : Int) := by rw [wrap_i64 _ (by omega) (by omega)]; omega
    refine w_body (rs := [.tmp 4]) (tm := [.sl 0 .rng 0 xs.length, .fn 33 [], .any, .any, .any, .any, .any, .any, .any, .any, .any, .any, .any, .any, .any, .any, .any, .any, .any, .any, .any, .any, .any, .any, .any, .any, .any, .any, .any, .any, .any, .any, .any, .any, .any, .any, .any, .any, .any, .any, .any, .any]) fn_32 rfl rfl rfl rfl fun R hR => ?_
    (have zx1 := @e2; have zx2 := @d2; have zx3 := @w0; all_goals (try ((first | (with_reducible refine wp_id ?_) | (with_reducible refine does_id ?_)); refine walk ?_; (repeat' (first | exact trivial | with_reducible refine And.intro ?_ ?_)); all_goals (repeat (first | (with_reducible refine ImpB.mk fun hb => ?_) | (with_reducible refine ImpK.mk fun hK => ?_) | (with_reducible refine ImpF.mk fun hF => ?_) | (with_reducible refine ImpQ.mk fun hp => ?_) | (with_reducible refine AllE.mk fun p => ?_) | (with_reducible refine AllR.mk fun rest => ?_) | (with_reducible refine AllK.mk fun K => ?_))))); repeat' (with_reducible refine And.intro ?_ ?_))
    any_goals ((try (refine w_seq fun K hK => ?_)); (try (refine w_block ?_)); refine w_loop (A := Nat × Nat × List Rng) (fun p => DelI xs p.1 p.2.1 p.2.2) (fun p => xs.length - p.2.1) (fun p => [(5, .int .i64 p.1), (6, .int .i64 p.2.1)]) (fun p => [(0, .rows .rng p.2.2)]) ((j0, j0 + 1, xs)) (ws := ?ws1) (tk := ?tk1) ?hw1 ?ht1 ?hi ?h0 ?LH1; (case hw1 => simp only [go_sem, decide_true, decide_false, Int.reduceToNat, Nat.min_eq_left, Nat.min_eq_right, Int.reducePow, Nat.reducePow, Int.reduceLE, Int.reduceLT, Int.reduceMul, Int.reduceAdd, Int.reduceSub, Int.reduceNeg, Bool.not_true, Bool.not_false, Bool.not_not, ↓reduceIte, Nat.reduceAdd, Nat.reduceSub, Nat.reduceMul, Nat.reduceEqDiff, reduceCtorEq, Nat.reduceLT, Nat.reduceLeDiff, Nat.reduceGT]; exact rfl); (case ht1 => simp only [go_sem, decide_true, decide_false, Int.reduceToNat, Nat.min_eq_left, Nat.min_eq_right, Int.reducePow, Nat.reducePow, Int.reduceLE, Int.reduceLT, Int.reduceMul, Int.reduceAdd, Int.reduceSub, Int.reduceNeg, Bool.not_true, Bool.not_false, Bool.not_not, ↓reduceIte, Nat.reduceAdd, Nat.reduceSub, Nat.reduceMul, Nat.reduceEqDiff, reduceCtorEq, Nat.reduceLT, Nat.reduceLeDiff, Nat.reduceGT]; exact rfl); (case' LH1 => rintro ⟨i, j, ys⟩ E t hx hE ht; simp only [go_sem] at ht; subst ht; simp only [go_sem]; try dsimp only at hx))
    case hi => exact .start g1 g2 g3
    case h0 => (focus (refine ⟨_, _, Gh.refl, [0], rfl, ?_⟩; (refine ⟨?_, ?_, ?_⟩ <;> simp only [go_sem, List.range, List.range.loop, List.nodup_cons, List.nodup_nil, List.mem_cons, List.not_mem_nil, or_false, or_self, decide_true, decide_false, Int.reduceToNat, Nat.min_eq_left, Nat.min_eq_right, Int.reducePow, Nat.reducePow, Int.reduceLE, Int.reduceLT, Int.reduceMul, Int.reduceAdd, Int.reduceSub, Int.reduceNeg, Bool.not_true, Bool.not_false, Bool.not_not, ↓reduceIte, Nat.reduceAdd, Nat.reduceSub, Nat.reduceMul, Nat.reduceEqDiff, reduceCtorEq, Nat.reduceLT, Nat.reduceLeDiff, Nat.reduceGT]); (try any_goals (refine ⟨?_, ?_⟩)); (try any_goals (with_reducible rfl))))
    case LH1 =>
      have hj0 := hx.j0
      have hij := hx.ij
      have hlen := hx.len
      have wj : IntKind.i64.wrap ((j : Int) + 1) = ((j + 1 : Nat) : Int) := by rw [wrap_i64 _ (by omega) (by omega)]; omega
      have wi : IntKind.i64.wrap ((i : Int) + 1) = ((i + 1 : Nat) : Int) := by rw [wrap_i64 _ (by omega) (by omega)]; omega
      by_cases hj : j < xs.length
      · have hjd : decide ((j : Int) < xs.length) = true := decide_eq_true (by omega)
        have hat : ys.getD j Rng.zero = rAt xs j := hx.at_ hj
        cases hn : neR (rAt xs j)
        · (have zx1 := @hjd; have zx2 := @hat; have zx3 := @hn; have zx4 := @wi; have zx5 := @wj; all_goals (try ((first | (with_reducible refine wp_id ?_) | (with_reducible refine does_id ?_)); refine walk ?_; (repeat' (first | exact trivial | with_reducible refine And.intro ?_ ?_)); all_goals (repeat (first | (with_reducible refine ImpB.mk fun hb => ?_) | (with_reducible refine ImpK.mk fun hK => ?_) | (with_reducible refine ImpF.mk fun hF => ?_) | (with_reducible refine ImpQ.mk fun hp => ?_) | (with_reducible refine AllE.mk fun p => ?_) | (with_reducible refine AllR.mk fun rest => ?_) | (with_reducible refine AllK.mk fun K => ?_))))); repeat' (with_reducible refine And.intro ?_ ?_))
          all_goals first | exact Int.natCast_nonneg _ | exact Int.ofNat_lt.2 hj | omega | skip
          refine ⟨(i + 1, j + 1, ys.set i (rAt xs j)), ⟨hx.keep hj hn, by first | omega | (dsimp only; omega)⟩, ?m1⟩
          (focus (refine ⟨_, _, Gh.refl, [0], rfl, ?_⟩; (refine ⟨?_, ?_, ?_⟩ <;> simp only [go_sem, List.range, List.range.loop, List.nodup_cons, List.nodup_nil, List.mem_cons, List.not_mem_nil, or_false, or_self, decide_true, decide_false, Int.reduceToNat, Nat.min_eq_left, Nat.min_eq_right, Int.reducePow, Nat.reducePow, Int.reduceLE, Int.reduceLT, Int.reduceMul, Int.reduceAdd, Int.reduceSub, Int.reduceNeg, Bool.not_true, Bool.not_false, Bool.not_not, ↓reduceIte, Nat.reduceAdd, Nat.reduceSub, Nat.reduceMul, Nat.reduceEqDiff, reduceCtorEq, Nat.reduceLT, Nat.reduceLeDiff, Nat.reduceGT]); (try any_goals (refine ⟨?_, ?_⟩)); (try any_goals (with_reducible rfl))))
        · (have zx1 := @hjd; have zx2 := @hat; have zx3 := @hn; have zx4 := @wi; have zx5 := @wj; all_goals (try ((first | (with_reducible refine wp_id ?_) | (with_reducible refine does_id ?_)); refine walk ?_; (repeat' (first | exact trivial | with_reducible refine And.intro ?_ ?_)); all_goals (repeat (first | (with_reducible refine ImpB.mk fun hb => ?_) | (with_reducible refine ImpK.mk fun hK => ?_) | (with_reducible refine ImpF.mk fun hF => ?_) | (with_reducible refine ImpQ.mk fun hp => ?_) | (with_reducible refine AllE.mk fun p => ?_) | (with_reducible refine AllR.mk fun rest => ?_) | (with_reducible refine AllK.mk fun K => ?_))))); repeat' (with_reducible refine And.intro ?_ ?_))
          all_goals first | exact Int.natCast_nonneg _ | exact Int.ofNat_lt.2 hj | omega | skip
          refine ⟨(i, j + 1, ys), ⟨hx.skip hj hn, by first | omega | (dsimp only; omega)⟩, ?m2⟩
          (focus (refine ⟨_, _, Gh.refl, [0], rfl, ?_⟩; (refine ⟨?_, ?_, ?_⟩ <;> simp only [go_sem, List.range, List.range.loop, List.nodup_cons, List.nodup_nil, List.mem_cons, List.not_mem_nil, or_false, or_self, decide_true, decide_false, Int.reduceToNat, Nat.min_eq_left, Nat.min_eq_right, Int.reducePow, Nat.reducePow, Int.reduceLE, Int.reduceLT, Int.reduceMul, Int.reduceAdd, Int.reduceSub, Int.reduceNeg, Bool.not_true, Bool.not_false, Bool.not_not, ↓reduceIte, Nat.reduceAdd, Nat.reduceSub, Nat.reduceMul, Nat.reduceEqDiff, reduceCtorEq, Nat.reduceLT, Nat.reduceLeDiff, Nat.reduceGT]); (try any_goals (refine ⟨?_, ?_⟩)); (try any_goals (with_reducible rfl))))
      · have hjd : decide ((j : Int) < xs.length) = false := decide_eq_false (by omega)
        (have zx1 := @hjd; all_goals (try ((first | (with_reducible refine wp_id ?_) | (with_reducible refine does_id ?_)); refine walk ?_; (repeat' (first | exact trivial | with_reducible refine And.intro ?_ ?_)); all_goals (repeat (first | (with_reducible refine ImpB.mk fun hb => ?_) | (with_reducible refine ImpK.mk fun hK => ?_) | (with_reducible refine ImpF.mk fun hF => ?_) | (with_reducible refine ImpQ.mk fun hp => ?_) | (with_reducible refine AllE.mk fun p => ?_) | (with_reducible refine AllR.mk fun rest => ?_) | (with_reducible refine AllK.mk fun K => ?_))))); repeat' (with_reducible refine And.intro ?_ ?_))
        all_goals first | exact Int.natCast_nonneg _ | exact Int.ofNat_lt.2 hj | omega | skip
        have hk := hx.kept
        rw [List.take_of_length_le (l := xs) (by omega)] at hk
        have hkl := congrArg List.length hk
        rw [List.length_take] at hkl
        rw [← hk]
        (focus (refine ⟨_, _, Gh.refl, [0], rfl, ?_⟩; (refine ⟨?_, ?_, ?_⟩ <;> simp only [go_sem, List.range, List.range.loop, List.nodup_cons, List.nodup_nil, List.mem_cons, List.not_mem_nil, or_false, or_self, decide_true, decide_false, Int.reduceToNat, Nat.min_eq_left, Nat.min_eq_right, Int.reducePow, Nat.reducePow, Int.reduceLE, Int.reduceLT, Int.reduceMul, Int.reduceAdd, Int.reduceSub, Int.reduceNeg, Bool.not_true, Bool.not_false, Bool.not_not, ↓reduceIte, Nat.reduceAdd, Nat.reduceSub, Nat.reduceMul, Nat.reduceEqDiff, reduceCtorEq, Nat.reduceLT, Nat.reduceLeDiff, Nat.reduceGT]); (try any_goals (refine ⟨?_, ?_⟩)); (try any_goals (with_reducible rfl))))
        omega
theorem c_delNe {h : List Ch} {K : KT} {xs : List Rng} {t n : Nat} (H : K (.sl t .rng 0 (xs.filter fun x => !neR x).length) (h.set t (.rows .rng (xs.filter fun x => !neR x)))) (o : hth h t = .rows .rng xs) (s1 : n = xs.length) (s2 : xs.length ≤ 1099511627776) : Does Try.prog 32 [.sl t .rng 0 n, .fn 33 []] h K := by
  subst s1
  exact frame_obj0 (b_delNe xs s2) o (by simp) (fitC_rows _ _) (br_cons (br_own rfl) (br_cons br_fn br_nil)) (.inl rfl) (fun _ => rfl) rfl H
abbrev i_delNe := Ctr.mk (i := 0) (g := 32) @c_delNe
attribute [instance] i_delNe
end Go.V
