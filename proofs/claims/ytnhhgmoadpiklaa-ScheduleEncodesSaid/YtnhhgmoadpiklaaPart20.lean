/-
  slices.SortFunc at elements of whatever kind: the shelf's contract over the abstract memory.
  schedule: clones of commands; the order of entries; slices.SortFunc at entries.
  schedule: the object; IndexFunc, Delete, Clone of slices of entries.
-/
import Derived.Test.YtnhhgmoadpiklaaPart19
import Derived.Shelf.SlSortCmp.WholeK
import Derived.Shelf.SlSortCmp.NoneTotal
import Derived.Sort.OwnSorted
import Derived.Shelf.Lay
import Derived.Ground.SlsfProg
set_option linter.unusedVariables false
set_option linter.unusedSimpArgs false
namespace Go.V
open Go.Sort Go.Shelf Go.RowKit Go.Proofs

theorem rel_int {R : RO} {μ : List Bind} {k k' : IntKind} {n m : Int} (h : Rel R μ (.int k n) (.int k' m)) : m = n := by cases h; rfl
/-- two lists, element by element -/
inductive All2 {α β : Type} (r : α → β → Prop) : List α → List β → Prop
  | nil : All2 r [] []
  | cons {a b l m} (h : r a b) (hs : All2 r l m) : All2 r (a :: l) (b :: m)
theorem All2.len {α β : Type} {r : α → β → Prop} : ∀ {l : List α} {m : List β}, All2 r l m → l.length = m.length
  | _, _, .nil => rfl
  | _, _, .cons _ hs => by simp [All2.len hs]
theorem All2.perm {α β : Type} {r : α → β → Prop} {d d' : List β} (hp : d.Perm d') : ∀ {xs : List α}, All2 r xs d → ∃ ys, xs.Perm ys ∧ All2 r ys d' := by
  induction hp with
  | nil => intro xs h; cases h; exact ⟨[], .nil, .nil⟩
  | cons b _ ih =>
    intro xs h
    cases h with
    | cons h1 h2 =>
      obtain ⟨ys, p1, p2⟩ := ih h2
      exact ⟨_ :: ys, p1.cons _, .cons h1 p2⟩
  | swap b c l =>
    intro xs h
    cases h with
    | cons h1 h2 =>
      cases h2 with
      | cons h3 h4 => exact ⟨_, List.Perm.swap _ _ _, .cons h3 (.cons h1 h4)⟩
  | trans _ _ ih1 ih2 =>
    intro xs h
    obtain ⟨ys, p1, p2⟩ := ih1 h
    obtain ⟨zs, p3, p4⟩ := ih2 p2
    exact ⟨zs, p1.trans p3, p4⟩
theorem All2.get {α β : Type} {r : α → β → Prop} : ∀ {l : List α} {m : List β}, All2 r l m → ∀ (i : Nat) (h1 : i < l.length) (h2 : i < m.length), r l[i] m[i]
  | _, _, .nil, i, h1, _ => by simp at h1
  | _, _, .cons h _, 0, _, _ => h
  | _, _, .cons _ hs, i + 1, h1, h2 => All2.get hs i (by simpa using h1) (by simpa using h2)
theorem flat_split {R : RO} {e : Ety} {α : Type} {enc : α → List Value} (hdec : ∀ (x : e.T) (cs : List Value), LRel R [] (e.enc x) cs → ∃ a, enc a = cs) : ∀ {xs : List e.T} {cs : List Value}, LRel R [] (xs.flatMap e.enc) cs → ∃ d : List α, cs = d.flatMap enc ∧ All2 (fun x a => LRel R [] (e.enc x) (enc a)) xs d
  | [], cs, h => by cases h; exact ⟨[], rfl, .nil⟩
  | x :: xs, cs, h => by
    rw [List.flatMap_cons] at h
    have h1 := h.take (e.enc x).length
    rw [List.take_left] at h1
    have h2 := h.drop (e.enc x).length
    rw [List.drop_left] at h2
    obtain ⟨a, ha⟩ := hdec x _ h1
    obtain ⟨d, hd, hall⟩ := flat_split hdec h2
    refine ⟨a :: d, ?_, .cons (by rw [ha]; exact h1) hall⟩
    rw [List.flatMap_cons, ← hd, ha, List.take_append_drop]
theorem flat_join {R : RO} {e : Ety} {α : Type} {enc : α → List Value} : ∀ {xs : List e.T} {d : List α}, All2 (fun x a => LRel R [] (e.enc x) (enc a)) xs d → LRel R [] (xs.flatMap e.enc) (d.flatMap enc)
  | _, _, .nil => .nil
  | _, _, .cons h hs => by
    rw [List.flatMap_cons, List.flatMap_cons]
    exact h.app (flat_join hs)
section
variable {α : Type} [Inhabited α] {enc : α → List Value} {k : Nat}
theorem flatMap_get (hk : ∀ x, (enc x).length = k) (k0 : 0 < k) : ∀ (l : List α) (t : Nat), t < l.length * k → (l.flatMap enc)[t]? = (enc (l.getD (t / k) default))[t % k]?
  | [], t, h => by simp at h
  | x :: l, t, h => by
    rw [List.flatMap_cons]
    by_cases ht : t < k
    · rw [List.getElem?_append_left (by rw [hk]; exact ht), Nat.div_eq_of_lt ht, Nat.mod_eq_of_lt ht]
      rfl
    · have h1 : t - k < l.length * k := by
        rw [List.length_cons, Nat.succ_mul] at h
        omega
      rw [List.getElem?_append_right (by rw [hk]; omega), hk, flatMap_get hk k0 l _ h1]
      have e1 : t / k = (t - k) / k + 1 := by
        rw [Nat.div_eq t k, if_pos ⟨k0, by omega⟩]
      have e2 : t % k = (t - k) % k := by
        rw [Nat.mod_eq t k, if_pos ⟨k0, by omega⟩]
      rw [e1, e2]
      rfl
omit [Inhabited α] in
theorem flatMap_len (hk : ∀ x, (enc x).length = k) : ∀ l : List α, (l.flatMap enc).length = l.length * k
  | [] => by simp
  | x :: l => by rw [List.flatMap_cons, List.length_append, hk, flatMap_len hk l, List.length_cons, Nat.succ_mul]; omega
theorem flatK_list (hk : ∀ x, (enc x).length = k) (k0 : 0 < k) (d : Array α) : (flatK enc k d).toList = d.toList.flatMap enc := by
  apply List.ext_getElem?
  intro t
  by_cases h : t < d.size * k
  · rw [flatMap_get hk k0 d.toList t (by simpa using h)]
    have h1 := get_flatK enc k d t h
    have hs : t < (flatK enc k d).size := by rw [size_flatK]; exact h
    rw [getElem!_pos (flatK enc k d) t hs] at h1
    have h2 : (flatK enc k d).toList[t]? = some (flatK enc k d)[t] := by rw [Array.getElem?_toList, Array.getElem?_eq_getElem hs]
    rw [h2, h1]
    have hd : t / k < d.size := Nat.div_lt_of_lt_mul (by rw [Nat.mul_comm]; exact h)
    rw [getElem!_pos d (t / k) hd]
    have e3 : d.toList.getD (t / k) default = d[t / k] := by
      rw [List.getD_eq_getElem?_getD, List.getElem?_eq_getElem (by simpa using hd)]
      simp
    rw [e3]
    have hm : t % k < (enc d[t / k]).length := by rw [hk]; exact Nat.mod_lt _ k0
    rw [getElem!_pos (enc d[t / k]) (t % k) hm, List.getElem?_eq_getElem hm]
  · rw [List.getElem?_eq_none (by rw [Array.length_toList, size_flatK]; omega), List.getElem?_eq_none (by rw [flatMap_len hk]; simp; omega)]
theorem holdsK_of {w : World} {g : Nat} {cur : Array Value} {ty : TypeId} {d : List α} (hk : ∀ x, (enc x).length = k) (k0 : 0 < k) (hb : w.heap[g]? = some (.cells cur ty (0, 0))) (ht : cur.toList.take (d.length * k) = d.flatMap enc) : HoldsK enc k w g 0 d.toArray := by
  intro j hj
  rw [size_flatK] at hj
  have hj' : j < d.length * k := by simpa using hj
  have h2 : (flatK enc k d.toArray).toList = d.flatMap enc := flatK_list hk k0 _
  have h1 : (cur.toList.take (d.length * k))[j]? = (flatK enc k d.toArray).toList[j]? := by rw [ht, h2]
  have hjs : j < (flatK enc k d.toArray).size := by rw [size_flatK]; exact hj
  rw [List.getElem?_take_of_lt hj', Array.getElem?_toList, Array.getElem?_toList, Array.getElem?_eq_getElem hjs] at h1
  refine ⟨?_, by simp [World.frozen?, hb]⟩
  simp only [World.cell?, hb, Nat.zero_add, Option.isSome_none, Bool.false_eq_true, if_false]
  rw [h1, getElem!_pos (flatK enc k d.toArray) j hjs]
  rfl
theorem heapK_sorted {w : World} {g n : Nat} {os : Array Obj} {cur : Array Value} {ty : TypeId} {fr : Nat × Nat} (d : Array α) (hb : w.heap[g]? = some (.cells cur ty fr)) :
    (sortWorldK enc k w g 0 n d os).heap[g]? = some (.cells (putCells id 0 (flatK enc k d) cur) ty fr) := by
  have hg : g < w.heap.size := (Array.getElem?_eq_some_iff.1 hb).1
  unfold sortWorldK putRowK
  rw [heap_grow_old _ _ (by simpa using hg)]
  simp [putRow, mapBlock, Sort.ahead, Array.getElem?_modify, hb, onCells]
theorem grownByK_sorted {w : World} {g n : Nat} {os : Array Obj} (d : Array α) : w.grownBy (sortWorldK enc k w g 0 n d os) (some g) := by
  unfold sortWorldK putRowK
  refine ⟨rfl, rfl, rfl, by simp, fun i hi hne => ?_⟩
  rw [heap_grow_old _ _ (by simpa using hi)]
  have : g ≠ i := fun e => hne (by rw [e])
  simp [putRow, mapBlock, Sort.ahead, Array.getElem?_modify, this]
theorem takeK_putCells (hk : ∀ x, (enc x).length = k) (k0 : 0 < k) (cur : Array Value) (d : List α) (h : d.length * k ≤ cur.size) : (putCells id 0 (flatK enc k d.toArray) cur).toList.take (d.length * k) = d.flatMap enc := by
  have h2 : (flatK enc k d.toArray).toList = d.flatMap enc := flatK_list hk k0 _
  have hsz : (flatK enc k d.toArray).size = d.length * k := by rw [size_flatK]; simp
  apply List.ext_getElem?
  intro j
  by_cases hj : j < d.length * k
  · rw [List.getElem?_take_of_lt hj, Array.getElem?_toList, ← h2, Array.getElem?_toList]
    have h3 : j < (flatK enc k d.toArray).size := by rw [hsz]; exact hj
    rw [Array.getElem?_eq_getElem h3]
    have h5 : (flatK enc k d.toArray)[j]! = (flatK enc k d.toArray)[j] := getElem!_pos (flatK enc k d.toArray) j h3
    simp [putCells, hj, show j < cur.size by omega, h5]
  · rw [List.getElem?_take_eq_none (by omega), List.getElem?_eq_none (by rw [flatMap_len hk]; omega)]
end
theorem sort_cmpK {P : Program} {g : FuncId} (hr : Here P g) {e : Ety} {α : Type} [Inhabited α] {enc : α → List Value} (hk : ∀ a, (enc a).length = e.sz) {fc : FuncId} {cf : α → α → Int} {lt : e.T → e.T → Bool}
    (hdec : ∀ (R : RO) (x : e.T) (cs : List Value), LRel R [] (e.enc x) cs → ∃ a, enc a = cs)
    (hlt : ∀ (R : RO) (x y : e.T) (a b : α), LRel R [] (e.enc x) (enc a) → LRel R [] (e.enc y) (enc b) → ltOf cf a b = lt x y)
    (hc : ∀ (blk off cap : Nat) (d : Array α) (w : World), HoldsK enc e.sz w blk off d → blk < w.heap.size → d.size < 4611686018427387904 →
      Calls P g #[.slice (some ⟨blk, off, none⟩) d.size cap, .func (.func fc) #[] #[]] w fun e' w' => e' = .returned (.tuple #[]) ∧ ∃ d' n os, PermIn 0 d.size d d' ∧ SortedIn (ltOf cf) 0 d.size d' ∧ w' = sortWorldK enc e.sz w blk off n d' os)
    (hc0 : ∀ (p : Option Addr) (cap : Nat) (w : World), Calls P g #[.slice p 0 cap, .func (.func fc) #[] #[]] w fun e w' => e = .returned (.tuple #[]) ∧ w' = w)
    {h : List Ch} {K : KT} {t : Nat} {xs : List e.T} {n : Nat} (hn : n = xs.length) (hx : xs.length ≤ 1099511627776)
    (H : ∀ ys : List e.T, ys.Perm xs → (ys.Pairwise fun x y => lt y x = false) → K (.tup []) (h.set t (.rows e ys))) (o : hth h t = .rows e xs) : Does P g [.sl t e 0 n, .fn fc []] h K := by
  refine ⟨hr, fun R μ w vs hv H0 => ?_⟩
  have hg := hth_get o (by simp)
  have k0 := e.sz_pos
  cases hv with
  | cons hv h2 =>
  cases h2 with
  | cons hf h3 =>
  cases h3
  cases hf with
  | @fn _ _ _ cvs hcv =>
  cases hcv
  have hz : n = 0 → K (.tup []) h := fun e1 => by
    rw [e1] at hn
    have : xs = [] := List.eq_nil_of_length_eq_zero hn.symm
    subst this
    have := H [] (.refl _) .nil
    rw [← o, set_hth rfl (by rw [o]; simp)] at this
    exact this
  generalize hN : n = N at hv
  cases hv with
  | sl0 hl =>
    refine (hc0 _ _ _).mono ?_
    rintro e w' ⟨rfl, rfl⟩
    exact ⟨_, R, μ, h, .tup [], rfl, hz hN, .tup .nil, H0, Ext.refl _, Step.refl _ _ _⟩
  | sl h1 hcap hl hm =>
    rename_i b cap c
    obtain ⟨B, hB, hr1, hown⟩ := H0.rel.get hg
    have : B = .blk b cap := by rw [h1] at hB; exact (Option.some.inj hB).symm
    subst this
    rcases hr1 with ⟨hx, _⟩ | ⟨b', cap', arr, ty, hx, hb, hsz, hlen, hmx, hrel⟩
    · cases hx
    · cases hx
      obtain ⟨d, hd, hall⟩ := flat_split (hdec R) hrel
      have hdl := hall.len
      rw [hdl] at hd
      have hH := holdsK_of hk k0 hb hd
      have hbl : b < w.heap.size := (Array.getElem?_eq_some_iff.1 hb).1
      subst hN
      subst hn
      rw [Nat.zero_mul, hdl]
      refine (hc b 0 c d.toArray w hH hbl (by simp; omega)).mono ?_
      rintro e' w' ⟨rfl, d', m, os, hp, hs, rfl⟩
      obtain ⟨p1, _, p3⟩ := hp
      have hperm : d'.toList.Perm d := by
        have e1 : d'.extract 0 d.toArray.size = d' := by rw [← p1, Array.extract_size]
        rw [e1, Array.extract_size] at p3
        exact p3
      obtain ⟨ys, hy1, hy2⟩ := All2.perm hperm.symm hall
      have hyl := hy2.len
      have hyx := hy1.length_eq
      have hpw : ys.Pairwise fun x y => lt y x = false := by
        rw [List.pairwise_iff_getElem]
        intro i j hi hj hij
        have hi' : i < d'.size := by rw [← Array.length_toList, ← hyl]; exact hi
        have hj' : j < d'.size := by rw [← Array.length_toList, ← hyl]; exact hj
        have q := hs i j (Nat.zero_le _) hij (by rw [← p1]; exact hj')
        rw [getElem!_pos d' i hi', getElem!_pos d' j hj'] at q
        have r1 := hy2.get i hi (by simpa using hi')
        have r2 := hy2.get j hj (by simpa using hj')
        rw [← hlt R _ _ _ _ r2 r1]
        simpa using q
      have hg2 := grownByK_sorted (enc := enc) (k := e.sz) (w := w) (g := b) (n := m) (os := os) d'
      obtain ⟨g1, g2, g3, g4, g5⟩ := hg2
      have hdd : d'.toList.toArray = d' := by simp
      obtain ⟨H1, hst⟩ := H0.set (w' := sortWorldK enc e.sz w b 0 m d' os) (c' := .rows e ys) hg hB (by simp [ownC]) (fun k hk hne => g5 k hk (fun e => hne (by simp only [ownC, List.mem_singleton]; exact Option.some.inj e))) g4
        (.inr ⟨b, cap, _, ty, rfl, heapK_sorted _ hb, by simp only [putCells, Array.size_mapIdx, hsz], by omega, hmx, by
          have h4 : d'.toList.length = ys.length := hyl.symm
          have h5 := takeK_putCells (k := e.sz) hk k0 arr d'.toList (by rw [h4, hsz]; exact Nat.mul_le_mul_right _ (by omega))
          rw [h4, hdd] at h5
          rw [h5]
          exact flat_join hy2⟩) rfl rfl rfl
      exact ⟨_, R, μ, _, .tup [], rfl, H ys hy1.symm hpw, .tup .nil, H1, Ext.refl _, hst⟩
/-- a call over nothing but what lies for good lays blocks and draws -/
theorem does_grow {P : Program} {g : FuncId} {xs : List AV} {k : IntKind} {n : Int} {vs : List Value} {w : World} (H : Does P g xs [] fun a _ => a = .int k n) (hr : LRel (oldR w) [] xs vs) :
    Calls P g vs.toArray w fun e w' => e = .returned (.int k n) ∧ ∃ q os', w' = grow (w.drewN q) os' :=
  (H.run (oldR w) [] w vs hr (old_ok w)).mono fun e w' hx => by
    obtain ⟨v, R', μ', h', av, rfl, rfl, h2, _, _, st⟩ := hx
    cases h2
    refine ⟨rfl, w'.drawn - w.drawn, w'.heap.extract w.heap.size w'.heap.size, ?_⟩
    have hd := st.drawn
    have hheap : w'.heap = w.heap ++ w'.heap.extract w.heap.size w'.heap.size := by
      apply Array.ext'
      apply List.ext_getElem?
      intro i
      rw [Array.toList_append]
      by_cases hi : i < w.heap.size
      · rw [List.getElem?_append_left (by simpa using hi), Array.getElem?_toList, Array.getElem?_toList]
        exact st.out i hi (by simp [ownH])
      · have hsz := st.size
        rw [List.getElem?_append_right (by simp; omega), Array.toList_extract, List.extract_eq_take_drop, List.getElem?_take, List.getElem?_drop, Array.length_toList, Array.getElem?_toList]
        have e1 : w.heap.size + (i - w.heap.size) = i := by omega
        rw [e1, Array.getElem?_toList]
        split
        · rfl
        · rw [Array.getElem?_eq_none (by omega)]
    unfold grow World.drewN
    cases w' with
    | mk heap tape drawn os output =>
      simp only at hd hheap
      have h1 := st.os
      have h2 := st.tape
      have h3 := st.output
      simp only at h1 h2 h3
      subst h1; subst h2; subst h3
      simp only [World.mk.injEq, true_and, and_true]
      exact ⟨hheap, by omega⟩
end Go.V

set_option maxRecDepth 100000
set_option maxHeartbeats 4000000
namespace Go.Proofs
open Go.Shelf Go.RowKit Go.Lib Go.Sort
shelf_lay_g SlLaysF0.n6 Slsf 6 at Try 77 as Try.sortItem
end Go.Proofs
namespace Go.V
open Go.Proofs Go.Sort Go.Shelf Go.RowKit
theorem b_cloneI (xs : List Int) (hs : xs.length ≤ 1099511627776) : DoesK Try.prog 0 74 [.ro .int xs] [] (EndF 0 (.ro .int xs) []) := by
  refine DoesK.close ?_
  refine w_body (rs := [.tmp 2]) (tm := [.ro .int xs, .any, .any, .any, .any, .any, .any, .any]) fn_74 rfl rfl rfl rfl fun R hR => ?_
  (all_goals (try ((first | (with_reducible refine wp_id ?_) | (with_reducible refine does_id ?_) | (with_reducible refine ops_id ?_)); refine walk ?_; (repeat' (first | exact trivial | with_reducible refine And.intro ?_ ?_)); all_goals (repeat (first | (with_reducible refine ImpB.mk fun hb => ?_) | (with_reducible refine ImpK.mk fun hK => ?_) | (with_reducible refine ImpF.mk fun hF => ?_) | (with_reducible refine ImpQ.mk fun hp => ?_) | (with_reducible refine AllE.mk fun p => ?_) | (with_reducible refine AllR.mk fun rest => ?_) | (with_reducible refine AllK.mk fun K => ?_))))); repeat' (with_reducible refine And.intro ?_ ?_))
  (all_goals first | exact Int.natCast_nonneg _ | exact Int.ofNat_lt.2 (by assumption) | assumption | omega | exact Nat.le_refl _ | (exfalso; simp at hb; done) | (simp only [go_sem, decide_true, decide_false, Int.reduceToNat, Nat.min_eq_left, Nat.min_eq_right, Int.reducePow, Nat.reducePow, Int.reduceLE, Int.reduceLT, Int.reduceMul, Int.reduceAdd, Int.reduceSub, Int.reduceNeg, Bool.not_true, Bool.not_false, Bool.not_not, ↓reduceIte, Nat.reduceAdd, Nat.reduceSub, Nat.reduceMul, Nat.reduceEqDiff, reduceCtorEq, Nat.reduceLT, Nat.reduceLeDiff, Nat.reduceGT]; done) | (unfold capM; omega) | (simp only [List.length_drop, List.length_take, List.length_append, List.length_cons, List.length_nil]; omega) | skip)
  · exact ⟨_, rfl⟩
  · subst hb
    (focus (refine ⟨_, _, Gh.refl, [], rfl, ?_⟩; (refine ⟨?_, ?_, ?_⟩ <;> simp only [go_sem, List.range, List.range.loop, List.nodup_cons, List.nodup_nil, List.mem_cons, List.not_mem_nil, or_false, or_self, decide_true, decide_false, Int.reduceToNat, Nat.min_eq_left, Nat.min_eq_right, Int.reducePow, Nat.reducePow, Int.reduceLE, Int.reduceLT, Int.reduceMul, Int.reduceAdd, Int.reduceSub, Int.reduceNeg, Bool.not_true, Bool.not_false, Bool.not_not, ↓reduceIte, Nat.reduceAdd, Nat.reduceSub, Nat.reduceMul, Nat.reduceEqDiff, reduceCtorEq, Nat.reduceLT, Nat.reduceLeDiff, Nat.reduceGT]); (try any_goals (refine ⟨?_, ?_⟩)); (try any_goals (with_reducible rfl))))
  · refine end_ro rfl rfl rfl ?_
    simp only [go_sem, decide_true, decide_false, Int.reduceToNat, Nat.min_eq_left, Nat.min_eq_right, Int.reducePow, Nat.reducePow, Int.reduceLE, Int.reduceLT, Int.reduceMul, Int.reduceAdd, Int.reduceSub, Int.reduceNeg, Bool.not_true, Bool.not_false, Bool.not_not, ↓reduceIte, Nat.reduceAdd, Nat.reduceSub, Nat.reduceMul, Nat.reduceEqDiff, reduceCtorEq, Nat.reduceLT, Nat.reduceLeDiff, Nat.reduceGT]
theorem c_cloneI {h : List Ch} {K : KT} {xs : List Int} {a : AV} (H : K (.ro .int xs) h) (q1 : isRO .int xs a) (s1 : xs.length ≤ 1099511627776) : Does Try.prog 74 [a] h K :=
  frame_pure (b_cloneI xs s1) (br_cons q1.br br_nil) (.inl (by rw [brTL, q1.brT]; rfl)) (fun _ => rfl) H
abbrev i_cloneI := Ctr.mk (i := 0) (g := 74) @c_cloneI
attribute [instance] i_cloneI
theorem b_cloneB (xs : List UInt8) (hs : xs.length ≤ 1099511627776) : DoesK Try.prog 0 75 [.ro .byte xs] [] (EndF 0 (.ro .byte xs) []) := by
  refine DoesK.close ?_
  refine w_body (rs := [.tmp 2]) (tm := [.ro .byte xs, .any, .any, .any, .any, .any, .any, .any]) fn_75 rfl rfl rfl rfl fun R hR => ?_
  (all_goals (try ((first | (with_reducible refine wp_id ?_) | (with_reducible refine does_id ?_) | (with_reducible refine ops_id ?_)); refine walk ?_; (repeat' (first | exact trivial | with_reducible refine And.intro ?_ ?_)); all_goals (repeat (first | (with_reducible refine ImpB.mk fun hb => ?_) | (with_reducible refine ImpK.mk fun hK => ?_) | (with_reducible refine ImpF.mk fun hF => ?_) | (with_reducible refine ImpQ.mk fun hp => ?_) | (with_reducible refine AllE.mk fun p => ?_) | (with_reducible refine AllR.mk fun rest => ?_) | (with_reducible refine AllK.mk fun K => ?_))))); repeat' (with_reducible refine And.intro ?_ ?_))
  (all_goals first | exact Int.natCast_nonneg _ | exact Int.ofNat_lt.2 (by assumption) | assumption | omega | exact Nat.le_refl _ | (exfalso; simp at hb; done) | (simp only [go_sem, decide_true, decide_false, Int.reduceToNat, Nat.min_eq_left, Nat.min_eq_right, Int.reducePow, Nat.reducePow, Int.reduceLE, Int.reduceLT, Int.reduceMul, Int.reduceAdd, Int.reduceSub, Int.reduceNeg, Bool.not_true, Bool.not_false, Bool.not_not, ↓reduceIte, Nat.reduceAdd, Nat.reduceSub, Nat.reduceMul, Nat.reduceEqDiff, reduceCtorEq, Nat.reduceLT, Nat.reduceLeDiff, Nat.reduceGT]; done) | (unfold capM; omega) | (simp only [List.length_drop, List.length_take, List.length_append, List.length_cons, List.length_nil]; omega) | skip)
  · exact ⟨_, rfl⟩
  · subst hb
    (focus (refine ⟨_, _, Gh.refl, [], rfl, ?_⟩; (refine ⟨?_, ?_, ?_⟩ <;> simp only [go_sem, List.range, List.range.loop, List.nodup_cons, List.nodup_nil, List.mem_cons, List.not_mem_nil, or_false, or_self, decide_true, decide_false, Int.reduceToNat, Nat.min_eq_left, Nat.min_eq_right, Int.reducePow, Nat.reducePow, Int.reduceLE, Int.reduceLT, Int.reduceMul, Int.reduceAdd, Int.reduceSub, Int.reduceNeg, Bool.not_true, Bool.not_false, Bool.not_not, ↓reduceIte, Nat.reduceAdd, Nat.reduceSub, Nat.reduceMul, Nat.reduceEqDiff, reduceCtorEq, Nat.reduceLT, Nat.reduceLeDiff, Nat.reduceGT]); (try any_goals (refine ⟨?_, ?_⟩)); (try any_goals (with_reducible rfl))))
  · refine end_ro rfl rfl rfl ?_
    simp only [go_sem, decide_true, decide_false, Int.reduceToNat, Nat.min_eq_left, Nat.min_eq_right, Int.reducePow, Nat.reducePow, Int.reduceLE, Int.reduceLT, Int.reduceMul, Int.reduceAdd, Int.reduceSub, Int.reduceNeg, Bool.not_true, Bool.not_false, Bool.not_not, ↓reduceIte, Nat.reduceAdd, Nat.reduceSub, Nat.reduceMul, Nat.reduceEqDiff, reduceCtorEq, Nat.reduceLT, Nat.reduceLeDiff, Nat.reduceGT]
theorem c_cloneB {h : List Ch} {K : KT} {xs : List UInt8} {a : AV} (H : K (.ro .byte xs) h) (q1 : isRO .byte xs a) (s1 : xs.length ≤ 1099511627776) : Does Try.prog 75 [a] h K :=
  frame_pure (b_cloneB xs s1) (br_cons q1.br br_nil) (.inl (by rw [brTL, q1.brT]; rfl)) (fun _ => rfl) H
abbrev i_cloneB := Ctr.mk (i := 0) (g := 75) @c_cloneB
attribute [instance] i_cloneB
abbrev cmdL (c : Cmd) : List AV := [.int .i64 c.src, .int .i64 c.num, .int .i64 c.srv, .ro .int c.args, .ro .byte c.data]
theorem b_sclone (c : Cmd) (h1 : c.args.length ≤ 1099511627776) (h2 : c.data.length ≤ 1099511627776) : DoesK Try.prog 0 37 [.agg (cmdL c)] [] (EndF 0 (.agg (cmdL c)) []) := by
  refine DoesK.close ?_
  refine w_body (rs := [.cell 2 36]) (tm := [.agg (cmdL c), .any, .any, .any, .any, .any, .any, .any, .any, .any, .any, .any]) fn_37 rfl rfl rfl rfl fun R hR => ?_
  (all_goals (try ((first | (with_reducible refine wp_id ?_) | (with_reducible refine does_id ?_) | (with_reducible refine ops_id ?_)); refine walk ?_; (repeat' (first | exact trivial | with_reducible refine And.intro ?_ ?_)); all_goals (repeat (first | (with_reducible refine ImpB.mk fun hb => ?_) | (with_reducible refine ImpK.mk fun hK => ?_) | (with_reducible refine ImpF.mk fun hF => ?_) | (with_reducible refine ImpQ.mk fun hp => ?_) | (with_reducible refine AllE.mk fun p => ?_) | (with_reducible refine AllR.mk fun rest => ?_) | (with_reducible refine AllK.mk fun K => ?_))))); repeat' (with_reducible refine And.intro ?_ ?_))
  (all_goals first | exact Int.natCast_nonneg _ | exact Int.ofNat_lt.2 (by assumption) | assumption | omega | exact Nat.le_refl _ | (exfalso; simp at hb; done) | (simp only [go_sem, decide_true, decide_false, Int.reduceToNat, Nat.min_eq_left, Nat.min_eq_right, Int.reducePow, Nat.reducePow, Int.reduceLE, Int.reduceLT, Int.reduceMul, Int.reduceAdd, Int.reduceSub, Int.reduceNeg, Bool.not_true, Bool.not_false, Bool.not_not, ↓reduceIte, Nat.reduceAdd, Nat.reduceSub, Nat.reduceMul, Nat.reduceEqDiff, reduceCtorEq, Nat.reduceLT, Nat.reduceLeDiff, Nat.reduceGT]; done) | (unfold capM; omega) | (simp only [List.length_drop, List.length_take, List.length_append, List.length_cons, List.length_nil]; omega) | skip)
  (focus (refine ⟨_, _, Gh.refl, [], rfl, ?_⟩; (refine ⟨?_, ?_, ?_⟩ <;> simp only [go_sem, List.range, List.range.loop, List.nodup_cons, List.nodup_nil, List.mem_cons, List.not_mem_nil, or_false, or_self, decide_true, decide_false, Int.reduceToNat, Nat.min_eq_left, Nat.min_eq_right, Int.reducePow, Nat.reducePow, Int.reduceLE, Int.reduceLT, Int.reduceMul, Int.reduceAdd, Int.reduceSub, Int.reduceNeg, Bool.not_true, Bool.not_false, Bool.not_not, ↓reduceIte, Nat.reduceAdd, Nat.reduceSub, Nat.reduceMul, Nat.reduceEqDiff, reduceCtorEq, Nat.reduceLT, Nat.reduceLeDiff, Nat.reduceGT]); (try any_goals (refine ⟨?_, ?_⟩)); (try any_goals (with_reducible rfl))))
theorem c_sclone {h : List Ch} {K : KT} {c : Cmd} (H : K (.agg [.int .i64 c.src, .int .i64 c.num, .int .i64 c.srv, .ro .int c.args, .ro .byte c.data]) h) (s1 : c.args.length ≤ 1099511627776) (s2 : c.data.length ≤ 1099511627776) : Does Try.prog 37 [.agg [.int .i64 c.src, .int .i64 c.num, .int .i64 c.srv, .ro .int c.args, .ro .byte c.data]] h K :=
  frame_pure (b_sclone c s1 s2) (br_cons (br_agg (br_cons br_int (br_cons br_int (br_cons br_int (br_cons br_ro (br_cons br_ro br_nil)))))) br_nil) (.inl rfl) (fun _ => rfl) H
/-! ### The order -/
abbrev i_sclone := Ctr.mk (i := 0) (g := 37) @c_sclone
attribute [instance] i_sclone
def cmpI (x y : Int) : Int := if x < y then -1 else if y < x then 1 else 0
theorem b_isNaN (x : Int) : DoesK Try.prog 0 111 [.int .i64 x] [] (EndF 0 (.bool false) []) := by
  refine DoesK.close ?_
  refine w_body (rs := [.tmp 2]) (tm := [.int .i64 x, .any, .any, .any, .any, .any]) fn_111 rfl rfl rfl rfl fun R hR => ?_
  (all_goals (try ((first | (with_reducible refine wp_id ?_) | (with_reducible refine does_id ?_) | (with_reducible refine ops_id ?_)); refine walk ?_; (repeat' (first | exact trivial | with_reducible refine And.intro ?_ ?_)); all_goals (repeat (first | (with_reducible refine ImpB.mk fun hb => ?_) | (with_reducible refine ImpK.mk fun hK => ?_) | (with_reducible refine ImpF.mk fun hF => ?_) | (with_reducible refine ImpQ.mk fun hp => ?_) | (with_reducible refine AllE.mk fun p => ?_) | (with_reducible refine AllR.mk fun rest => ?_) | (with_reducible refine AllK.mk fun K => ?_))))); repeat' (with_reducible refine And.intro ?_ ?_))
  (all_goals first | exact Int.natCast_nonneg _ | exact Int.ofNat_lt.2 (by assumption) | assumption | omega | exact Nat.le_refl _ | (exfalso; simp at hb; done) | (simp only [go_sem, decide_true, decide_false, Int.reduceToNat, Nat.min_eq_left, Nat.min_eq_right, Int.reducePow, Nat.reducePow, Int.reduceLE, Int.reduceLT, Int.reduceMul, Int.reduceAdd, Int.reduceSub, Int.reduceNeg, Bool.not_true, Bool.not_false, Bool.not_not, ↓reduceIte, Nat.reduceAdd, Nat.reduceSub, Nat.reduceMul, Nat.reduceEqDiff, reduceCtorEq, Nat.reduceLT, Nat.reduceLeDiff, Nat.reduceGT]; done) | (unfold capM; omega) | (simp only [List.length_drop, List.length_take, List.length_append, List.length_cons, List.length_nil]; omega) | skip)
  (focus (refine ⟨_, _, Gh.refl, [], rfl, ?_⟩; (refine ⟨?_, ?_, ?_⟩ <;> simp only [go_sem, List.range, List.range.loop, List.nodup_cons, List.nodup_nil, List.mem_cons, List.not_mem_nil, or_false, or_self, decide_true, decide_false, Int.reduceToNat, Nat.min_eq_left, Nat.min_eq_right, Int.reducePow, Nat.reducePow, Int.reduceLE, Int.reduceLT, Int.reduceMul, Int.reduceAdd, Int.reduceSub, Int.reduceNeg, Bool.not_true, Bool.not_false, Bool.not_not, ↓reduceIte, Nat.reduceAdd, Nat.reduceSub, Nat.reduceMul, Nat.reduceEqDiff, reduceCtorEq, Nat.reduceLT, Nat.reduceLeDiff, Nat.reduceGT]); (try any_goals (refine ⟨?_, ?_⟩)); (try any_goals (with_reducible rfl))))
theorem c_isNaN {h : List Ch} {K : KT} {x : Int} (H : K (.bool false) h) : Does Try.prog 111 [.int .i64 x] h K :=
  frame_pure (b_isNaN x) (br_cons br_int br_nil) (.inl rfl) (fun _ => rfl) H
abbrev i_isNaN := Ctr.mk (i := 0) (g := 111) @c_isNaN
attribute [instance] i_isNaN
theorem b_cmpI (x y : Int) : DoesK Try.prog 0 100 [.int .i64 x, .int .i64 y] [] (EndF 0 (.int .i64 (cmpI x y)) []) := by
  refine DoesK.close ?_
  by_cases c1 : x < y
  · have d1 : decide (x < y) = true := decide_eq_true c1
    have e1 : cmpI x y = -1 := if_pos c1
    rw [e1]
    refine w_body (rs := [.tmp 4]) (tm := [.int .i64 x, .int .i64 y, .any, .any, .any, .any, .any, .any, .any, .any, .any, .any, .any, .any, .any, .any, .any, .any, .any, .any]) fn_100 rfl rfl rfl rfl fun R hR => ?_
    (have zx1 := @d1; all_goals (try ((first | (with_reducible refine wp_id ?_) | (with_reducible refine does_id ?_) | (with_reducible refine ops_id ?_)); refine walk ?_; (repeat' (first | exact trivial | with_reducible refine And.intro ?_ ?_)); all_goals (repeat (first | (with_reducible refine ImpB.mk fun hb => ?_) | (with_reducible refine ImpK.mk fun hK => ?_) | (with_reducible refine ImpF.mk fun hF => ?_) | (with_reducible refine ImpQ.mk fun hp => ?_) | (with_reducible refine AllE.mk fun p => ?_) | (with_reducible refine AllR.mk fun rest => ?_) | (with_reducible refine AllK.mk fun K => ?_))))); repeat' (with_reducible refine And.intro ?_ ?_))
    (focus (refine ⟨_, _, Gh.refl, [], rfl, ?_⟩; (refine ⟨?_, ?_, ?_⟩ <;> simp only [go_sem, List.range, List.range.loop, List.nodup_cons, List.nodup_nil, List.mem_cons, List.not_mem_nil, or_false, or_self, decide_true, decide_false, Int.reduceToNat, Nat.min_eq_left, Nat.min_eq_right, Int.reducePow, Nat.reducePow, Int.reduceLE, Int.reduceLT, Int.reduceMul, Int.reduceAdd, Int.reduceSub, Int.reduceNeg, Bool.not_true, Bool.not_false, Bool.not_not, ↓reduceIte, Nat.reduceAdd, Nat.reduceSub, Nat.reduceMul, Nat.reduceEqDiff, reduceCtorEq, Nat.reduceLT, Nat.reduceLeDiff, Nat.reduceGT]); (try any_goals (refine ⟨?_, ?_⟩)); (try any_goals (with_reducible rfl))))
  · have d1 : decide (x < y) = false := decide_eq_false c1
    by_cases c2 : y < x
    · have d2 : decide (y < x) = true := decide_eq_true c2
      have e1 : cmpI x y = 1 := by unfold cmpI; rw [if_neg c1, if_pos c2]
      rw [e1]
      refine w_body (rs := [.tmp 4]) (tm := [.int .i64 x, .int .i64 y, .any, .any, .any, .any, .any, .any, .any, .any, .any, .any, .any, .any, .any, .any, .any, .any, .any, .any]) fn_100 rfl rfl rfl rfl fun R hR => ?_
      (have zx1 := @d1; have zx2 := @d2; all_goals (try ((first | (with_reducible refine wp_id ?_) | (with_reducible refine does_id ?_) | (with_reducible refine ops_id ?_)); refine walk ?_; (repeat' (first | exact trivial | with_reducible refine And.intro ?_ ?_)); all_goals (repeat (first | (with_reducible refine ImpB.mk fun hb => ?_) | (with_reducible refine ImpK.mk fun hK => ?_) | (with_reducible refine ImpF.mk fun hF => ?_) | (with_reducible refine ImpQ.mk fun hp => ?_) | (with_reducible refine AllE.mk fun p => ?_) | (with_reducible refine AllR.mk fun rest => ?_) | (with_reducible refine AllK.mk fun K => ?_))))); repeat' (with_reducible refine And.intro ?_ ?_))
      (focus (refine ⟨_, _, Gh.refl, [], rfl, ?_⟩; (refine ⟨?_, ?_, ?_⟩ <;> simp only [go_sem, List.range, List.range.loop, List.nodup_cons, List.nodup_nil, List.mem_cons, List.not_mem_nil, or_false, or_self, decide_true, decide_false, Int.reduceToNat, Nat.min_eq_left, Nat.min_eq_right, Int.reducePow, Nat.reducePow, Int.reduceLE, Int.reduceLT, Int.reduceMul, Int.reduceAdd, Int.reduceSub, Int.reduceNeg, Bool.not_true, Bool.not_false, Bool.not_not, ↓reduceIte, Nat.reduceAdd, Nat.reduceSub, Nat.reduceMul, Nat.reduceEqDiff, reduceCtorEq, Nat.reduceLT, Nat.reduceLeDiff, Nat.reduceGT]); (try any_goals (refine ⟨?_, ?_⟩)); (try any_goals (with_reducible rfl))))
    · have d2 : decide (y < x) = false := decide_eq_false c2
      have e1 : cmpI x y = 0 := by unfold cmpI; rw [if_neg c1, if_neg c2]
      rw [e1]
      refine w_body (rs := [.tmp 4]) (tm := [.int .i64 x, .int .i64 y, .any, .any, .any, .any, .any, .any, .any, .any, .any, .any, .any, .any, .any, .any, .any, .any, .any, .any]) fn_100 rfl rfl rfl rfl fun R hR => ?_
      (have zx1 := @d1; have zx2 := @d2; all_goals (try ((first | (with_reducible refine wp_id ?_) | (with_reducible refine does_id ?_) | (with_reducible refine ops_id ?_)); refine walk ?_; (repeat' (first | exact trivial | with_reducible refine And.intro ?_ ?_)); all_goals (repeat (first | (with_reducible refine ImpB.mk fun hb => ?_) | (with_reducible refine ImpK.mk fun hK => ?_) | (with_reducible refine ImpF.mk fun hF => ?_) | (with_reducible refine ImpQ.mk fun hp => ?_) | (with_reducible refine AllE.mk fun p => ?_) | (with_reducible refine AllR.mk fun rest => ?_) | (with_reducible refine AllK.mk fun K => ?_))))); repeat' (with_reducible refine And.intro ?_ ?_))
      (focus (refine ⟨_, _, Gh.refl, [], rfl, ?_⟩; (refine ⟨?_, ?_, ?_⟩ <;> simp only [go_sem, List.range, List.range.loop, List.nodup_cons, List.nodup_nil, List.mem_cons, List.not_mem_nil, or_false, or_self, decide_true, decide_false, Int.reduceToNat, Nat.min_eq_left, Nat.min_eq_right, Int.reducePow, Nat.reducePow, Int.reduceLE, Int.reduceLT, Int.reduceMul, Int.reduceAdd, Int.reduceSub, Int.reduceNeg, Bool.not_true, Bool.not_false, Bool.not_not, ↓reduceIte, Nat.reduceAdd, Nat.reduceSub, Nat.reduceMul, Nat.reduceEqDiff, reduceCtorEq, Nat.reduceLT, Nat.reduceLeDiff, Nat.reduceGT]); (try any_goals (refine ⟨?_, ?_⟩)); (try any_goals (with_reducible rfl))))
theorem c_cmpI {h : List Ch} {K : KT} {x y : Int} (H : K (.int .i64 (cmpI x y)) h) : Does Try.prog 100 [.int .i64 x, .int .i64 y] h K :=
  frame_pure (b_cmpI x y) (br_cons br_int (br_cons br_int br_nil)) (.inl rfl) (fun _ => rfl) H
abbrev i_cmpI := Ctr.mk (i := 0) (g := 100) @c_cmpI
attribute [instance] i_cmpI
def orI : List Int → Int
  | [] => 0
  | x :: l => if x = 0 then orI l else x
theorem orI_none {l : List Int} (h : ∀ i, i < l.length → l.getD i 0 = 0) : orI l = 0 := by
  induction l with
  | nil => rfl
  | cons x l ih =>
    have h0 : x = 0 := h 0 (by simp)
    unfold orI
    rw [if_pos h0]
    exact ih fun i hi => h (i + 1) (by simpa using hi)
theorem orI_at {l : List Int} {k : Nat} (hk : k < l.length) (h : ∀ i, i < k → l.getD i 0 = 0) (h1 : ¬ l.getD k 0 = 0) : orI l = l.getD k 0 := by
  induction l generalizing k with
  | nil => simp at hk
  | cons x l ih =>
    cases k with
    | zero =>
      have h0 : ¬ x = 0 := h1
      unfold orI
      rw [if_neg h0]
      rfl
    | succ k =>
      have h0 : x = 0 := h 0 (by omega)
      unfold orI
      rw [if_pos h0, ih (k := k) (by simpa using hk) (fun i hi => h (i + 1) (by omega)) h1]
      rfl
theorem b_orI (l : List Int) (hl : l.length ≤ 1099511627776) : DoesK Try.prog 0 99 [.ro .int l] [] (EndF 0 (.int .i64 (orI l)) []) := by
  refine DoesK.close ?_
  refine w_body (rs := [.tmp 2]) (tm := [.ro .int l, .any, .any, .any, .any, .any, .any, .any, .any, .any, .any, .any, .any, .any, .any, .any, .any, .any]) fn_99 rfl rfl rfl rfl fun R hR => ?_
  (all_goals (try ((first | (with_reducible refine wp_id ?_) | (with_reducible refine does_id ?_) | (with_reducible refine ops_id ?_)); refine walk ?_; (repeat' (first | exact trivial | with_reducible refine And.intro ?_ ?_)); all_goals (repeat (first | (with_reducible refine ImpB.mk fun hb => ?_) | (with_reducible refine ImpK.mk fun hK => ?_) | (with_reducible refine ImpF.mk fun hF => ?_) | (with_reducible refine ImpQ.mk fun hp => ?_) | (with_reducible refine AllE.mk fun p => ?_) | (with_reducible refine AllR.mk fun rest => ?_) | (with_reducible refine AllK.mk fun K => ?_))))); repeat' (with_reducible refine And.intro ?_ ?_))
  any_goals ((try (refine w_seq fun K hK => ?_)); (try (refine w_block ?_)); refine w_loop (A := Nat) (fun k => k ≤ l.length ∧ ∀ i, i < k → l.getD i 0 = 0) (fun k => l.length - k) (fun k => [(8, .int .i64 k)]) (fun _ => []) (0) (ws := ?ws1) (tk := ?tk1) ?hw1 ?ht1 ?hi ?h0 ?LH1; (case hw1 => simp only [go_sem, decide_true, decide_false, Int.reduceToNat, Nat.min_eq_left, Nat.min_eq_right, Int.reducePow, Nat.reducePow, Int.reduceLE, Int.reduceLT, Int.reduceMul, Int.reduceAdd, Int.reduceSub, Int.reduceNeg, Bool.not_true, Bool.not_false, Bool.not_not, ↓reduceIte, Nat.reduceAdd, Nat.reduceSub, Nat.reduceMul, Nat.reduceEqDiff, reduceCtorEq, Nat.reduceLT, Nat.reduceLeDiff, Nat.reduceGT]; exact rfl); (case ht1 => simp only [go_sem, decide_true, decide_false, Int.reduceToNat, Nat.min_eq_left, Nat.min_eq_right, Int.reducePow, Nat.reducePow, Int.reduceLE, Int.reduceLT, Int.reduceMul, Int.reduceAdd, Int.reduceSub, Int.reduceNeg, Bool.not_true, Bool.not_false, Bool.not_not, ↓reduceIte, Nat.reduceAdd, Nat.reduceSub, Nat.reduceMul, Nat.reduceEqDiff, reduceCtorEq, Nat.reduceLT, Nat.reduceLeDiff, Nat.reduceGT]; exact rfl); (case' LH1 => rintro k E t hx hE ht; simp only [go_sem] at ht; subst ht; simp only [go_sem]; try dsimp only at hx))
  case hi => exact ⟨Nat.zero_le _, fun i hi => absurd hi (by omega)⟩
  case h0 => (focus (refine ⟨_, _, Gh.refl, [], rfl, ?_⟩; (refine ⟨?_, ?_, ?_⟩ <;> simp only [go_sem, List.range, List.range.loop, List.nodup_cons, List.nodup_nil, List.mem_cons, List.not_mem_nil, or_false, or_self, decide_true, decide_false, Int.reduceToNat, Nat.min_eq_left, Nat.min_eq_right, Int.reducePow, Nat.reducePow, Int.reduceLE, Int.reduceLT, Int.reduceMul, Int.reduceAdd, Int.reduceSub, Int.reduceNeg, Bool.not_true, Bool.not_false, Bool.not_not, ↓reduceIte, Nat.reduceAdd, Nat.reduceSub, Nat.reduceMul, Nat.reduceEqDiff, reduceCtorEq, Nat.reduceLT, Nat.reduceLeDiff, Nat.reduceGT]); (try any_goals (refine ⟨?_, ?_⟩)); (try any_goals (with_reducible rfl))))
  case LH1 =>
    have hw : IntKind.i64.wrap ((k : Int) + 1) = ((k + 1 : Nat) : Int) := by rw [wrap_i64 _ (by omega) (by omega)]; omega
    by_cases hk : k < l.length
    · have hkd : decide ((k : Int) < l.length) = true := decide_eq_true (by omega)
      by_cases c1 : l.getD k 0 = 0
      · have d1 : decide (¬ l.getD k 0 = 0) = false := decide_eq_false (fun q => q c1)
        (have zx1 := @hkd; have zx2 := @d1; all_goals (try ((first | (with_reducible refine wp_id ?_) | (with_reducible refine does_id ?_) | (with_reducible refine ops_id ?_)); refine walk ?_; (repeat' (first | exact trivial | with_reducible refine And.intro ?_ ?_)); all_goals (repeat (first | (with_reducible refine ImpB.mk fun hb => ?_) | (with_reducible refine ImpK.mk fun hK => ?_) | (with_reducible refine ImpF.mk fun hF => ?_) | (with_reducible refine ImpQ.mk fun hp => ?_) | (with_reducible refine AllE.mk fun p => ?_) | (with_reducible refine AllR.mk fun rest => ?_) | (with_reducible refine AllK.mk fun K => ?_))))); repeat' (with_reducible refine And.intro ?_ ?_))
        (all_goals first | exact Int.natCast_nonneg _ | exact Int.ofNat_lt.2 (by assumption) | assumption | omega | exact Nat.le_refl _ | (exfalso; simp at hb; done) | (simp only [go_sem, decide_true, decide_false, Int.reduceToNat, Nat.min_eq_left, Nat.min_eq_right, Int.reducePow, Nat.reducePow, Int.reduceLE, Int.reduceLT, Int.reduceMul, Int.reduceAdd, Int.reduceSub, Int.reduceNeg, Bool.not_true, Bool.not_false, Bool.not_not, ↓reduceIte, Nat.reduceAdd, Nat.reduceSub, Nat.reduceMul, Nat.reduceEqDiff, reduceCtorEq, Nat.reduceLT, Nat.reduceLeDiff, Nat.reduceGT]; done) | (unfold capM; omega) | (simp only [List.length_drop, List.length_take, List.length_append, List.length_cons, List.length_nil]; omega) | skip)
        refine ⟨k + 1, ⟨⟨by first | omega | (dsimp only; omega), fun i hi => ?_⟩, by first | omega | (dsimp only; omega)⟩, ?_⟩
        · by_cases e : i = k
          · rw [e]; exact c1
          · exact hx.2 i (by omega)
        (focus (refine ⟨_, _, Gh.refl, [], rfl, ?_⟩; (refine ⟨?_, ?_, ?_⟩ <;> simp only [go_sem, List.range, List.range.loop, List.nodup_cons, List.nodup_nil, List.mem_cons, List.not_mem_nil, or_false, or_self, decide_true, decide_false, Int.reduceToNat, Nat.min_eq_left, Nat.min_eq_right, Int.reducePow, Nat.reducePow, Int.reduceLE, Int.reduceLT, Int.reduceMul, Int.reduceAdd, Int.reduceSub, Int.reduceNeg, Bool.not_true, Bool.not_false, Bool.not_not, ↓reduceIte, Nat.reduceAdd, Nat.reduceSub, Nat.reduceMul, Nat.reduceEqDiff, reduceCtorEq, Nat.reduceLT, Nat.reduceLeDiff, Nat.reduceGT]); (try any_goals (refine ⟨?_, ?_⟩)); (try any_goals (with_reducible rfl))))
        exact hw.symm
      · have d1 : decide (¬ l.getD k 0 = 0) = true := decide_eq_true c1
        (have zx1 := @hkd; have zx2 := @d1; all_goals (try ((first | (with_reducible refine wp_id ?_) | (with_reducible refine does_id ?_) | (with_reducible refine ops_id ?_)); refine walk ?_; (repeat' (first | exact trivial | with_reducible refine And.intro ?_ ?_)); all_goals (repeat (first | (with_reducible refine ImpB.mk fun hb => ?_) | (with_reducible refine ImpK.mk fun hK => ?_) | (with_reducible refine ImpF.mk fun hF => ?_) | (with_reducible refine ImpQ.mk fun hp => ?_) | (with_reducible refine AllE.mk fun p => ?_) | (with_reducible refine AllR.mk fun rest => ?_) | (with_reducible refine AllK.mk fun K => ?_))))); repeat' (with_reducible refine And.intro ?_ ?_))
        (all_goals first | exact Int.natCast_nonneg _ | exact Int.ofNat_lt.2 (by assumption) | assumption | omega | exact Nat.le_refl _ | (exfalso; simp at hb; done) | (simp only [go_sem, decide_true, decide_false, Int.reduceToNat, Nat.min_eq_left, Nat.min_eq_right, Int.reducePow, Nat.reducePow, Int.reduceLE, Int.reduceLT, Int.reduceMul, Int.reduceAdd, Int.reduceSub, Int.reduceNeg, Bool.not_true, Bool.not_false, Bool.not_not, ↓reduceIte, Nat.reduceAdd, Nat.reduceSub, Nat.reduceMul, Nat.reduceEqDiff, reduceCtorEq, Nat.reduceLT, Nat.reduceLeDiff, Nat.reduceGT]; done) | (unfold capM; omega) | (simp only [List.length_drop, List.length_take, List.length_append, List.length_cons, List.length_nil]; omega) | skip)
        rw [orI_at hk hx.2 c1]
        (focus (refine ⟨_, _, Gh.refl, [], rfl, ?_⟩; (refine ⟨?_, ?_, ?_⟩ <;> simp only [go_sem, List.range, List.range.loop, List.nodup_cons, List.nodup_nil, List.mem_cons, List.not_mem_nil, or_false, or_self, decide_true, decide_false, Int.reduceToNat, Nat.min_eq_left, Nat.min_eq_right, Int.reducePow, Nat.reducePow, Int.reduceLE, Int.reduceLT, Int.reduceMul, Int.reduceAdd, Int.reduceSub, Int.reduceNeg, Bool.not_true, Bool.not_false, Bool.not_not, ↓reduceIte, Nat.reduceAdd, Nat.reduceSub, Nat.reduceMul, Nat.reduceEqDiff, reduceCtorEq, Nat.reduceLT, Nat.reduceLeDiff, Nat.reduceGT]); (try any_goals (refine ⟨?_, ?_⟩)); (try any_goals (with_reducible rfl))))
    · have hkd : decide ((k : Int) < l.length) = false := decide_eq_false (by omega)
      (have zx1 := @hkd; all_goals (try ((first | (with_reducible refine wp_id ?_) | (with_reducible refine does_id ?_) | (with_reducible refine ops_id ?_)); refine walk ?_; (repeat' (first | exact trivial | with_reducible refine And.intro ?_ ?_)); all_goals (repeat (first | (with_reducible refine ImpB.mk fun hb => ?_) | (with_reducible refine ImpK.mk fun hK => ?_) | (with_reducible refine ImpF.mk fun hF => ?_) | (with_reducible refine ImpQ.mk fun hp => ?_) | (with_reducible refine AllE.mk fun p => ?_) | (with_reducible refine AllR.mk fun rest => ?_) | (with_reducible refine AllK.mk fun K => ?_))))); repeat' (with_reducible refine And.intro ?_ ?_))
      rw [orI_none fun i hi => hx.2 i (by omega)]
      (focus (refine ⟨_, _, Gh.refl, [], rfl, ?_⟩; (refine ⟨?_, ?_, ?_⟩ <;> simp only [go_sem, List.range, List.range.loop, List.nodup_cons, List.nodup_nil, List.mem_cons, List.not_mem_nil, or_false, or_self, decide_true, decide_false, Int.reduceToNat, Nat.min_eq_left, Nat.min_eq_right, Int.reducePow, Nat.reducePow, Int.reduceLE, Int.reduceLT, Int.reduceMul, Int.reduceAdd, Int.reduceSub, Int.reduceNeg, Bool.not_true, Bool.not_false, Bool.not_not, ↓reduceIte, Nat.reduceAdd, Nat.reduceSub, Nat.reduceMul, Nat.reduceEqDiff, reduceCtorEq, Nat.reduceLT, Nat.reduceLeDiff, Nat.reduceGT]); (try any_goals (refine ⟨?_, ?_⟩)); (try any_goals (with_reducible rfl))))
theorem c_orI {h : List Ch} {K : KT} {l : List Int} {a : AV} (H : K (.int .i64 (orI l)) h) (b1 : brA [] h (.ro .int l) a) (s1 : l.length ≤ 1099511627776) : Does Try.prog 99 [a] h K :=
  frame_pure (b_orI l s1) (br_cons b1 br_nil) (.inr rfl) (fun _ => rfl) H
abbrev i_orI := Ctr.mk (i := 0) (g := 99) @c_orI
attribute [instance] i_orI
/-- the cells of an entry -/
structure ItC where
  a : Int
  b : Int
  c : Int
  d : Int
  e : Int
  f : Int
  p : Option Addr
  m : Nat
  n : Nat
  q : Option Addr
  u : Nat
  v : Nat
deriving Inhabited
def encC8 (x : ItC) : List Value := [.int .i64 x.a, .int .i64 x.b, .int .i64 x.c, .int .i64 x.d, .int .i64 x.e, .int .i64 x.f, .slice x.p x.m x.n, .slice x.q x.u x.v]
abbrev itA (x : ItC) : List AV := [.int .i64 x.a, .int .i64 x.b, .int .i64 x.c, .int .i64 x.d, .int .i64 x.e, .int .i64 x.f, .lit (.slice x.p x.m x.n), .lit (.slice x.q x.u x.v)]
def againstI (x y : ItC) : Int := orI [cmpI x.b y.b, cmpI x.a y.a]
theorem b_against (x y : ItC) : DoesK Try.prog 0 78 [.agg (itA x), .agg (itA y)] [] (EndF 0 (.int .i64 (againstI x y)) []) := by
  refine DoesK.close ?_
  refine w_body (rs := [.tmp 4]) (tm := [.agg (itA x), .agg (itA y), .any, .any, .any, .any, .any, .any, .any, .any, .any, .any, .any, .any, .any, .any, .any]) fn_78 rfl rfl rfl rfl fun R hR => ?_
  (all_goals (try ((first | (with_reducible refine wp_id ?_) | (with_reducible refine does_id ?_) | (with_reducible refine ops_id ?_)); refine walk ?_; (repeat' (first | exact trivial | with_reducible refine And.intro ?_ ?_)); all_goals (repeat (first | (with_reducible refine ImpB.mk fun hb => ?_) | (with_reducible refine ImpK.mk fun hK => ?_) | (with_reducible refine ImpF.mk fun hF => ?_) | (with_reducible refine ImpQ.mk fun hp => ?_) | (with_reducible refine AllE.mk fun p => ?_) | (with_reducible refine AllR.mk fun rest => ?_) | (with_reducible refine AllK.mk fun K => ?_))))); repeat' (with_reducible refine And.intro ?_ ?_))
  (all_goals first | exact Int.natCast_nonneg _ | exact Int.ofNat_lt.2 (by assumption) | assumption | omega | exact Nat.le_refl _ | (exfalso; simp at hb; done) | (simp only [go_sem, decide_true, decide_false, Int.reduceToNat, Nat.min_eq_left, Nat.min_eq_right, Int.reducePow, Nat.reducePow, Int.reduceLE, Int.reduceLT, Int.reduceMul, Int.reduceAdd, Int.reduceSub, Int.reduceNeg, Bool.not_true, Bool.not_false, Bool.not_not, ↓reduceIte, Nat.reduceAdd, Nat.reduceSub, Nat.reduceMul, Nat.reduceEqDiff, reduceCtorEq, Nat.reduceLT, Nat.reduceLeDiff, Nat.reduceGT]; done) | (unfold capM; omega) | (simp only [List.length_drop, List.length_take, List.length_append, List.length_cons, List.length_nil]; omega) | skip)
  (focus (refine ⟨_, _, Gh.refl, [], rfl, ?_⟩; (refine ⟨?_, ?_, ?_⟩ <;> simp only [go_sem, List.range, List.range.loop, List.nodup_cons, List.nodup_nil, List.mem_cons, List.not_mem_nil, or_false, or_self, decide_true, decide_false, Int.reduceToNat, Nat.min_eq_left, Nat.min_eq_right, Int.reducePow, Nat.reducePow, Int.reduceLE, Int.reduceLT, Int.reduceMul, Int.reduceAdd, Int.reduceSub, Int.reduceNeg, Bool.not_true, Bool.not_false, Bool.not_not, ↓reduceIte, Nat.reduceAdd, Nat.reduceSub, Nat.reduceMul, Nat.reduceEqDiff, reduceCtorEq, Nat.reduceLT, Nat.reduceLeDiff, Nat.reduceGT]); (try any_goals (refine ⟨?_, ?_⟩)); (try any_goals (with_reducible rfl))))
  all_goals rfl
theorem does_against (x y : ItC) : Does Try.prog 78 [.agg (itA x), .agg (itA y)] [] fun a _ => a = .int .i64 (againstI x y) :=
  frame_pure (b_against x y) (br_cons (br_agg (br_cons br_int (br_cons br_int (br_cons br_int (br_cons br_int (br_cons br_int (br_cons br_int (br_cons br_lit (br_cons br_lit br_nil))))))))) (br_cons (br_agg (br_cons br_int (br_cons br_int (br_cons br_int (br_cons br_int (br_cons br_int (br_cons br_int (br_cons br_lit (br_cons br_lit br_nil))))))))) br_nil)) (.inl rfl) (fun _ => rfl) rfl
theorem cmpLays8 (blk off size : Nat) (w : World) : CmpLays Try.prog 78 #[] encC8 8 againstI blk off size w :=
  fun m os dk _ x y => does_grow (does_against x y) (.cons (.agg (.cons .int (.cons .int (.cons .int (.cons .int (.cons .int (.cons .int (.cons .lit (.cons .lit .nil))))))))) (.cons (.agg (.cons .int (.cons .int (.cons .int (.cons .int (.cons .int (.cons .int (.cons .lit (.cons .lit .nil))))))))) .nil))
/-- executed before -/
def befE (x y : Ent) : Bool := decide (x.time < y.time ∨ (x.time = y.time ∧ x.id < y.id))
theorem ltAg (x y : ItC) : ltOf againstI x y = decide (x.b < y.b ∨ (x.b = y.b ∧ x.a < y.a)) := by
  unfold ltOf againstI orI orI orI cmpI
  apply decide_eq_decide.2
  repeat' split
  all_goals omega
theorem swoAg : SWO (ltOf againstI) where
  irrefl x := by rw [ltAg]; simp
  trans x y z h1 h2 := by rw [ltAg] at *; simp only [decide_eq_true_eq] at *; omega
  ntrans x y z h1 h2 := by rw [ltAg] at *; simp only [decide_eq_false_iff_not] at *; omega
theorem dec8 (R : RO) (x : Ent) (cs : List Value) (h : LRel R [] (Ety.enc .ent x) cs) : ∃ a : ItC, encC8 a = cs := by
  have sl : ∀ {e : Ety} {xs : List e.T} {v : Value}, Rel R [] (.ro e xs) v → ∃ p m n, v = .slice p m n := by
    intro e xs v h
    cases h <;> exact ⟨_, _, _, rfl⟩
  cases h with
  | cons g1 h => cases g1; cases h with
  | cons g2 h => cases g2; cases h with
  | cons g3 h => cases g3; cases h with
  | cons g4 h => cases g4; cases h with
  | cons g5 h => cases g5; cases h with
  | cons g6 h => cases g6; cases h with
  | cons g7 h => cases h with
  | cons g8 h =>
    cases h
    obtain ⟨p, m, n, rfl⟩ := sl g7
    obtain ⟨q, u, v, rfl⟩ := sl g8
    exact ⟨⟨_, _, _, _, _, _, p, m, n, q, u, v⟩, rfl⟩
theorem eq8 {R : RO} {x : Ent} {a : ItC} (h : LRel R [] (Ety.enc .ent x) (encC8 a)) : a.a = x.id ∧ a.b = x.time := by
  obtain ⟨v1, e1, h1⟩ := h.get 0 rfl
  obtain ⟨v2, e2, h2⟩ := h.get 1 rfl
  cases e1; cases e2
  exact ⟨rel_int h1, rel_int h2⟩
theorem sort8_runs (blk off cap : Nat) (d : Array ItC) (w : World) (hH : HoldsK encC8 8 w blk off d) (hblk : blk < w.heap.size) (hsz : d.size < 4611686018427387904) :
    Calls Try.prog 77 #[.slice (some ⟨blk, off, none⟩) d.size cap, .func (.func 78) #[] #[]] w fun e w' => e = .returned (.tuple #[]) ∧ ∃ d' n os, PermIn 0 d.size d d' ∧ SortedIn (ltOf againstI) 0 d.size d' ∧ w' = sortWorldK encC8 8 w blk off n d' os := by
  have eg : ∀ args w, (callFunc 78 args).run Try.prog w = .ok (.enter 78 args) w := enters_of Try.func78 (by kernel_rfl) rfl
  exact AnyQ.slices_SortFunc Try.sortItem 8 Try.isAgg72 Try.sizeOf72 encC8 (fun _ => rfl) (fun x v hv => by simp [encC8] at hv; rcases hv with rfl | rfl | rfl | rfl | rfl | rfl | rfl | rfl <;> rfl) againstI swoAg 78 #[] blk off cap d w eg (cmpLays8 blk off d.size w) hH hblk hsz
theorem c_sortE {h : List Ch} {K : KT} {t : Nat} {xs : List Ent} {n : Nat} (H : ∀ ys : List Ent, ys.Perm xs → (ys.Pairwise fun x y => befE y x = false) → K (.tup []) (h.set t (.rows .ent ys))) (o : hth h t = .rows .ent xs) (s1 : n = xs.length) (s2 : xs.length ≤ 1099511627776) : Does Try.prog 77 [.sl t .ent 0 n, .fn 78 []] h K := -- nocall
  sort_cmpK (e := .ent) ⟨_, fn_77, rfl, rfl⟩ (enc := encC8) (fun _ => rfl) (cf := againstI) (lt := befE) dec8
    (fun R x y a b h1 h2 => by
      rw [ltAg, (eq8 h1).1, (eq8 h1).2, (eq8 h2).1, (eq8 h2).2]
      rfl)
    sort8_runs (fun p cap w => AnyF.slices_SortFunc_none (L := { Try.sortItem with }) p cap _ w) s1 s2 H o
end Go.V

set_option maxRecDepth 100000
set_option maxHeartbeats 4000000
namespace Go.V
open Go.Proofs
abbrev eAt (l : List Ent) (k : Nat) : Ent := l.getD k Ent.zero
theorem eAt_eq {l : List Ent} {i : Nat} (h : i < l.length) : eAt l i = l[i] := by
  unfold eAt
  rw [List.getD_eq_getElem?_getD, List.getElem?_eq_getElem h]
  rfl
/-! ### slices of entries -/
def ixE (p : Ent → Bool) : List Ent → Nat → Int
  | [], _ => -1
  | x :: l, k => if p x then k else ixE p l (k + 1)
theorem ixE_none {p : Ent → Bool} : ∀ {l : List Ent} {k : Nat}, (∀ x ∈ l, p x = false) → ixE p l k = -1
  | [], _, _ => rfl
  | x :: l, k, h => by rw [ixE, h x (by simp)]; exact ixE_none fun y hy => h y (by simp [hy])
theorem ixE_at {p : Ent → Bool} : ∀ {l : List Ent} {j k : Nat}, j < l.length → (∀ i, i < j → p (eAt l i) = false) → p (eAt l j) = true → ixE p l k = ((k + j : Nat) : Int)
  | [], j, _, h, _, _ => by simp at h
  | x :: l, 0, k, _, _, h => by
    have : p x = true := h
    rw [ixE, if_pos this, Nat.add_zero]
  | x :: l, j + 1, k, hl, h0, h => by
    have h1 : p x = false := h0 0 (by omega)
    rw [ixE, h1]
    simp only [Bool.false_eq_true, if_false]
    rw [ixE_at (j := j) (by simpa using hl) (fun i hi => h0 (i + 1) (by omega)) h]
    congr 1; omega
theorem k_indexFuncE {n0 : Nat} {h : List Ch} {K : KT} {xs : List Ent} {f : FuncId} {caps : List AV} (p : Ent → Bool) (hl : xs.length ≤ 9223372036854775806) (hp : ∀ x : Ent, ∀ K' : KT, K' (.bool (p x)) h → Does Try.prog f (.agg [.int .i64 x.id, .int .i64 x.time, .int .i64 x.group, .int .i64 x.c.src, .int .i64 x.c.num, .int .i64 x.c.srv, .ro .int x.c.args, .ro .byte x.c.data] :: caps) h K') (H : K (.int .i64 (ixE p xs 0)) h) : DoesK Try.prog n0 43 [.ro .ent xs, .fn f caps] h K := by
  have inst : Ctr 0 f (∀ {h' : List Ch} {K' : KT} {x : Ent} (_ : h' = h) (_ : K' (.bool (p x)) h), Does Try.prog f (.agg [.int .i64 x.id, .int .i64 x.time, .int .i64 x.group, .int .i64 x.c.src, .int .i64 x.c.num, .int .i64 x.c.srv, .ro .int x.c.args, .ro .byte x.c.data] :: caps) h' K') := Ctr.mk (by rintro h' K' x rfl H; exact hp x K' H)
  refine w_body (rs := [.tmp 4]) (tm := [.ro .ent xs, .fn f caps, .any, .any, .any, .any, .any, .any, .any, .any, .any, .any, .any, .any, .any, .any, .any, .any, .any]) fn_43 rfl rfl rfl rfl fun R hR => ?_
  (all_goals (try ((first | (with_reducible refine wp_id ?_) | (with_reducible refine does_id ?_) | (with_reducible refine ops_id ?_)); refine walk ?_; (repeat' (first | exact trivial | with_reducible refine And.intro ?_ ?_)); all_goals (repeat (first | (with_reducible refine ImpB.mk fun hb => ?_) | (with_reducible refine ImpK.mk fun hK => ?_) | (with_reducible refine ImpF.mk fun hF => ?_) | (with_reducible refine ImpQ.mk fun hp => ?_) | (with_reducible refine AllE.mk fun p => ?_) | (with_reducible refine AllR.mk fun rest => ?_) | (with_reducible refine AllK.mk fun K => ?_))))); repeat' (with_reducible refine And.intro ?_ ?_))
  any_goals ((try (refine w_seq fun K hK => ?_)); (try (refine w_block ?_)); refine w_loopS (A := Nat) (fun k => k ≤ xs.length ∧ ∀ i, i < k → p (eAt xs i) = false) (fun k => xs.length - k) (fun k => [(8, .int .i64 k)]) (0) (ws := ?ws1) (tk := ?tk1) ?hw1 ?ht1 ?hi ?h0 ?LH1; (case hw1 => simp only [go_sem, decide_true, decide_false, Int.reduceToNat, Nat.min_eq_left, Nat.min_eq_right, Int.reducePow, Nat.reducePow, Int.reduceLE, Int.reduceLT, Int.reduceMul, Int.reduceAdd, Int.reduceSub, Int.reduceNeg, Bool.not_true, Bool.not_false, Bool.not_not, ↓reduceIte, Nat.reduceAdd, Nat.reduceSub, Nat.reduceMul, Nat.reduceEqDiff, reduceCtorEq, Nat.reduceLT, Nat.reduceLeDiff, Nat.reduceGT]; exact rfl); (case ht1 => simp only [go_sem, decide_true, decide_false, Int.reduceToNat, Nat.min_eq_left, Nat.min_eq_right, Int.reducePow, Nat.reducePow, Int.reduceLE, Int.reduceLT, Int.reduceMul, Int.reduceAdd, Int.reduceSub, Int.reduceNeg, Bool.not_true, Bool.not_false, Bool.not_not, ↓reduceIte, Nat.reduceAdd, Nat.reduceSub, Nat.reduceMul, Nat.reduceEqDiff, reduceCtorEq, Nat.reduceLT, Nat.reduceLeDiff, Nat.reduceGT]; exact rfl); (case' LH1 => rintro k E t hx hE ht; simp only [go_sem] at ht; subst ht; simp only [go_sem]; try dsimp only at hx))
  case hi => exact ⟨Nat.zero_le _, fun i hi => absurd hi (by omega)⟩
  case h0 => (focus (simp only [go_sem]; (repeat' (first | exact sub_nil | refine sub_cons ?_ ?_)); (any_goals (first | exact .inl rfl | exact .inr rfl)); (try any_goals (refine .inr ?_)); (try any_goals (refine congrArg _ ?_))))
  case LH1 =>
    have hw : IntKind.i64.wrap ((k : Int) + 1) = ((k + 1 : Nat) : Int) := by rw [wrap_i64 _ (by omega) (by omega)]; omega
    by_cases hk : k < xs.length
    · have hkd : decide ((k : Int) < xs.length) = true := decide_eq_true (by omega)
      (have zx1 := @hkd; all_goals (try ((first | (with_reducible refine wp_id ?_) | (with_reducible refine does_id ?_) | (with_reducible refine ops_id ?_)); refine walk ?_; (repeat' (first | exact trivial | with_reducible refine And.intro ?_ ?_)); all_goals (repeat (first | (with_reducible refine ImpB.mk fun hb => ?_) | (with_reducible refine ImpK.mk fun hK => ?_) | (with_reducible refine ImpF.mk fun hF => ?_) | (with_reducible refine ImpQ.mk fun hp => ?_) | (with_reducible refine AllE.mk fun p => ?_) | (with_reducible refine AllR.mk fun rest => ?_) | (with_reducible refine AllK.mk fun K => ?_))))); repeat' (with_reducible refine And.intro ?_ ?_))
      all_goals first | exact Int.natCast_nonneg _ | exact Int.ofNat_lt.2 hk | rfl | skip
      · rw [ixE_at hk hx.2 hb, Nat.zero_add] at H
        exact H
      · refine ⟨k + 1, ⟨⟨by first | omega | (dsimp only; omega), fun i hi => ?_⟩, by first | omega | (dsimp only; omega)⟩, ?_, rfl⟩
        · by_cases e : i = k
          · rw [e]; exact hb
          · exact hx.2 i (by omega)
        (focus (simp only [go_sem]; (repeat' (first | exact sub_nil | refine sub_cons ?_ ?_)); (any_goals (first | exact .inl rfl | exact .inr rfl)); (try any_goals (refine .inr ?_)); (try any_goals (refine congrArg _ ?_))))
        exact hw.symm
    · have hkd : decide ((k : Int) < xs.length) = false := decide_eq_false (by omega)
      (have zx1 := @hkd; all_goals (try ((first | (with_reducible refine wp_id ?_) | (with_reducible refine does_id ?_) | (with_reducible refine ops_id ?_)); refine walk ?_; (repeat' (first | exact trivial | with_reducible refine And.intro ?_ ?_)); all_goals (repeat (first | (with_reducible refine ImpB.mk fun hb => ?_) | (with_reducible refine ImpK.mk fun hK => ?_) | (with_reducible refine ImpF.mk fun hF => ?_) | (with_reducible refine ImpQ.mk fun hp => ?_) | (with_reducible refine AllE.mk fun p => ?_) | (with_reducible refine AllR.mk fun rest => ?_) | (with_reducible refine AllK.mk fun K => ?_))))); repeat' (with_reducible refine And.intro ?_ ?_))
      rw [ixE_none fun x hx' => by
        obtain ⟨i, hi, rfl⟩ := List.getElem_of_mem hx'
        have := hx.2 i (by omega)
        rwa [eAt_eq hi] at this] at H
      exact H
def idB (n : Int) (x : Ent) : Bool := decide (x.id = n)
theorem b_isId (x : Ent) (n : Int) : DoesK Try.prog 1 44 [.agg [.int .i64 x.id, .int .i64 x.time, .int .i64 x.group, .int .i64 x.c.src, .int .i64 x.c.num, .int .i64 x.c.srv, .ro .int x.c.args, .ro .byte x.c.data], .ptr 0 0] [.cells [.int .i64 n]] (EndF 1 (.bool (idB n x)) ([.cells [.int .i64 n]] ++ [])) := by
  refine DoesK.close ?_
  refine w_body (rs := [.tmp 3]) (tm := [.agg [.int .i64 x.id, .int .i64 x.time, .int .i64 x.group, .int .i64 x.c.src, .int .i64 x.c.num, .int .i64 x.c.srv, .ro .int x.c.args, .ro .byte x.c.data], .ptr 0 0, .any, .any, .any, .any, .any, .any]) fn_44 rfl rfl rfl rfl fun R hR => ?_
  (all_goals (try ((first | (with_reducible refine wp_id ?_) | (with_reducible refine does_id ?_) | (with_reducible refine ops_id ?_)); refine walk ?_; (repeat' (first | exact trivial | with_reducible refine And.intro ?_ ?_)); all_goals (repeat (first | (with_reducible refine ImpB.mk fun hb => ?_) | (with_reducible refine ImpK.mk fun hK => ?_) | (with_reducible refine ImpF.mk fun hF => ?_) | (with_reducible refine ImpQ.mk fun hp => ?_) | (with_reducible refine AllE.mk fun p => ?_) | (with_reducible refine AllR.mk fun rest => ?_) | (with_reducible refine AllK.mk fun K => ?_))))); repeat' (with_reducible refine And.intro ?_ ?_))
  (focus (refine ⟨_, _, Gh.refl, [0], rfl, ?_⟩; (refine ⟨?_, ?_, ?_⟩ <;> simp only [go_sem, List.range, List.range.loop, List.nodup_cons, List.nodup_nil, List.mem_cons, List.not_mem_nil, or_false, or_self, decide_true, decide_false, Int.reduceToNat, Nat.min_eq_left, Nat.min_eq_right, Int.reducePow, Nat.reducePow, Int.reduceLE, Int.reduceLT, Int.reduceMul, Int.reduceAdd, Int.reduceSub, Int.reduceNeg, Bool.not_true, Bool.not_false, Bool.not_not, ↓reduceIte, Nat.reduceAdd, Nat.reduceSub, Nat.reduceMul, Nat.reduceEqDiff, reduceCtorEq, Nat.reduceLT, Nat.reduceLeDiff, Nat.reduceGT]); (try any_goals (refine ⟨?_, ?_⟩)); (try any_goals (with_reducible rfl))))
  all_goals rfl
theorem fitC_int (n : Int) (σ : List Nat) : fitC σ (.cells [.int .i64 n]) (.cells [.int .i64 n]) := ⟨⟨rfl, rfl⟩, trivial⟩
theorem c_isId {h : List Ch} {K : KT} {x : Ent} {t : Nat} {n : Int} (H : K (.bool (idB n x)) h) (o : hth h t = .cells [.int .i64 n]) : Does Try.prog 44 [.agg [.int .i64 x.id, .int .i64 x.time, .int .i64 x.group, .int .i64 x.c.src, .int .i64 x.c.num, .int .i64 x.c.srv, .ro .int x.c.args, .ro .byte x.c.data], .ptr t 0] h K :=
  frame_look (b_isId x n) o (by simp) (fitC_int n) (br_cons (br_agg (br_cons br_int (br_cons br_int (br_cons br_int (br_cons br_int (br_cons br_int (br_cons br_int (br_cons br_ro (br_cons br_ro br_nil))))))))) (br_cons (br_ptr rfl) br_nil)) (.inl rfl) (fun _ => rfl) rfl H
theorem b_ixId (xs : List Ent) (n : Int) (hl : xs.length ≤ 9223372036854775806) : DoesK Try.prog 1 43 [.ro .ent xs, .fn 44 [.ptr 0 0]] [.cells [.int .i64 n]] (EndF 1 (.int .i64 (ixE (idB n) xs 0)) ([.cells [.int .i64 n]] ++ [])) :=
  k_indexFuncE (idB n) hl (fun x K' hK' => c_isId hK' rfl) ⟨[0], rfl, ⟨⟨rfl, rfl⟩, trivial⟩, ⟨by simp, fitC_int n _, trivial⟩, by simp⟩
theorem c_ixId {h : List Ch} {K : KT} {xs : List Ent} {t g m : Nat} {n : Int} (H : K (.int .i64 (ixE (idB n) xs 0)) h) (o : hth h t = .cells [.int .i64 n]) (o1 : hth h g = .rows .ent xs) (s1 : m = xs.length) (s2 : xs.length ≤ 9223372036854775806) : Does Try.prog 43 [.sl g .ent 0 m, .fn 44 [.ptr t 0]] h K := by
  have hne : g ∉ [t] := by
    rw [List.mem_singleton]
    intro e
    rw [e, o] at o1
    cases o1
  exact frame_look (b_ixId xs n s2) o (by simp) (fitC_int n) (br_cons (br_full o1 s1 hne) (br_cons ⟨rfl, ⟨rfl, rfl⟩, trivial⟩ br_nil)) (.inr rfl) (fun _ => rfl) rfl H
abbrev i_ixId := Ctr.mk (i := 0) (g := 43) @c_ixId
attribute [instance] i_ixId
theorem del_rows {l X : List Ent} {i j : Nat} (hij : i < j) (hj : j ≤ l.length) : List.take (i - 0 + min (l.length - j) (List.drop j l).length) (List.take (i - 0) l ++ List.take (l.length - j) (List.drop j l) ++ X) = l.take i ++ l.drop j := by
  have e1 : List.take (l.length - j) (List.drop j l) = List.drop j l := List.take_of_length_le (by rw [List.length_drop]; exact Nat.le_refl _)
  rw [e1, Nat.sub_zero, List.length_drop, Nat.min_self]
  have e2 : (l.take i ++ l.drop j).length = i + (l.length - j) := by rw [List.length_append, List.length_take, List.length_drop]; omega
  rw [← e2]
  exact List.take_left
theorem b_sdel (l : List Ent) (i j : Nat) (hl : l.length ≤ 1099511627776) (hij : i < j) (hj : j ≤ l.length) : DoesK Try.prog 1 42 [.sl 0 .ent 0 l.length, .int .i64 i, .int .i64 j] [.rows .ent l] (EndF 1 (.sl 0 .ent 0 (l.take i ++ l.drop j).length) ([.rows .ent (l.take i ++ l.drop j)] ++ [])) := by
  refine DoesK.close ?_
  have d1 : decide ((i : Int) = j) = false := decide_eq_false (by omega)
  refine w_body (rs := [.tmp 6]) (tm := [.sl 0 .ent 0 l.length, .int .i64 i, .int .i64 j, .any, .any, .any, .any, .any, .any, .any, .any, .any, .any, .any, .any, .any, .any, .any, .any, .any, .any, .any, .any, .any, .any, .any, .any, .any, .any, .any, .any, .any, .any]) fn_42 rfl rfl rfl rfl fun R hR => ?_
  (have zx1 := @d1; all_goals (try ((first | (with_reducible refine wp_id ?_) | (with_reducible refine does_id ?_) | (with_reducible refine ops_id ?_)); refine walk ?_; (repeat' (first | exact trivial | with_reducible refine And.intro ?_ ?_)); all_goals (repeat (first | (with_reducible refine ImpB.mk fun hb => ?_) | (with_reducible refine ImpK.mk fun hK => ?_) | (with_reducible refine ImpF.mk fun hF => ?_) | (with_reducible refine ImpQ.mk fun hp => ?_) | (with_reducible refine AllE.mk fun p => ?_) | (with_reducible refine AllR.mk fun rest => ?_) | (with_reducible refine AllK.mk fun K => ?_))))); repeat' (with_reducible refine And.intro ?_ ?_))
  (all_goals first | exact Int.natCast_nonneg _ | exact Int.ofNat_lt.2 (by assumption) | assumption | omega | exact Nat.le_refl _ | (exfalso; simp at hb; done) | (simp only [go_sem, decide_true, decide_false, Int.reduceToNat, Nat.min_eq_left, Nat.min_eq_right, Int.reducePow, Nat.reducePow, Int.reduceLE, Int.reduceLT, Int.reduceMul, Int.reduceAdd, Int.reduceSub, Int.reduceNeg, Bool.not_true, Bool.not_false, Bool.not_not, ↓reduceIte, Nat.reduceAdd, Nat.reduceSub, Nat.reduceMul, Nat.reduceEqDiff, reduceCtorEq, Nat.reduceLT, Nat.reduceLeDiff, Nat.reduceGT]; done) | (unfold capM; omega) | (simp only [List.length_drop, List.length_take, List.length_append, List.length_cons, List.length_nil]; omega) | skip)
  · unfold capM
    simp only [List.length_drop]
    omega
  · rw [del_rows hij hj]
    (focus (refine ⟨_, _, Gh.refl, [0], rfl, ?_⟩; (refine ⟨?_, ?_, ?_⟩ <;> simp only [go_sem, List.range, List.range.loop, List.nodup_cons, List.nodup_nil, List.mem_cons, List.not_mem_nil, or_false, or_self, decide_true, decide_false, Int.reduceToNat, Nat.min_eq_left, Nat.min_eq_right, Int.reducePow, Nat.reducePow, Int.reduceLE, Int.reduceLT, Int.reduceMul, Int.reduceAdd, Int.reduceSub, Int.reduceNeg, Bool.not_true, Bool.not_false, Bool.not_not, ↓reduceIte, Nat.reduceAdd, Nat.reduceSub, Nat.reduceMul, Nat.reduceEqDiff, reduceCtorEq, Nat.reduceLT, Nat.reduceLeDiff, Nat.reduceGT]); (try any_goals (refine ⟨?_, ?_⟩)); (try any_goals (with_reducible rfl))))
    simp only [List.length_drop]
    omega
theorem c_sdel {h : List Ch} {K : KT} {l : List Ent} {t n : Nat} {i j : Nat} (H : K (.sl t .ent 0 (l.take i ++ l.drop j).length) (h.set t (.rows .ent (l.take i ++ l.drop j)))) (o : hth h t = .rows .ent l) (s1 : n = l.length) (s2 : l.length ≤ 1099511627776) (s3 : i < j) (s4 : j ≤ l.length) : Does Try.prog 42 [.sl t .ent 0 n, .int .i64 i, .int .i64 j] h K := by
  subst s1
  exact frame_obj0 (b_sdel l i j s2 s3 s4) o (by simp) (fitC_rows _ _) (br_cons (br_own rfl) (br_cons br_int (br_cons br_int br_nil))) (.inl rfl) (fun _ => rfl) rfl H
abbrev i_sdel := Ctr.mk (i := 0) (g := 42) @c_sdel
attribute [instance] i_sdel
theorem c_sdel01 {h : List Ch} {K : KT} {l : List Ent} {t n : Nat} (H : K (.sl t .ent 0 (l.drop 1).length) (h.set t (.rows .ent (l.drop 1)))) (o : hth h t = .rows .ent l) (s1 : n = l.length) (s2 : l.length ≤ 1099511627776) (s3 : 1 ≤ l.length) : Does Try.prog 42 [.sl t .ent 0 n, .int .i64 0, .int .i64 1] h K :=
  c_sdel (i := 0) (j := 1) H o s1 s2 (by decide) s3
abbrev i_sdel01 := Ctr.mk (i := 1) (g := 42) @c_sdel01
attribute [instance] i_sdel01
end Go.V
