/-
  slices.SortFunc at elements of whatever kind: the shelf's contract over the abstract memory.
  Contacts: IndexFunc, ContainsFunc, Clone, DeleteFunc, SortFunc at contacts.
  Contacts: the merged ranges.
-/
import Derived.Test.YtlfhggpgcpjhhaaPart08
import Derived.Test.YtlfhggpgcpjhhaaPart13
import Derived.Shelf.SlSortCmp.WholeK
import Derived.Shelf.SlSortCmp.NoneTotal
import Derived.Sort.OwnSorted
import Derived.Shelf.SlicesG.Cmp
import Derived.Shelf.Lay
import Derived.Ground.SlsfProg
import Derived.Ground.SlgcProg
set_option linter.unusedVariables false
set_option linter.unusedSimpArgs false
namespace Go.V
open Go.Sort Go.Shelf Go.RowKit Go.Proofs

theorem rel_int {R : RO} {μ : List Bind} {k k' : IntKind} {n m : Int} (h : Rel R μ (.int k n) (.int k' m)) : m = n := by cases h; rfl
/-- two lists, element by element -/
inductive All2 {α β : Type} (r : α → β → Prop) : List α → List β → Prop
  | nil : All2 r [] []
  | cons {a b l m} (h : r a b) (hs : All2 r l m) : All2 r (a :: l) (b :: m)
theorem All2.len {α β : Type} {r : α → β → Prop} : ∀ {l : List α} {m : List β}, All2 r l m → l.length = m.length
  | _, _, .nil => rfl
  | _, _, .cons _ hs => by simp [All2.len hs]
theorem All2.perm {α β : Type} {r : α → β → Prop} {d d' : List β} (hp : d.Perm d') : ∀ {xs : List α}, All2 r xs d → ∃ ys, xs.Perm ys ∧ All2 r ys d' := by
  induction hp with
  | nil => intro xs h; cases h; exact ⟨[], .nil, .nil⟩
  | cons b _ ih =>
    intro xs h
    cases h with
    | cons h1 h2 =>
      obtain ⟨ys, p1, p2⟩ := ih h2
      exact ⟨_ :: ys, p1.cons _, .cons h1 p2⟩
  | swap b c l =>
    intro xs h
    cases h with
    | cons h1 h2 =>
      cases h2 with
      | cons h3 h4 => exact ⟨_, List.Perm.swap _ _ _, .cons h3 (.cons h1 h4)⟩
  | trans _ _ ih1 ih2 =>
    intro xs h
    obtain ⟨ys, p1, p2⟩ := ih1 h
    obtain ⟨zs, p3, p4⟩ := ih2 p2
    exact ⟨zs, p1.trans p3, p4⟩
theorem All2.get {α β : Type} {r : α → β → Prop} : ∀ {l : List α} {m : List β}, All2 r l m → ∀ (i : Nat) (h1 : i < l.length) (h2 : i < m.length), r l[i] m[i]
  | _, _, .nil, i, h1, _ => by simp at h1
  | _, _, .cons h _, 0, _, _ => h
  | _, _, .cons _ hs, i + 1, h1, h2 => All2.get hs i (by simpa using h1) (by simpa using h2)
theorem flat_split {R : RO} {e : Ety} {α : Type} {enc : α → List Value} (hdec : ∀ (x : e.T) (cs : List Value), LRel R [] (e.enc x) cs → ∃ a, enc a = cs) : ∀ {xs : List e.T} {cs : List Value}, LRel R [] (xs.flatMap e.enc) cs → ∃ d : List α, cs = d.flatMap enc ∧ All2 (fun x a => LRel R [] (e.enc x) (enc a)) xs d
  | [], cs, h => by cases h; exact ⟨[], rfl, .nil⟩
  | x :: xs, cs, h => by
    rw [List.flatMap_cons] at h
    have h1 := h.take (e.enc x).length
    rw [List.take_left] at h1
    have h2 := h.drop (e.enc x).length
    rw [List.drop_left] at h2
    obtain ⟨a, ha⟩ := hdec x _ h1
    obtain ⟨d, hd, hall⟩ := flat_split hdec h2
    refine ⟨a :: d, ?_, .cons (by rw [ha]; exact h1) hall⟩
    rw [List.flatMap_cons, ← hd, ha, List.take_append_drop]
theorem flat_join {R : RO} {e : Ety} {α : Type} {enc : α → List Value} : ∀ {xs : List e.T} {d : List α}, All2 (fun x a => LRel R [] (e.enc x) (enc a)) xs d → LRel R [] (xs.flatMap e.enc) (d.flatMap enc)
  | _, _, .nil => .nil
  | _, _, .cons h hs => by
    rw [List.flatMap_cons, List.flatMap_cons]
    exact h.app (flat_join hs)
section
variable {α : Type} [Inhabited α] {enc : α → List Value} {k : Nat}
theorem flatMap_get (hk : ∀ x, (enc x).length = k) (k0 : 0 < k) : ∀ (l : List α) (t : Nat), t < l.length * k → (l.flatMap enc)[t]? = (enc (l.getD (t / k) default))[t % k]?
  | [], t, h => by simp at h
  | x :: l, t, h => by
    rw [List.flatMap_cons]
    by_cases ht : t < k
    · rw [List.getElem?_append_left (by rw [hk]; exact ht), Nat.div_eq_of_lt ht, Nat.mod_eq_of_lt ht]
      rfl
    · have h1 : t - k < l.length * k := by
        rw [List.length_cons, Nat.succ_mul] at h
        omega
      rw [List.getElem?_append_right (by rw [hk]; omega), hk, flatMap_get hk k0 l _ h1]
      have e1 : t / k = (t - k) / k + 1 := by
        rw [Nat.div_eq t k, if_pos ⟨k0, by omega⟩]
      have e2 : t % k = (t - k) % k := by
        rw [Nat.mod_eq t k, if_pos ⟨k0, by omega⟩]
      rw [e1, e2]
      rfl
omit [Inhabited α] in
theorem flatMap_len (hk : ∀ x, (enc x).length = k) : ∀ l : List α, (l.flatMap enc).length = l.length * k
  | [] => by simp
  | x :: l => by rw [List.flatMap_cons, List.length_append, hk, flatMap_len hk l, List.length_cons, Nat.succ_mul]; omega
theorem flatK_list (hk : ∀ x, (enc x).length = k) (k0 : 0 < k) (d : Array α) : (flatK enc k d).toList = d.toList.flatMap enc := by
  apply List.ext_getElem?
  intro t
  by_cases h : t < d.size * k
  · rw [flatMap_get hk k0 d.toList t (by simpa using h)]
    have h1 := get_flatK enc k d t h
    have hs : t < (flatK enc k d).size := by rw [size_flatK]; exact h
    rw [getElem!_pos (flatK enc k d) t hs] at h1
    have h2 : (flatK enc k d).toList[t]? = some (flatK enc k d)[t] := by rw [Array.getElem?_toList, Array.getElem?_eq_getElem hs]
    rw [h2, h1]
    have hd : t / k < d.size := Nat.div_lt_of_lt_mul (by rw [Nat.mul_comm]; exact h)
    rw [getElem!_pos d (t / k) hd]
    have e3 : d.toList.getD (t / k) default = d[t / k] := by
      rw [List.getD_eq_getElem?_getD, List.getElem?_eq_getElem (by simpa using hd)]
      simp
    rw [e3]
    have hm : t % k < (enc d[t / k]).length := by rw [hk]; exact Nat.mod_lt _ k0
    rw [getElem!_pos (enc d[t / k]) (t % k) hm, List.getElem?_eq_getElem hm]
  · rw [List.getElem?_eq_none (by rw [Array.length_toList, size_flatK]; omega), List.getElem?_eq_none (by rw [flatMap_len hk]; simp; omega)]
theorem holdsK_of {w : World} {g : Nat} {cur : Array Value} {ty : TypeId} {d : List α} (hk : ∀ x, (enc x).length = k) (k0 : 0 < k) (hb : w.heap[g]? = some (.cells cur ty (0, 0))) (ht : cur.toList.take (d.length * k) = d.flatMap enc) : HoldsK enc k w g 0 d.toArray := by
  intro j hj
  rw [size_flatK] at hj
  have hj' : j < d.length * k := by simpa using hj
  have h2 : (flatK enc k d.toArray).toList = d.flatMap enc := flatK_list hk k0 _
  have h1 : (cur.toList.take (d.length * k))[j]? = (flatK enc k d.toArray).toList[j]? := by rw [ht, h2]
  have hjs : j < (flatK enc k d.toArray).size := by rw [size_flatK]; exact hj
  rw [List.getElem?_take_of_lt hj', Array.getElem?_toList, Array.getElem?_toList, Array.getElem?_eq_getElem hjs] at h1
  refine ⟨?_, by simp [World.frozen?, hb]⟩
  simp only [World.cell?, hb, Nat.zero_add, Option.isSome_none, Bool.false_eq_true, if_false]
  rw [h1, getElem!_pos (flatK enc k d.toArray) j hjs]
  rfl
theorem heapK_sorted {w : World} {g n : Nat} {os : Array Obj} {cur : Array Value} {ty : TypeId} {fr : Nat × Nat} (d : Array α) (hb : w.heap[g]? = some (.cells cur ty fr)) :
    (sortWorldK enc k w g 0 n d os).heap[g]? = some (.cells (putCells id 0 (flatK enc k d) cur) ty fr) := by
  have hg : g < w.heap.size := (Array.getElem?_eq_some_iff.1 hb).1
  unfold sortWorldK putRowK
  rw [heap_grow_old _ _ (by simpa using hg)]
  simp [putRow, mapBlock, Sort.ahead, Array.getElem?_modify, hb, onCells]
theorem grownByK_sorted {w : World} {g n : Nat} {os : Array Obj} (d : Array α) : w.grownBy (sortWorldK enc k w g 0 n d os) (some g) := by
  unfold sortWorldK putRowK
  refine ⟨rfl, rfl, rfl, by simp, fun i hi hne => ?_⟩
  rw [heap_grow_old _ _ (by simpa using hi)]
  have : g ≠ i := fun e => hne (by rw [e])
  simp [putRow, mapBlock, Sort.ahead, Array.getElem?_modify, this]
theorem takeK_putCells (hk : ∀ x, (enc x).length = k) (k0 : 0 < k) (cur : Array Value) (d : List α) (h : d.length * k ≤ cur.size) : (putCells id 0 (flatK enc k d.toArray) cur).toList.take (d.length * k) = d.flatMap enc := by
  have h2 : (flatK enc k d.toArray).toList = d.flatMap enc := flatK_list hk k0 _
  have hsz : (flatK enc k d.toArray).size = d.length * k := by rw [size_flatK]; simp
  apply List.ext_getElem?
  intro j
  by_cases hj : j < d.length * k
  · rw [List.getElem?_take_of_lt hj, Array.getElem?_toList, ← h2, Array.getElem?_toList]
    have h3 : j < (flatK enc k d.toArray).size := by rw [hsz]; exact hj
    rw [Array.getElem?_eq_getElem h3]
    have h5 : (flatK enc k d.toArray)[j]! = (flatK enc k d.toArray)[j] := getElem!_pos (flatK enc k d.toArray) j h3
    simp [putCells, hj, show j < cur.size by omega, h5]
  · rw [List.getElem?_take_eq_none (by omega), List.getElem?_eq_none (by rw [flatMap_len hk]; omega)]
end
theorem sort_cmpK {P : Program} {g : FuncId} (hr : Here P g) {e : Ety} {α : Type} [Inhabited α] {enc : α → List Value} (hk : ∀ a, (enc a).length = e.sz) {fc : FuncId} {cf : α → α → Int} {lt : e.T → e.T → Bool}
    (hdec : ∀ (R : RO) (x : e.T) (cs : List Value), LRel R [] (e.enc x) cs → ∃ a, enc a = cs)
    (hlt : ∀ (R : RO) (x y : e.T) (a b : α), LRel R [] (e.enc x) (enc a) → LRel R [] (e.enc y) (enc b) → ltOf cf a b = lt x y)
    (hc : ∀ (blk off cap : Nat) (d : Array α) (w : World), HoldsK enc e.sz w blk off d → blk < w.heap.size → d.size < 4611686018427387904 →
      Calls P g #[.slice (some ⟨blk, off, none⟩) d.size cap, .func (.func fc) #[] #[]] w fun e' w' => e' = .returned (.tuple #[]) ∧ ∃ d' n os, PermIn 0 d.size d d' ∧ SortedIn (ltOf cf) 0 d.size d' ∧ w' = sortWorldK enc e.sz w blk off n d' os)
    (hc0 : ∀ (p : Option Addr) (cap : Nat) (w : World), Calls P g #[.slice p 0 cap, .func (.func fc) #[] #[]] w fun e w' => e = .returned (.tuple #[]) ∧ w' = w)
    {h : List Ch} {K : KT} {t : Nat} {xs : List e.T} {n : Nat} (hn : n = xs.length) (hx : xs.length ≤ 1099511627776)
    (H : ∀ ys : List e.T, ys.Perm xs → (ys.Pairwise fun x y => lt y x = false) → K (.tup []) (h.set t (.rows e ys))) (o : hth h t = .rows e xs) : Does P g [.sl t e 0 n, .fn fc []] h K := by
  refine ⟨hr, fun R μ w vs hv H0 => ?_⟩
  have hg := hth_get o (by simp)
  have k0 := e.sz_pos
  cases hv with
  | cons hv h2 =>
  cases h2 with
  | cons hf h3 =>
  cases h3
  cases hf with
  | @fn _ _ _ cvs hcv =>
  cases hcv
  have hz : n = 0 → K (.tup []) h := fun e1 => by
    rw [e1] at hn
    have : xs = [] := List.eq_nil_of_length_eq_zero hn.symm
    subst this
    have := H [] (.refl _) .nil
    rw [← o, set_hth rfl (by rw [o]; simp)] at this
    exact this
  generalize hN : n = N at hv
  cases hv with
  | sl0 hl =>
    refine (hc0 _ _ _).mono ?_
    rintro e w' ⟨rfl, rfl⟩
    exact ⟨_, R, μ, h, .tup [], rfl, hz hN, .tup .nil, H0, Ext.refl _, Step.refl _ _ _⟩
  | sl h1 hcap hl hm =>
    rename_i b cap c
    obtain ⟨B, hB, hr1, hown⟩ := H0.rel.get hg
    have : B = .blk b cap := by rw [h1] at hB; exact (Option.some.inj hB).symm
    subst this
    rcases hr1 with ⟨hx, _⟩ | ⟨b', cap', arr, ty, hx, hb, hsz, hlen, hmx, hrel⟩
    · cases hx
    · cases hx
      obtain ⟨d, hd, hall⟩ := flat_split (hdec R) hrel
      have hdl := hall.len
      rw [hdl] at hd
      have hH := holdsK_of hk k0 hb hd
      have hbl : b < w.heap.size := (Array.getElem?_eq_some_iff.1 hb).1
      subst hN
      subst hn
      rw [Nat.zero_mul, hdl]
      refine (hc b 0 c d.toArray w hH hbl (by simp; omega)).mono ?_
      rintro e' w' ⟨rfl, d', m, os, hp, hs, rfl⟩
      obtain ⟨p1, _, p3⟩ := hp
      have hperm : d'.toList.Perm d := by
        have e1 : d'.extract 0 d.toArray.size = d' := by rw [← p1, Array.extract_size]
        rw [e1, Array.extract_size] at p3
        exact p3
      obtain ⟨ys, hy1, hy2⟩ := All2.perm hperm.symm hall
      have hyl := hy2.len
      have hyx := hy1.length_eq
      have hpw : ys.Pairwise fun x y => lt y x = false := by
        rw [List.pairwise_iff_getElem]
        intro i j hi hj hij
        have hi' : i < d'.size := by rw [← Array.length_toList, ← hyl]; exact hi
        have hj' : j < d'.size := by rw [← Array.length_toList, ← hyl]; exact hj
        have q := hs i j (Nat.zero_le _) hij (by rw [← p1]; exact hj')
        rw [getElem!_pos d' i hi', getElem!_pos d' j hj'] at q
        have r1 := hy2.get i hi (by simpa using hi')
        have r2 := hy2.get j hj (by simpa using hj')
        rw [← hlt R _ _ _ _ r2 r1]
        simpa using q
      have hg2 := grownByK_sorted (enc := enc) (k := e.sz) (w := w) (g := b) (n := m) (os := os) d'
      obtain ⟨g1, g2, g3, g4, g5⟩ := hg2
      have hdd : d'.toList.toArray = d' := by simp
      obtain ⟨H1, hst⟩ := H0.set (w' := sortWorldK enc e.sz w b 0 m d' os) (c' := .rows e ys) hg hB (by simp [ownC]) (fun k hk hne => g5 k hk (fun e => hne (by simp only [ownC, List.mem_singleton]; exact Option.some.inj e))) g4
        (.inr ⟨b, cap, _, ty, rfl, heapK_sorted _ hb, by simp only [putCells, Array.size_mapIdx, hsz], by omega, hmx, by
          have h4 : d'.toList.length = ys.length := hyl.symm
          have h5 := takeK_putCells (k := e.sz) hk k0 arr d'.toList (by rw [h4, hsz]; exact Nat.mul_le_mul_right _ (by omega))
          rw [h4, hdd] at h5
          rw [h5]
          exact flat_join hy2⟩) rfl rfl rfl
      exact ⟨_, R, μ, _, .tup [], rfl, H ys hy1.symm hpw, .tup .nil, H1, Ext.refl _, hst⟩
/-- a call over nothing but what lies for good lays blocks and draws -/
theorem does_grow {P : Program} {g : FuncId} {xs : List AV} {k : IntKind} {n : Int} {vs : List Value} {w : World} (H : Does P g xs [] fun a _ => a = .int k n) (hr : LRel (oldR w) [] xs vs) :
    Calls P g vs.toArray w fun e w' => e = .returned (.int k n) ∧ ∃ q os', w' = grow (w.drewN q) os' :=
  (H.run (oldR w) [] w vs hr (old_ok w)).mono fun e w' hx => by
    obtain ⟨v, R', μ', h', av, rfl, rfl, h2, _, _, st⟩ := hx
    cases h2
    refine ⟨rfl, w'.drawn - w.drawn, w'.heap.extract w.heap.size w'.heap.size, ?_⟩
    have hd := st.drawn
    have hheap : w'.heap = w.heap ++ w'.heap.extract w.heap.size w'.heap.size := by
      apply Array.ext'
      apply List.ext_getElem?
      intro i
      rw [Array.toList_append]
      by_cases hi : i < w.heap.size
      · rw [List.getElem?_append_left (by simpa using hi), Array.getElem?_toList, Array.getElem?_toList]
        exact st.out i hi (by simp [ownH])
      · have hsz := st.size
        rw [List.getElem?_append_right (by simp; omega), Array.toList_extract, List.extract_eq_take_drop, List.getElem?_take, List.getElem?_drop, Array.length_toList, Array.getElem?_toList]
        have e1 : w.heap.size + (i - w.heap.size) = i := by omega
        rw [e1, Array.getElem?_toList]
        split
        · rfl
        · rw [Array.getElem?_eq_none (by omega)]
    unfold grow World.drewN
    cases w' with
    | mk heap tape drawn os output =>
      simp only at hd hheap
      have h1 := st.os
      have h2 := st.tape
      have h3 := st.output
      simp only at h1 h2 h3
      subst h1; subst h2; subst h3
      simp only [World.mk.injEq, true_and, and_true]
      exact ⟨hheap, by omega⟩
end Go.V

set_option maxRecDepth 100000
set_option maxHeartbeats 4000000
namespace Go.Proofs
open Go.Shelf Go.RowKit Go.Lib Go.Sort
shelf_lay_g SlLaysF0.n6 Slsf 6 at Try 36 as Try.sortWin
shelf_lay_g SlLaysC2.n5 Slgc 5 at Try 38 as Try.cmpInt
end Go.Proofs
namespace Go.V
open Go.Proofs Go.Sort Go.Shelf Go.RowKit
theorem fstW_any {p : Win → Bool} : ∀ {l : List Win} {k : Nat}, decide (0 ≤ fstW p l k) = l.any p
  | [], _ => by simp [fstW]
  | x :: l, k => by
    rw [fstW, List.any_cons]
    cases h : p x
    · simp only [Bool.false_eq_true, if_false, Bool.false_or]
      exact fstW_any
    · simp
/-- IndexFunc over what lies for good; the closure's own cells lie where they may -/
theorem k_indexFunc {n0 : Nat} {h : List Ch} {K : KT} {xs : List Win} {f : FuncId} {caps : List AV} (p : Win → Bool) (hl : xs.length ≤ 9223372036854775806) (hp : ∀ x : Win, ∀ K' : KT, K' (.bool (p x)) h → Does Try.prog f (.agg [.int .i64 x.st, .int .i64 x.from_, .int .i64 x.to_, .int .i64 x.va] :: caps) h K') (H : K (.int .i64 (fstW p xs 0)) h) : DoesK Try.prog n0 39 [.ro .win xs, .fn f caps] h K := by
  have inst : Ctr 0 f (∀ {h' : List Ch} {K' : KT} {x : Win} (_ : h' = h) (_ : K' (.bool (p x)) h), Does Try.prog f (.agg [.int .i64 x.st, .int .i64 x.from_, .int .i64 x.to_, .int .i64 x.va] :: caps) h' K') := Ctr.mk (by rintro h' K' x rfl H; exact hp x K' H)
  refine w_body (rs := [.tmp 4]) (tm := [.ro .win xs, .fn f caps, .any, .any, .any, .any, .any, .any, .any, .any, .any, .any, .any, .any, .any, .any, .any, .any, .any]) fn_39 rfl rfl rfl rfl fun R hR => ?_
  (all_goals (try ((first | (with_reducible refine wp_id ?_) | (with_reducible refine does_id ?_) | (with_reducible refine ops_id ?_)); refine walk ?_; (repeat' (first | exact trivial | with_reducible refine And.intro ?_ ?_)); all_goals (repeat (first | (with_reducible refine ImpB.mk fun hb => ?_) | (with_reducible refine ImpK.mk fun hK => ?_) | (with_reducible refine ImpF.mk fun hF => ?_) | (with_reducible refine ImpQ.mk fun hp => ?_) | (with_reducible refine AllE.mk fun p => ?_) | (with_reducible refine AllR.mk fun rest => ?_) | (with_reducible refine AllK.mk fun K => ?_))))); repeat' (with_reducible refine And.intro ?_ ?_))
  any_goals ((try (refine w_seq fun K hK => ?_)); (try (refine w_block ?_)); refine w_loopS (A := Nat) (fun k => k ≤ xs.length ∧ ∀ i, i < k → p (wAt xs i) = false) (fun k => xs.length - k) (fun k => [(8, .int .i64 k)]) (0) (ws := ?ws2) (tk := ?tk2) ?hw2 ?ht2 ?hi ?h0 ?LH2; (case hw2 => simp only [go_sem, decide_true, decide_false, Int.reduceToNat, Nat.min_eq_left, Nat.min_eq_right, Int.reducePow, Nat.reducePow, Int.reduceLE, Int.reduceLT, Int.reduceMul, Int.reduceAdd, Int.reduceSub, Int.reduceNeg, Bool.not_true, Bool.not_false, Bool.not_not, ↓reduceIte, Nat.reduceAdd, Nat.reduceSub, Nat.reduceMul, Nat.reduceEqDiff, reduceCtorEq, Nat.reduceLT, Nat.reduceLeDiff, Nat.reduceGT]; exact rfl); (case ht2 => simp only [go_sem, decide_true, decide_false, Int.reduceToNat, Nat.min_eq_left, Nat.min_eq_right, Int.reducePow, Nat.reducePow, Int.reduceLE, Int.reduceLT, Int.reduceMul, Int.reduceAdd, Int.reduceSub, Int.reduceNeg, Bool.not_true, Bool.not_false, Bool.not_not, ↓reduceIte, Nat.reduceAdd, Nat.reduceSub, Nat.reduceMul, Nat.reduceEqDiff, reduceCtorEq, Nat.reduceLT, Nat.reduceLeDiff, Nat.reduceGT]; exact rfl); (case' LH2 => rintro k E t hx hE ht; simp only [go_sem] at ht; subst ht; simp only [go_sem]; try dsimp only at hx))
  case hi => exact ⟨Nat.zero_le _, fun i hi => absurd hi (by omega)⟩
  case h0 => (focus (simp only [go_sem]; (repeat' (first | exact sub_nil | refine sub_cons ?_ ?_)); (any_goals (first | exact .inl rfl | exact .inr rfl)); (try any_goals (refine .inr ?_)); (try any_goals (refine congrArg _ ?_))))
  case LH2 =>
    have hw : IntKind.i64.wrap ((k : Int) + 1) = ((k + 1 : Nat) : Int) := by rw [wrap_i64 _ (by omega) (by omega)]; omega
    by_cases hk : k < xs.length
    · have hkd : decide ((k : Int) < xs.length) = true := decide_eq_true (by omega)
      (have zx1 := @hkd; all_goals (try ((first | (with_reducible refine wp_id ?_) | (with_reducible refine does_id ?_) | (with_reducible refine ops_id ?_)); refine walk ?_; (repeat' (first | exact trivial | with_reducible refine And.intro ?_ ?_)); all_goals (repeat (first | (with_reducible refine ImpB.mk fun hb => ?_) | (with_reducible refine ImpK.mk fun hK => ?_) | (with_reducible refine ImpF.mk fun hF => ?_) | (with_reducible refine ImpQ.mk fun hp => ?_) | (with_reducible refine AllE.mk fun p => ?_) | (with_reducible refine AllR.mk fun rest => ?_) | (with_reducible refine AllK.mk fun K => ?_))))); repeat' (with_reducible refine And.intro ?_ ?_))
      all_goals first | exact Int.natCast_nonneg _ | exact Int.ofNat_lt.2 hk | rfl | skip
      · rw [fstW_at hk hx.2 hb, Nat.zero_add] at H
        exact H
      · refine ⟨k + 1, ⟨⟨by first | omega | (dsimp only; omega), fun i hi => ?_⟩, by first | omega | (dsimp only; omega)⟩, ?_, rfl⟩
        · by_cases e : i = k
          · rw [e]; exact hb
          · exact hx.2 i (by omega)
        (focus (simp only [go_sem]; (repeat' (first | exact sub_nil | refine sub_cons ?_ ?_)); (any_goals (first | exact .inl rfl | exact .inr rfl)); (try any_goals (refine .inr ?_)); (try any_goals (refine congrArg _ ?_))))
        exact hw.symm
    · have hkd : decide ((k : Int) < xs.length) = false := decide_eq_false (by omega)
      (have zx1 := @hkd; all_goals (try ((first | (with_reducible refine wp_id ?_) | (with_reducible refine does_id ?_) | (with_reducible refine ops_id ?_)); refine walk ?_; (repeat' (first | exact trivial | with_reducible refine And.intro ?_ ?_)); all_goals (repeat (first | (with_reducible refine ImpB.mk fun hb => ?_) | (with_reducible refine ImpK.mk fun hK => ?_) | (with_reducible refine ImpF.mk fun hF => ?_) | (with_reducible refine ImpQ.mk fun hp => ?_) | (with_reducible refine AllE.mk fun p => ?_) | (with_reducible refine AllR.mk fun rest => ?_) | (with_reducible refine AllK.mk fun K => ?_))))); repeat' (with_reducible refine And.intro ?_ ?_))
      rw [fstW_none fun x hx' => by
        obtain ⟨i, hi, rfl⟩ := List.getElem_of_mem hx'
        have := hx.2 i (by omega)
        simpa [wAt, List.getD_eq_getElem?_getD, List.getElem?_eq_getElem hi] using this] at H
      exact H
theorem c_indexFunc {h : List Ch} {K : KT} {xs : List Win} {f : FuncId} {caps : List AV} (p : Win → Bool) (hl : xs.length ≤ 9223372036854775806) (hp : ∀ x : Win, ∀ K' : KT, K' (.bool (p x)) h → Does Try.prog f (.agg [.int .i64 x.st, .int .i64 x.from_, .int .i64 x.to_, .int .i64 x.va] :: caps) h K') (H : K (.int .i64 (fstW p xs 0)) h) : Does Try.prog 39 [.ro .win xs, .fn f caps] h K := -- nocall
  Does.of_K (k_indexFunc p hl hp H)
theorem k_containsFunc {n0 : Nat} {h : List Ch} {K : KT} {xs : List Win} {f : FuncId} {caps : List AV} (p : Win → Bool) (hl : xs.length ≤ 9223372036854775806) (hp : ∀ x : Win, ∀ K' : KT, K' (.bool (p x)) h → Does Try.prog f (.agg [.int .i64 x.st, .int .i64 x.from_, .int .i64 x.to_, .int .i64 x.va] :: caps) h K') (H : K (.bool (xs.any p)) h) : DoesK Try.prog n0 23 [.ro .win xs, .fn f caps] h K := by
  have inst : Ctr 0 39 (∀ {K' : KT} (_ : K' (.int .i64 (fstW p xs 0)) h), Does Try.prog 39 [.ro .win xs, .fn f caps] h K') := Ctr.mk (fun H => c_indexFunc p hl hp H)
  refine w_body (rs := [.tmp 4]) (tm := [.ro .win xs, .fn f caps, .any, .any, .any, .any, .any, .any, .any]) fn_23 rfl rfl rfl rfl fun R hR => ?_
  have hia := fstW_any (p := p) (l := xs) (k := 0)
  (have zx1 := @hia; all_goals (try ((first | (with_reducible refine wp_id ?_) | (with_reducible refine does_id ?_) | (with_reducible refine ops_id ?_)); refine walk ?_; (repeat' (first | exact trivial | with_reducible refine And.intro ?_ ?_)); all_goals (repeat (first | (with_reducible refine ImpB.mk fun hb => ?_) | (with_reducible refine ImpK.mk fun hK => ?_) | (with_reducible refine ImpF.mk fun hF => ?_) | (with_reducible refine ImpQ.mk fun hp => ?_) | (with_reducible refine AllE.mk fun p => ?_) | (with_reducible refine AllR.mk fun rest => ?_) | (with_reducible refine AllK.mk fun K => ?_))))); repeat' (with_reducible refine And.intro ?_ ?_))
  all_goals first | exact H | skip
theorem b_wclone (xs : List Win) (hl : xs.length ≤ 1099511627776) : DoesK Try.prog 0 34 [.ro .win xs] [] (EndF 0 (.sl 0 .win 0 xs.length) [.rows .win xs]) := by
  refine DoesK.close ?_
  refine w_body (rs := [.tmp 2]) (tm := [.ro .win xs, .any, .any, .any, .any, .any, .any, .any]) fn_34 rfl rfl rfl rfl fun R hR => ?_
  (all_goals (try ((first | (with_reducible refine wp_id ?_) | (with_reducible refine does_id ?_) | (with_reducible refine ops_id ?_)); refine walk ?_; (repeat' (first | exact trivial | with_reducible refine And.intro ?_ ?_)); all_goals (repeat (first | (with_reducible refine ImpB.mk fun hb => ?_) | (with_reducible refine ImpK.mk fun hK => ?_) | (with_reducible refine ImpF.mk fun hF => ?_) | (with_reducible refine ImpQ.mk fun hp => ?_) | (with_reducible refine AllE.mk fun p => ?_) | (with_reducible refine AllR.mk fun rest => ?_) | (with_reducible refine AllK.mk fun K => ?_))))); repeat' (with_reducible refine And.intro ?_ ?_))
  · exact ⟨_, rfl⟩
  · subst hb
    refine ⟨_, _, gh_adopt (s := 0) .win trivial, [0], rfl, ?ft⟩
    case' ft => (refine ⟨?_, ?_, ?_⟩ <;> simp only [go_sem, List.range, List.range.loop, List.nodup_cons, List.nodup_nil, List.mem_cons, List.not_mem_nil, or_false, or_self, decide_true, decide_false, Int.reduceToNat, Nat.min_eq_left, Nat.min_eq_right, Int.reducePow, Nat.reducePow, Int.reduceLE, Int.reduceLT, Int.reduceMul, Int.reduceAdd, Int.reduceSub, Int.reduceNeg, Bool.not_true, Bool.not_false, Bool.not_not, ↓reduceIte, Nat.reduceAdd, Nat.reduceSub, Nat.reduceMul, Nat.reduceEqDiff, reduceCtorEq, Nat.reduceLT, Nat.reduceLeDiff, Nat.reduceGT])
    all_goals rfl
  · omega
  · omega
  · (focus (refine ⟨_, _, Gh.refl, [1], rfl, ?_⟩; (refine ⟨?_, ?_, ?_⟩ <;> simp only [go_sem, List.range, List.range.loop, List.nodup_cons, List.nodup_nil, List.mem_cons, List.not_mem_nil, or_false, or_self, decide_true, decide_false, Int.reduceToNat, Nat.min_eq_left, Nat.min_eq_right, Int.reducePow, Nat.reducePow, Int.reduceLE, Int.reduceLT, Int.reduceMul, Int.reduceAdd, Int.reduceSub, Int.reduceNeg, Bool.not_true, Bool.not_false, Bool.not_not, ↓reduceIte, Nat.reduceAdd, Nat.reduceSub, Nat.reduceMul, Nat.reduceEqDiff, reduceCtorEq, Nat.reduceLT, Nat.reduceLeDiff, Nat.reduceGT]); (try any_goals (refine ⟨?_, ?_⟩)); (try any_goals (with_reducible rfl))))
theorem c_wclone {h : List Ch} {K : KT} {xs : List Win} {a : AV} (H : K (.sl h.length .win 0 xs.length) (h ++ [.rows .win xs])) (q1 : isRO .win xs a) (s1 : xs.length ≤ 1099511627776) : Does Try.prog 34 [a] h K :=
  frame_new (b_wclone xs s1) (br_cons q1.br br_nil) (.inl (by rw [brTL, q1.brT]; rfl)) (fun _ => rfl) (by simp [renA, rhoC]) H
abbrev i_wclone := Ctr.mk (i := 0) (g := 34) @c_wclone
attribute [instance] i_wclone
theorem br_fn {σ : List Nat} {h : List Ch} {f : FuncId} : brA σ h (.fn f []) (.fn f []) := ⟨rfl, trivial⟩
/-- not valid -/
def nvW (w : Win) : Bool := !vldW w
theorem b_nv1 (x : Win) : DoesK Try.prog 0 24 [.agg [.int .i64 x.st, .int .i64 x.from_, .int .i64 x.to_, .int .i64 x.va]] [] (EndF 0 (.bool (nvW x)) []) := by
  refine DoesK.close ?_
  refine w_body (rs := [.tmp 2]) (tm := [.agg [.int .i64 x.st, .int .i64 x.from_, .int .i64 x.to_, .int .i64 x.va], .any, .any, .any, .any, .any]) fn_24 rfl rfl rfl rfl fun R hR => ?_
  (all_goals (try ((first | (with_reducible refine wp_id ?_) | (with_reducible refine does_id ?_) | (with_reducible refine ops_id ?_)); refine walk ?_; (repeat' (first | exact trivial | with_reducible refine And.intro ?_ ?_)); all_goals (repeat (first | (with_reducible refine ImpB.mk fun hb => ?_) | (with_reducible refine ImpK.mk fun hK => ?_) | (with_reducible refine ImpF.mk fun hF => ?_) | (with_reducible refine ImpQ.mk fun hp => ?_) | (with_reducible refine AllE.mk fun p => ?_) | (with_reducible refine AllR.mk fun rest => ?_) | (with_reducible refine AllK.mk fun K => ?_))))); repeat' (with_reducible refine And.intro ?_ ?_))
  (focus (refine ⟨_, _, Gh.refl, [], rfl, ?_⟩; (refine ⟨?_, ?_, ?_⟩ <;> simp only [go_sem, List.range, List.range.loop, List.nodup_cons, List.nodup_nil, List.mem_cons, List.not_mem_nil, or_false, or_self, decide_true, decide_false, Int.reduceToNat, Nat.min_eq_left, Nat.min_eq_right, Int.reducePow, Nat.reducePow, Int.reduceLE, Int.reduceLT, Int.reduceMul, Int.reduceAdd, Int.reduceSub, Int.reduceNeg, Bool.not_true, Bool.not_false, Bool.not_not, ↓reduceIte, Nat.reduceAdd, Nat.reduceSub, Nat.reduceMul, Nat.reduceEqDiff, reduceCtorEq, Nat.reduceLT, Nat.reduceLeDiff, Nat.reduceGT]); (try any_goals (refine ⟨?_, ?_⟩)); (try any_goals (with_reducible rfl))))
  all_goals rfl
theorem c_nv1 {h : List Ch} {K : KT} {x : Win} (H : K (.bool (nvW x)) h) : Does Try.prog 24 [.agg [.int .i64 x.st, .int .i64 x.from_, .int .i64 x.to_, .int .i64 x.va]] h K :=
  frame_pure (b_nv1 x) (br_win x) (.inl rfl) (fun _ => rfl) H
abbrev i_nv1 := Ctr.mk (i := 0) (g := 24) @c_nv1
attribute [instance] i_nv1
theorem b_nv2 (x : Win) : DoesK Try.prog 0 35 [.agg [.int .i64 x.st, .int .i64 x.from_, .int .i64 x.to_, .int .i64 x.va]] [] (EndF 0 (.bool (nvW x)) []) := by
  refine DoesK.close ?_
  refine w_body (rs := [.tmp 2]) (tm := [.agg [.int .i64 x.st, .int .i64 x.from_, .int .i64 x.to_, .int .i64 x.va], .any, .any, .any, .any, .any]) fn_35 rfl rfl rfl rfl fun R hR => ?_
  (all_goals (try ((first | (with_reducible refine wp_id ?_) | (with_reducible refine does_id ?_) | (with_reducible refine ops_id ?_)); refine walk ?_; (repeat' (first | exact trivial | with_reducible refine And.intro ?_ ?_)); all_goals (repeat (first | (with_reducible refine ImpB.mk fun hb => ?_) | (with_reducible refine ImpK.mk fun hK => ?_) | (with_reducible refine ImpF.mk fun hF => ?_) | (with_reducible refine ImpQ.mk fun hp => ?_) | (with_reducible refine AllE.mk fun p => ?_) | (with_reducible refine AllR.mk fun rest => ?_) | (with_reducible refine AllK.mk fun K => ?_))))); repeat' (with_reducible refine And.intro ?_ ?_))
  (focus (refine ⟨_, _, Gh.refl, [], rfl, ?_⟩; (refine ⟨?_, ?_, ?_⟩ <;> simp only [go_sem, List.range, List.range.loop, List.nodup_cons, List.nodup_nil, List.mem_cons, List.not_mem_nil, or_false, or_self, decide_true, decide_false, Int.reduceToNat, Nat.min_eq_left, Nat.min_eq_right, Int.reducePow, Nat.reducePow, Int.reduceLE, Int.reduceLT, Int.reduceMul, Int.reduceAdd, Int.reduceSub, Int.reduceNeg, Bool.not_true, Bool.not_false, Bool.not_not, ↓reduceIte, Nat.reduceAdd, Nat.reduceSub, Nat.reduceMul, Nat.reduceEqDiff, reduceCtorEq, Nat.reduceLT, Nat.reduceLeDiff, Nat.reduceGT]); (try any_goals (refine ⟨?_, ?_⟩)); (try any_goals (with_reducible rfl))))
  all_goals rfl
theorem c_nv2 {h : List Ch} {K : KT} {x : Win} (H : K (.bool (nvW x)) h) : Does Try.prog 35 [.agg [.int .i64 x.st, .int .i64 x.from_, .int .i64 x.to_, .int .i64 x.va]] h K :=
  frame_pure (b_nv2 x) (br_win x) (.inl rfl) (fun _ => rfl) H
abbrev i_nv2 := Ctr.mk (i := 0) (g := 35) @c_nv2
attribute [instance] i_nv2
theorem c_anyNv {h : List Ch} {K : KT} {xs : List Win} (H : K (.bool (xs.any nvW)) h) (s1 : xs.length ≤ 9223372036854775806) : Does Try.prog 23 [.ro .win xs, .fn 24 []] h K :=
  Does.of_K (k_containsFunc _ s1 (fun x K' hK' => c_nv1 hK') H)
abbrev i_anyNv := Ctr.mk (i := 0) (g := 23) @c_anyNv
attribute [instance] i_anyNv
theorem b_ixNv (xs : List Win) (hl : xs.length ≤ 9223372036854775806) : DoesK Try.prog 0 39 [.ro .win xs, .fn 35 []] [] (EndF 0 (.int .i64 (fstW nvW xs 0)) []) :=
  k_indexFunc nvW hl (fun x K' hK' => c_nv2 hK') ⟨[], rfl, ⟨⟨rfl, rfl⟩, trivial⟩, trivial, .nil⟩
theorem c_ixNv {h : List Ch} {K : KT} {xs : List Win} {a : AV} (H : K (.int .i64 (fstW nvW xs 0)) h) (b1 : brA [] h (.ro .win xs) a) (s1 : xs.length ≤ 9223372036854775806) : Does Try.prog 39 [a, .fn 35 []] h K :=
  frame_pure (b_ixNv xs s1) (br_cons b1 (br_cons br_fn br_nil)) (.inr rfl) (fun _ => rfl) H
abbrev i_ixNv := Ctr.mk (i := 0) (g := 39) @c_ixNv
attribute [instance] i_ixNv
theorem wAt_eq {l : List Win} {i : Nat} (h : i < l.length) : wAt l i = l[i] := by
  unfold wAt
  rw [List.getD_eq_getElem?_getD, List.getElem?_eq_getElem h]
  rfl
/-- the state of DeleteFunc's loop -/
structure DelI (xs : List Win) (i j : Nat) (ys : List Win) : Prop where
  j0 : j ≤ xs.length
  ij : i < j
  len : ys.length = xs.length
  kept : ys.take i = (xs.take j).filter fun x => !nvW x
  rest : ys.drop j = xs.drop j
theorem DelI.start {xs : List Win} {j : Nat} (h1 : j < xs.length) (h2 : ∀ i, i < j → nvW (wAt xs i) = false) (h3 : nvW (wAt xs j) = true) : DelI xs j (j + 1) xs := by
  refine ⟨by omega, by omega, rfl, ?_, rfl⟩
  rw [List.take_succ_eq_append_getElem h1, List.filter_append, List.filter_eq_self.2 fun x hx => ?_]
  · rw [wAt_eq h1] at h3
    simp [h3]
  · obtain ⟨i, hi, rfl⟩ := List.getElem_of_mem hx
    rw [List.length_take] at hi
    have := h2 i (by omega)
    rw [wAt_eq (by omega)] at this
    simp [this]
theorem DelI.at_ {xs ys : List Win} {i j : Nat} (h : DelI xs i j ys) (hj : j < xs.length) : wAt ys j = wAt xs j := by
  have h1 : j < ys.length := by rw [h.len]; exact hj
  rw [wAt_eq hj, wAt_eq h1]
  have := congrArg (fun l => l[0]?) h.rest
  simpa [List.getElem?_drop, List.getElem?_eq_getElem hj, List.getElem?_eq_getElem h1] using this
theorem DelI.keep {xs ys : List Win} {i j : Nat} (h : DelI xs i j ys) (hj : j < xs.length) (hn : nvW (wAt xs j) = false) : DelI xs (i + 1) (j + 1) (ys.set i (wAt xs j)) := by
  have h1 : i < ys.length := by rw [h.len]; have := h.ij; omega
  refine ⟨by omega, by have := h.ij; omega, by rw [List.length_set, h.len], ?_, ?_⟩
  · rw [List.take_succ_eq_append_getElem (by rw [List.length_set]; exact h1), List.take_set_of_le (Nat.le_refl _), h.kept, List.take_succ_eq_append_getElem hj, List.filter_append]
    rw [wAt_eq hj] at hn ⊢
    simp [hn]
  · rw [List.drop_set_of_lt (by have := h.ij; omega), ← List.drop_drop, h.rest, List.drop_drop]
theorem DelI.skip {xs ys : List Win} {i j : Nat} (h : DelI xs i j ys) (hj : j < xs.length) (hn : nvW (wAt xs j) = true) : DelI xs i (j + 1) ys := by
  refine ⟨by omega, by have := h.ij; omega, h.len, ?_, ?_⟩
  · rw [h.kept, List.take_succ_eq_append_getElem hj, List.filter_append]
    rw [wAt_eq hj] at hn
    simp [hn]
  · rw [← List.drop_drop, h.rest, List.drop_drop]
theorem b_delNv (xs : List Win) (hl : xs.length ≤ 1099511627776) : DoesK Try.prog 1 33 [.sl 0 .win 0 xs.length, .fn 35 []] [.rows .win xs] (EndF 1 (.sl 0 .win 0 (xs.filter fun x => !nvW x).length) ([.rows .win (xs.filter fun x => !nvW x)] ++ [])) := by
  refine DoesK.close ?_
  rcases fstW_cases nvW xs with q | ⟨j0, g1, g2, g3⟩
  · have e1 : xs.filter (fun x => !nvW x) = xs := List.filter_eq_self.2 fun x hx => by rw [q x hx]; rfl
    have e2 := fstW_none (k := 0) q
    rw [e1]
    refine w_body (rs := [.tmp 4]) (tm := [.sl 0 .win 0 xs.length, .fn 35 [], .any, .any, .any, .any, .any, .any, .any, .any, .any, .any, .any, .any, .any, .any, .any, .any, .any, .any, .any, .any, .any, .any, .any, .any, .any, .any, .any, .any, .any, .any, .any, .any, .any, .any, .any, .any, .any, .any, .any, .any]) fn_33 rfl rfl rfl rfl fun R hR => ?_
    (have zx1 := @e2; all_goals (try ((first | (with_reducible refine wp_id ?_) | (with_reducible refine does_id ?_) | (with_reducible refine ops_id ?_)); refine walk ?_; (repeat' (first | exact trivial | with_reducible refine And.intro ?_ ?_)); all_goals (repeat (first | (with_reducible refine ImpB.mk fun hb => ?_) | (with_reducible refine ImpK.mk fun hK => ?_) | (with_reducible refine ImpF.mk fun hF => ?_) | (with_reducible refine ImpQ.mk fun hp => ?_) | (with_reducible refine AllE.mk fun p => ?_) | (with_reducible refine AllR.mk fun rest => ?_) | (with_reducible refine AllK.mk fun K => ?_))))); repeat' (with_reducible refine And.intro ?_ ?_))
    all_goals first | (exfalso; simp at hb; done) | skip
    (focus (refine ⟨_, _, Gh.refl, [0], rfl, ?_⟩; (refine ⟨?_, ?_, ?_⟩ <;> simp only [go_sem, List.range, List.range.loop, List.nodup_cons, List.nodup_nil, List.mem_cons, List.not_mem_nil, or_false, or_self, decide_true, decide_false, Int.reduceToNat, Nat.min_eq_left, Nat.min_eq_right, Int.reducePow, Nat.reducePow, Int.reduceLE, Int.reduceLT, Int.reduceMul, Int.reduceAdd, Int.reduceSub, Int.reduceNeg, Bool.not_true, Bool.not_false, Bool.not_not, ↓reduceIte, Nat.reduceAdd, Nat.reduceSub, Nat.reduceMul, Nat.reduceEqDiff, reduceCtorEq, Nat.reduceLT, Nat.reduceLeDiff, Nat.reduceGT]); (try any_goals (refine ⟨?_, ?_⟩)); (try any_goals (with_reducible rfl))))
  · have e2 := fstW_at (k := 0) g1 g2 g3
    rw [Nat.zero_add] at e2
    have d2 : decide ((j0 : Int) = -1) = false := decide_eq_false (by omega)
    have w0 : IntKind.i64.wrap ((j0 : Int) + 1) = ((j0 + 1 : Nat) : Int) := by rw [wrap_i64 _ (by omega) (by omega)]; omega
    refine w_body (rs := [.tmp 4]) (tm := [.sl 0 .win 0 xs.length, .fn 35 [], .any, .any, .any, .any, .any, .any, .any, .any, .any, .any, .any, .any, .any, .any, .any, .any, .any, .any, .any, .any, .any, .any, .any, .any, .any, .any, .any, .any, .any, .any, .any, .any, .any, .any, .any, .any, .any, .any, .any, .any]) fn_33 rfl rfl rfl rfl fun R hR => ?_
    (have zx1 := @e2; have zx2 := @d2; have zx3 := @w0; all_goals (try ((first | (with_reducible refine wp_id ?_) | (with_reducible refine does_id ?_) | (with_reducible refine ops_id ?_)); refine walk ?_; (repeat' (first | exact trivial | with_reducible refine And.intro ?_ ?_)); all_goals (repeat (first | (with_reducible refine ImpB.mk fun hb => ?_) | (with_reducible refine ImpK.mk fun hK => ?_) | (with_reducible refine ImpF.mk fun hF => ?_) | (with_reducible refine ImpQ.mk fun hp => ?_) | (with_reducible refine AllE.mk fun p => ?_) | (with_reducible refine AllR.mk fun rest => ?_) | (with_reducible refine AllK.mk fun K => ?_))))); repeat' (with_reducible refine And.intro ?_ ?_))
    any_goals ((try (refine w_seq fun K hK => ?_)); (try (refine w_block ?_)); refine w_loop (A := Nat × Nat × List Win) (fun p => DelI xs p.1 p.2.1 p.2.2) (fun p => xs.length - p.2.1) (fun p => [(5, .int .i64 p.1), (6, .int .i64 p.2.1)]) (fun p => [(0, .rows .win p.2.2)]) ((j0, j0 + 1, xs)) (ws := ?ws1) (tk := ?tk1) ?hw1 ?ht1 ?hi ?h0 ?LH1; (case hw1 => simp only [go_sem, decide_true, decide_false, Int.reduceToNat, Nat.min_eq_left, Nat.min_eq_right, Int.reducePow, Nat.reducePow, Int.reduceLE, Int.reduceLT, Int.reduceMul, Int.reduceAdd, Int.reduceSub, Int.reduceNeg, Bool.not_true, Bool.not_false, Bool.not_not, ↓reduceIte, Nat.reduceAdd, Nat.reduceSub, Nat.reduceMul, Nat.reduceEqDiff, reduceCtorEq, Nat.reduceLT, Nat.reduceLeDiff, Nat.reduceGT]; exact rfl); (case ht1 => simp only [go_sem, decide_true, decide_false, Int.reduceToNat, Nat.min_eq_left, Nat.min_eq_right, Int.reducePow, Nat.reducePow, Int.reduceLE, Int.reduceLT, Int.reduceMul, Int.reduceAdd, Int.reduceSub, Int.reduceNeg, Bool.not_true, Bool.not_false, Bool.not_not, ↓reduceIte, Nat.reduceAdd, Nat.reduceSub, Nat.reduceMul, Nat.reduceEqDiff, reduceCtorEq, Nat.reduceLT, Nat.reduceLeDiff, Nat.reduceGT]; exact rfl); (case' LH1 => rintro ⟨i, j, ys⟩ E t hx hE ht; simp only [go_sem] at ht; subst ht; simp only [go_sem]; try dsimp only at hx))
    case hi => exact .start g1 g2 g3
    case h0 => (focus (refine ⟨_, _, Gh.refl, [0], rfl, ?_⟩; (refine ⟨?_, ?_, ?_⟩ <;> simp only [go_sem, List.range, List.range.loop, List.nodup_cons, List.nodup_nil, List.mem_cons, List.not_mem_nil, or_false, or_self, decide_true, decide_false, Int.reduceToNat, Nat.min_eq_left, Nat.min_eq_right, Int.reducePow, Nat.reducePow, Int.reduceLE, Int.reduceLT, Int.reduceMul, Int.reduceAdd, Int.reduceSub, Int.reduceNeg, Bool.not_true, Bool.not_false, Bool.not_not, ↓reduceIte, Nat.reduceAdd, Nat.reduceSub, Nat.reduceMul, Nat.reduceEqDiff, reduceCtorEq, Nat.reduceLT, Nat.reduceLeDiff, Nat.reduceGT]); (try any_goals (refine ⟨?_, ?_⟩)); (try any_goals (with_reducible rfl))))
    case LH1 =>
      have hj0 := hx.j0
      have hij := hx.ij
      have hlen := hx.len
      have wj : IntKind.i64.wrap ((j : Int) + 1) = ((j + 1 : Nat) : Int) := by rw [wrap_i64 _ (by omega) (by omega)]; omega
      have wi : IntKind.i64.wrap ((i : Int) + 1) = ((i + 1 : Nat) : Int) := by rw [wrap_i64 _ (by omega) (by omega)]; omega
      by_cases hj : j < xs.length
      · have hjd : decide ((j : Int) < xs.length) = true := decide_eq_true (by omega)
        have hat : ys.getD j Win.zero = wAt xs j := hx.at_ hj
        cases hn : nvW (wAt xs j)
        · (have zx1 := @hjd; have zx2 := @hat; have zx3 := @hn; have zx4 := @wi; have zx5 := @wj; all_goals (try ((first | (with_reducible refine wp_id ?_) | (with_reducible refine does_id ?_) | (with_reducible refine ops_id ?_)); refine walk ?_; (repeat' (first | exact trivial | with_reducible refine And.intro ?_ ?_)); all_goals (repeat (first | (with_reducible refine ImpB.mk fun hb => ?_) | (with_reducible refine ImpK.mk fun hK => ?_) | (with_reducible refine ImpF.mk fun hF => ?_) | (with_reducible refine ImpQ.mk fun hp => ?_) | (with_reducible refine AllE.mk fun p => ?_) | (with_reducible refine AllR.mk fun rest => ?_) | (with_reducible refine AllK.mk fun K => ?_))))); repeat' (with_reducible refine And.intro ?_ ?_))
          all_goals first | exact Int.natCast_nonneg _ | exact Int.ofNat_lt.2 hj | omega | (unfold capM; omega) | skip
          refine ⟨(i + 1, j + 1, ys.set i (wAt xs j)), ⟨hx.keep hj hn, by first | omega | (dsimp only; omega)⟩, ?m1⟩
          (focus (refine ⟨_, _, Gh.refl, [0], rfl, ?_⟩; (refine ⟨?_, ?_, ?_⟩ <;> simp only [go_sem, List.range, List.range.loop, List.nodup_cons, List.nodup_nil, List.mem_cons, List.not_mem_nil, or_false, or_self, decide_true, decide_false, Int.reduceToNat, Nat.min_eq_left, Nat.min_eq_right, Int.reducePow, Nat.reducePow, Int.reduceLE, Int.reduceLT, Int.reduceMul, Int.reduceAdd, Int.reduceSub, Int.reduceNeg, Bool.not_true, Bool.not_false, Bool.not_not, ↓reduceIte, Nat.reduceAdd, Nat.reduceSub, Nat.reduceMul, Nat.reduceEqDiff, reduceCtorEq, Nat.reduceLT, Nat.reduceLeDiff, Nat.reduceGT]); (try any_goals (refine ⟨?_, ?_⟩)); (try any_goals (with_reducible rfl))))
        · (have zx1 := @hjd; have zx2 := @hat; have zx3 := @hn; have zx4 := @wi; have zx5 := @wj; all_goals (try ((first | (with_reducible refine wp_id ?_) | (with_reducible refine does_id ?_) | (with_reducible refine ops_id ?_)); refine walk ?_; (repeat' (first | exact trivial | with_reducible refine And.intro ?_ ?_)); all_goals (repeat (first | (with_reducible refine ImpB.mk fun hb => ?_) | (with_reducible refine ImpK.mk fun hK => ?_) | (with_reducible refine ImpF.mk fun hF => ?_) | (with_reducible refine ImpQ.mk fun hp => ?_) | (with_reducible refine AllE.mk fun p => ?_) | (with_reducible refine AllR.mk fun rest => ?_) | (with_reducible refine AllK.mk fun K => ?_))))); repeat' (with_reducible refine And.intro ?_ ?_))
          all_goals first | exact Int.natCast_nonneg _ | exact Int.ofNat_lt.2 hj | omega | (unfold capM; omega) | skip
          refine ⟨(i, j + 1, ys), ⟨hx.skip hj hn, by first | omega | (dsimp only; omega)⟩, ?m2⟩
          (focus (refine ⟨_, _, Gh.refl, [0], rfl, ?_⟩; (refine ⟨?_, ?_, ?_⟩ <;> simp only [go_sem, List.range, List.range.loop, List.nodup_cons, List.nodup_nil, List.mem_cons, List.not_mem_nil, or_false, or_self, decide_true, decide_false, Int.reduceToNat, Nat.min_eq_left, Nat.min_eq_right, Int.reducePow, Nat.reducePow, Int.reduceLE, Int.reduceLT, Int.reduceMul, Int.reduceAdd, Int.reduceSub, Int.reduceNeg, Bool.not_true, Bool.not_false, Bool.not_not, ↓reduceIte, Nat.reduceAdd, Nat.reduceSub, Nat.reduceMul, Nat.reduceEqDiff, reduceCtorEq, Nat.reduceLT, Nat.reduceLeDiff, Nat.reduceGT]); (try any_goals (refine ⟨?_, ?_⟩)); (try any_goals (with_reducible rfl))))
      · have hjd : decide ((j : Int) < xs.length) = false := decide_eq_false (by omega)
        (have zx1 := @hjd; all_goals (try ((first | (with_reducible refine wp_id ?_) | (with_reducible refine does_id ?_) | (with_reducible refine ops_id ?_)); refine walk ?_; (repeat' (first | exact trivial | with_reducible refine And.intro ?_ ?_)); all_goals (repeat (first | (with_reducible refine ImpB.mk fun hb => ?_) | (with_reducible refine ImpK.mk fun hK => ?_) | (with_reducible refine ImpF.mk fun hF => ?_) | (with_reducible refine ImpQ.mk fun hp => ?_) | (with_reducible refine AllE.mk fun p => ?_) | (with_reducible refine AllR.mk fun rest => ?_) | (with_reducible refine AllK.mk fun K => ?_))))); repeat' (with_reducible refine And.intro ?_ ?_))
        all_goals first | exact Int.natCast_nonneg _ | exact Int.ofNat_lt.2 hj | omega | (unfold capM; omega) | skip
        have hk := hx.kept
        rw [List.take_of_length_le (l := xs) (by omega)] at hk
        have hkl := congrArg List.length hk
        rw [List.length_take] at hkl
        rw [← hk]
        (focus (refine ⟨_, _, Gh.refl, [0], rfl, ?_⟩; (refine ⟨?_, ?_, ?_⟩ <;> simp only [go_sem, List.range, List.range.loop, List.nodup_cons, List.nodup_nil, List.mem_cons, List.not_mem_nil, or_false, or_self, decide_true, decide_false, Int.reduceToNat, Nat.min_eq_left, Nat.min_eq_right, Int.reducePow, Nat.reducePow, Int.reduceLE, Int.reduceLT, Int.reduceMul, Int.reduceAdd, Int.reduceSub, Int.reduceNeg, Bool.not_true, Bool.not_false, Bool.not_not, ↓reduceIte, Nat.reduceAdd, Nat.reduceSub, Nat.reduceMul, Nat.reduceEqDiff, reduceCtorEq, Nat.reduceLT, Nat.reduceLeDiff, Nat.reduceGT]); (try any_goals (refine ⟨?_, ?_⟩)); (try any_goals (with_reducible rfl))))
        omega
theorem c_delNv {h : List Ch} {K : KT} {xs : List Win} {t n : Nat} (H : K (.sl t .win 0 (xs.filter fun x => !nvW x).length) (h.set t (.rows .win (xs.filter fun x => !nvW x)))) (o : hth h t = .rows .win xs) (s1 : n = xs.length) (s2 : xs.length ≤ 1099511627776) : Does Try.prog 33 [.sl t .win 0 n, .fn 35 []] h K := by
  subst s1
  exact frame_obj0 (b_delNv xs s2) o (by simp) (fitC_rows _ _) (br_cons (br_own rfl) (br_cons br_fn br_nil)) (.inl rfl) (fun _ => rfl) rfl H
abbrev i_delNv := Ctr.mk (i := 0) (g := 33) @c_delNv
attribute [instance] i_delNv
def encW (x : Win) : List Value := [.int .i64 x.st, .int .i64 x.from_, .int .i64 x.to_, .int .i64 x.va]
instance : Inhabited Win := ⟨Win.zero⟩
theorem decR_win (R : RO) (x : Win) (cs : List Value) (h : LRel R [] (Ety.enc .win x) cs) : ∃ a : Win, encW a = cs := by
  cases h with
  | cons h1 h2 =>
    cases h1
    cases h2 with
    | cons h3 h4 =>
      cases h3
      cases h4 with
      | cons h5 h6 =>
        cases h5
        cases h6 with
        | cons h7 h8 =>
          cases h7
          cases h8
          exact ⟨x, rfl⟩
theorem eq_win {R : RO} {x a : Win} (h : LRel R [] (Ety.enc .win x) (encW a)) : a.from_ = x.from_ ∧ a.to_ = x.to_ := by
  obtain ⟨v1, e1, h1⟩ := h.get 1 rfl
  obtain ⟨v2, e2, h2⟩ := h.get 2 rfl
  cases e1; cases e2
  exact ⟨rel_int h1, rel_int h2⟩
theorem ltT (x y : Win) : ltOf (fun x y : Win => Lib.compareInt x.to_ y.to_) x y = decide (x.to_ < y.to_) := by
  unfold ltOf Lib.compareInt
  by_cases h1 : x.to_ < y.to_
  · simp [h1]
  · by_cases h2 : y.to_ < x.to_ <;> simp [h1, h2]
theorem swoT : SWO (ltOf fun x y : Win => Lib.compareInt x.to_ y.to_) where
  irrefl x := by rw [ltT]; simp
  trans x y z h1 h2 := by rw [ltT] at *; simp at *; omega
  ntrans x y z h1 h2 := by rw [ltT] at *; simp at *; omega
theorem closureT (x y : Win) (W : World) : Calls Try.prog 40 #[.agg #[.int .i64 x.st, .int .i64 x.from_, .int .i64 x.to_, .int .i64 x.va], .agg #[.int .i64 y.st, .int .i64 y.from_, .int .i64 y.to_, .int .i64 y.va]] W fun e w' => e = .returned (.int .i64 (Lib.compareInt x.to_ y.to_)) ∧ ∃ q os', w' = grow (W.drewN q) os' := by
  have hcon := fun W' => AnyG.cmp_Compare_int Try.cmpInt x.to_ y.to_ W'
  change ∀ W', Calls Try.prog 38 _ _ _ at hcon
  generalize Lib.compareInt x.to_ y.to_ = r at hcon ⊢
  go_enter Try.func40, Try.ntmps40
  go_wp2_with (go_at_call 38; refine (hcon _).mono ?_; rintro e w' ⟨rfl, rfl⟩)
  go_ret
  exact ⟨rfl, 0, _, by rw [alloc_eq_grow, alloc_eq_grow, grow_grow]; rfl⟩
theorem cmpLaysT (blk off size : Nat) (w : World) : CmpLays Try.prog 40 #[] encW 4 (fun x y => Lib.compareInt x.to_ y.to_) blk off size w :=
  fun _ _ _ _ x y => closureT x y _
theorem sortT_runs (blk off cap : Nat) (d : Array Win) (w : World) (hH : HoldsK encW 4 w blk off d) (hblk : blk < w.heap.size) (hsz : d.size < 4611686018427387904) :
    Calls Try.prog 36 #[.slice (some ⟨blk, off, none⟩) d.size cap, .func (.func 40) #[] #[]] w fun e w' => e = .returned (.tuple #[]) ∧ ∃ d' n os, PermIn 0 d.size d d' ∧ SortedIn (ltOf fun x y : Win => Lib.compareInt x.to_ y.to_) 0 d.size d' ∧ w' = sortWorldK encW 4 w blk off n d' os := by
  have eg : ∀ args w, (callFunc 40 args).run Try.prog w = .ok (.enter 40 args) w := enters_of Try.func40 (by kernel_rfl) rfl
  exact AnyQ.slices_SortFunc Try.sortWin 4 Try.isAgg32 Try.sizeOf32 encW (fun _ => rfl) (fun x v hv => by simp [encW] at hv; rcases hv with rfl | rfl | rfl | rfl <;> rfl) (fun x y => Lib.compareInt x.to_ y.to_) swoT 40 #[] blk off cap d w eg (cmpLaysT blk off d.size w) hH hblk hsz
theorem c_sortT {h : List Ch} {K : KT} {t : Nat} {xs : List Win} {n : Nat} (H : ∀ ys : List Win, ys.Perm xs → (ys.Pairwise fun r s => r.to_ ≤ s.to_) → K (.tup []) (h.set t (.rows .win ys))) (o : hth h t = .rows .win xs) (s1 : n = xs.length) (s2 : xs.length ≤ 1099511627776) : Does Try.prog 36 [.sl t .win 0 n, .fn 40 []] h K := -- nocall
  sort_cmpK (e := .win) ⟨_, fn_36, rfl, rfl⟩ (enc := encW) (fun _ => rfl) (cf := fun x y => Lib.compareInt x.to_ y.to_) (lt := fun x y => decide (x.to_ < y.to_)) decR_win
    (fun R x y a b h1 h2 => by
      rw [ltT, (eq_win h1).2, (eq_win h2).2])
    sortT_runs (fun p cap w => AnyF.slices_SortFunc_none (L := { Try.sortWin with }) p cap _ w) s1 s2 (fun ys h1 h2 => H ys h1 (h2.imp fun h => by simpa using h)) o
theorem ltF (x y : Win) : ltOf (fun x y : Win => Lib.compareInt x.from_ y.from_) x y = decide (x.from_ < y.from_) := by
  unfold ltOf Lib.compareInt
  by_cases h1 : x.from_ < y.from_
  · simp [h1]
  · by_cases h2 : y.from_ < x.from_ <;> simp [h1, h2]
theorem swoF : SWO (ltOf fun x y : Win => Lib.compareInt x.from_ y.from_) where
  irrefl x := by rw [ltF]; simp
  trans x y z h1 h2 := by rw [ltF] at *; simp at *; omega
  ntrans x y z h1 h2 := by rw [ltF] at *; simp at *; omega
theorem closureF (x y : Win) (W : World) : Calls Try.prog 37 #[.agg #[.int .i64 x.st, .int .i64 x.from_, .int .i64 x.to_, .int .i64 x.va], .agg #[.int .i64 y.st, .int .i64 y.from_, .int .i64 y.to_, .int .i64 y.va]] W fun e w' => e = .returned (.int .i64 (Lib.compareInt x.from_ y.from_)) ∧ ∃ q os', w' = grow (W.drewN q) os' := by
  have hcon := fun W' => AnyG.cmp_Compare_int Try.cmpInt x.from_ y.from_ W'
  change ∀ W', Calls Try.prog 38 _ _ _ at hcon
  generalize Lib.compareInt x.from_ y.from_ = r at hcon ⊢
  go_enter Try.func37, Try.ntmps37
  go_wp2_with (go_at_call 38; refine (hcon _).mono ?_; rintro e w' ⟨rfl, rfl⟩)
  go_ret
  exact ⟨rfl, 0, _, by rw [alloc_eq_grow, alloc_eq_grow, grow_grow]; rfl⟩
theorem cmpLaysF (blk off size : Nat) (w : World) : CmpLays Try.prog 37 #[] encW 4 (fun x y => Lib.compareInt x.from_ y.from_) blk off size w :=
  fun _ _ _ _ x y => closureF x y _
theorem sortF_runs (blk off cap : Nat) (d : Array Win) (w : World) (hH : HoldsK encW 4 w blk off d) (hblk : blk < w.heap.size) (hsz : d.size < 4611686018427387904) :
    Calls Try.prog 36 #[.slice (some ⟨blk, off, none⟩) d.size cap, .func (.func 37) #[] #[]] w fun e w' => e = .returned (.tuple #[]) ∧ ∃ d' n os, PermIn 0 d.size d d' ∧ SortedIn (ltOf fun x y : Win => Lib.compareInt x.from_ y.from_) 0 d.size d' ∧ w' = sortWorldK encW 4 w blk off n d' os := by
  have eg : ∀ args w, (callFunc 37 args).run Try.prog w = .ok (.enter 37 args) w := enters_of Try.func37 (by kernel_rfl) rfl
  exact AnyQ.slices_SortFunc Try.sortWin 4 Try.isAgg32 Try.sizeOf32 encW (fun _ => rfl) (fun x v hv => by simp [encW] at hv; rcases hv with rfl | rfl | rfl | rfl <;> rfl) (fun x y => Lib.compareInt x.from_ y.from_) swoF 37 #[] blk off cap d w eg (cmpLaysF blk off d.size w) hH hblk hsz
theorem c_sortF {h : List Ch} {K : KT} {t : Nat} {xs : List Win} {n : Nat} (H : ∀ ys : List Win, ys.Perm xs → (ys.Pairwise fun r s => r.from_ ≤ s.from_) → K (.tup []) (h.set t (.rows .win ys))) (o : hth h t = .rows .win xs) (s1 : n = xs.length) (s2 : xs.length ≤ 1099511627776) : Does Try.prog 36 [.sl t .win 0 n, .fn 37 []] h K := -- nocall
  sort_cmpK (e := .win) ⟨_, fn_36, rfl, rfl⟩ (enc := encW) (fun _ => rfl) (cf := fun x y => Lib.compareInt x.from_ y.from_) (lt := fun x y => decide (x.from_ < y.from_)) decR_win
    (fun R x y a b h1 h2 => by
      rw [ltF, (eq_win h1).1, (eq_win h2).1])
    sortF_runs (fun p cap w => AnyF.slices_SortFunc_none (L := { Try.sortWin with }) p cap _ w) s1 s2 (fun ys h1 h2 => H ys h1 (h2.imp fun h => by simpa using h)) o
end Go.V

set_option maxRecDepth 100000
set_option maxHeartbeats 4000000
namespace Go.V
open Go.Proofs
theorem take_nextR {l : List Rng} {k : Nat} (hk : k < l.length) : l.take (k + 1) = l.take k ++ [rAt l k] := by
  rw [List.take_succ_eq_append_getElem hk]
  simp [rAt, List.getD_eq_getElem?_getD, List.getElem?_eq_getElem hk]
def joinW (d : List Win) (k : Nat) : List Rng := ((d.take k).map rngW).foldl joinS []
theorem joinW_next {d : List Win} {k : Nat} (hk : k < d.length) : joinW d (k + 1) = joinS (joinW d k) (rngW (wAt d k)) := by
  unfold joinW
  rw [take_snocW hk, List.map_append, List.foldl_append]; rfl
theorem joinS_lenW (out : List Rng) (r : Rng) : (joinS out r).length ≤ out.length + 1 := by
  unfold joinS
  split <;> simp
theorem joinW_len (d : List Win) : ∀ k, k ≤ d.length → (joinW d k).length ≤ k
  | 0, _ => by simp [joinW]
  | k + 1, h => by
    have h1 := joinW_len d k (by omega)
    have h2 := joinS_lenW (joinW d k) (rngW (wAt d k))
    rw [joinW_next (by omega)]
    omega
theorem nv_filter (l : List Win) : l.filter (fun x => !nvW x) = l.filter vldW := by
  congr 1
  funext x
  unfold nvW
  exact Bool.not_not _
theorem b_merge (l : List Win) (hl : l.length ≤ 1000000000) : DoesK Try.prog 0 16 [.ro .win l] [] (EndF 0 (.ro .rng (mrgW l)) []) := by
  refine DoesK.close ?_
  obtain ⟨f, hf⟩ : ∃ f, l.filter (fun x => !nvW x) = f := ⟨_, rfl⟩
  have hfl : f.length ≤ l.length := by rw [← hf]; exact List.length_filter_le _ _
  have hall : ∀ d : List Win, d.Perm f → (d.Pairwise fun r s => r.from_ ≤ s.from_) → joinW d d.length = mrgW l := fun d h1 h2 => by
    rw [← hf, nv_filter] at h1
    unfold joinW
    rw [List.take_length]
    exact mrg_join h1 h2
  obtain ⟨g, hg⟩ : ∃ g, mrgW l = g := ⟨_, rfl⟩
  rw [hg] at hall ⊢
  refine w_body (rs := [.tmp 2]) (tm := [.ro .win l, .any, .any, .any, .any, .any, .any, .any, .any, .any, .any, .any, .any, .any, .any, .any, .any, .any, .any, .any, .any, .any, .any, .any, .any, .any, .any, .any, .any, .any, .any, .any, .any, .any, .any, .any, .any, .any, .any, .any, .any, .any, .any, .any, .any, .any, .any, .any, .any, .any, .any, .any, .any, .any, .any, .any, .any, .any]) fn_16 rfl rfl rfl rfl fun R hR => ?_
  (have zx1 := @hf; all_goals (try ((first | (with_reducible refine wp_id ?_) | (with_reducible refine does_id ?_) | (with_reducible refine ops_id ?_)); refine walk ?_; (repeat' (first | exact trivial | with_reducible refine And.intro ?_ ?_)); all_goals (repeat (first | (with_reducible refine ImpB.mk fun hb => ?_) | (with_reducible refine ImpK.mk fun hK => ?_) | (with_reducible refine ImpF.mk fun hF => ?_) | (with_reducible refine ImpQ.mk fun hp => ?_) | (with_reducible refine AllE.mk fun p => ?_) | (with_reducible refine AllR.mk fun rest => ?_) | (with_reducible refine AllK.mk fun K => ?_))))); repeat' (with_reducible refine And.intro ?_ ?_))
  refine c_sortF (xs := f) (fun d hp hs => ?_) rfl rfl (by omega)
  have hdl := hp.length_eq
  have hend := hall d hp hs
  refine hK _ _ ?_
  (intro tm' e'; simp only [putA, List.set_cons_succ, List.set_cons_zero] at e'; subst e')
  simp only [go_sem, decide_true, decide_false, Int.reduceToNat, Nat.min_eq_left, Nat.min_eq_right, Int.reducePow, Nat.reducePow, Int.reduceLE, Int.reduceLT, Int.reduceMul, Int.reduceAdd, Int.reduceSub, Int.reduceNeg, Bool.not_true, Bool.not_false, Bool.not_not, ↓reduceIte, Nat.reduceAdd, Nat.reduceSub, Nat.reduceMul, Nat.reduceEqDiff, reduceCtorEq, Nat.reduceLT, Nat.reduceLeDiff, Nat.reduceGT]
  (all_goals (try ((first | (with_reducible refine wp_id ?_) | (with_reducible refine does_id ?_) | (with_reducible refine ops_id ?_)); refine walk ?_; (repeat' (first | exact trivial | with_reducible refine And.intro ?_ ?_)); all_goals (repeat (first | (with_reducible refine ImpB.mk fun hb => ?_) | (with_reducible refine ImpK.mk fun hK => ?_) | (with_reducible refine ImpF.mk fun hF => ?_) | (with_reducible refine ImpQ.mk fun hp => ?_) | (with_reducible refine AllE.mk fun p => ?_) | (with_reducible refine AllR.mk fun rest => ?_) | (with_reducible refine AllK.mk fun K => ?_))))); repeat' (with_reducible refine And.intro ?_ ?_))
  refine Wp.ghost (gh_adopt (s := 4) .rng trivial) ?_
  simp only [go_sem, decide_true, decide_false, Int.reduceToNat, Nat.min_eq_left, Nat.min_eq_right, Int.reducePow, Nat.reducePow, Int.reduceLE, Int.reduceLT, Int.reduceMul, Int.reduceAdd, Int.reduceSub, Int.reduceNeg, Bool.not_true, Bool.not_false, Bool.not_not, ↓reduceIte, Nat.reduceAdd, Nat.reduceSub, Nat.reduceMul, Nat.reduceEqDiff, reduceCtorEq, Nat.reduceLT, Nat.reduceLeDiff, Nat.reduceGT]
  any_goals ((try (refine w_seq fun K hK => ?_)); (try (refine w_block ?_)); refine w_loop (A := Nat) (fun k => k ≤ d.length) (fun k => d.length - k) (fun k => [(4, .sl 1 .rng 0 (joinW d k).length), (15, .int .i64 k)]) (fun k => [(1, .rows .rng (joinW d k))]) (0) (ws := ?ws1) (tk := ?tk1) ?hw1 ?ht1 ?hi ?h0 ?LH1; (case hw1 => simp only [go_sem, decide_true, decide_false, Int.reduceToNat, Nat.min_eq_left, Nat.min_eq_right, Int.reducePow, Nat.reducePow, Int.reduceLE, Int.reduceLT, Int.reduceMul, Int.reduceAdd, Int.reduceSub, Int.reduceNeg, Bool.not_true, Bool.not_false, Bool.not_not, ↓reduceIte, Nat.reduceAdd, Nat.reduceSub, Nat.reduceMul, Nat.reduceEqDiff, reduceCtorEq, Nat.reduceLT, Nat.reduceLeDiff, Nat.reduceGT]; exact rfl); (case ht1 => simp only [go_sem, decide_true, decide_false, Int.reduceToNat, Nat.min_eq_left, Nat.min_eq_right, Int.reducePow, Nat.reducePow, Int.reduceLE, Int.reduceLT, Int.reduceMul, Int.reduceAdd, Int.reduceSub, Int.reduceNeg, Bool.not_true, Bool.not_false, Bool.not_not, ↓reduceIte, Nat.reduceAdd, Nat.reduceSub, Nat.reduceMul, Nat.reduceEqDiff, reduceCtorEq, Nat.reduceLT, Nat.reduceLeDiff, Nat.reduceGT]; exact rfl); (case' LH1 => rintro k E t hx hE ht; simp only [go_sem] at ht; subst ht; simp only [go_sem]; try dsimp only at hx))
  case hi => exact Nat.zero_le _
  case h0 =>
    (focus (refine ⟨_, _, Gh.refl, [0, 1], rfl, ?_⟩; (refine ⟨?_, ?_, ?_⟩ <;> simp only [go_sem, List.range, List.range.loop, List.nodup_cons, List.nodup_nil, List.mem_cons, List.not_mem_nil, or_false, or_self, decide_true, decide_false, Int.reduceToNat, Nat.min_eq_left, Nat.min_eq_right, Int.reducePow, Nat.reducePow, Int.reduceLE, Int.reduceLT, Int.reduceMul, Int.reduceAdd, Int.reduceSub, Int.reduceNeg, Bool.not_true, Bool.not_false, Bool.not_not, ↓reduceIte, Nat.reduceAdd, Nat.reduceSub, Nat.reduceMul, Nat.reduceEqDiff, reduceCtorEq, Nat.reduceLT, Nat.reduceLeDiff, Nat.reduceGT]); (try any_goals (refine ⟨?_, ?_⟩)); (try any_goals (with_reducible rfl))))
    all_goals rfl
  case LH1 =>
    have hw : IntKind.i64.wrap ((k : Int) + 1) = ((k + 1 : Nat) : Int) := by rw [wrap_i64 _ (by omega) (by omega)]; omega
    by_cases hk : k < d.length
    · have hkd : decide ((k : Int) < f.length) = true := decide_eq_true (by omega)
      have hn := joinW_next hk
      have hol := joinW_len d k hx
      obtain ⟨out, hout⟩ : ∃ out, joinW d k = out := ⟨_, rfl⟩
      rw [hout] at hn hol ⊢
      by_cases c0 : 0 < out.length
      · have d0 : decide ((0 : Int) < out.length) = true := decide_eq_true (by omega)
        have w1 : IntKind.i64.wrap ((out.length : Int) - 1) = ((out.length - 1 : Nat) : Int) := by rw [wrap_i64 _ (by omega) (by omega)]; omega
        have hl1 : out.length - 1 < out.length := by omega
        by_cases c1 : (wAt d k).from_ ≤ (rAt out (out.length - 1)).to_
        · have d1 : decide ((wAt d k).from_ ≤ (rAt out (out.length - 1)).to_) = true := decide_eq_true c1
          have hj : joinS out (rngW (wAt d k)) = out.set (out.length - 1) ⟨(rAt out (out.length - 1)).from_, max (rAt out (out.length - 1)).to_ (wAt d k).to_⟩ := by unfold joinS; rw [if_pos ⟨c0, c1⟩]; rfl
          (have zx1 := @hkd; have zx2 := @d0; have zx3 := @w1; have zx4 := @d1; all_goals (try ((first | (with_reducible refine wp_id ?_) | (with_reducible refine does_id ?_) | (with_reducible refine ops_id ?_)); refine walk ?_; (repeat' (first | exact trivial | with_reducible refine And.intro ?_ ?_)); all_goals (repeat (first | (with_reducible refine ImpB.mk fun hb => ?_) | (with_reducible refine ImpK.mk fun hK => ?_) | (with_reducible refine ImpF.mk fun hF => ?_) | (with_reducible refine ImpQ.mk fun hp => ?_) | (with_reducible refine AllE.mk fun p => ?_) | (with_reducible refine AllR.mk fun rest => ?_) | (with_reducible refine AllK.mk fun K => ?_))))); repeat' (with_reducible refine And.intro ?_ ?_))
          (all_goals first | exact Int.natCast_nonneg _ | exact Int.ofNat_lt.2 (by assumption) | assumption | omega | exact Nat.le_refl _ | (exfalso; simp at hb; done) | (simp only [go_sem, decide_true, decide_false, Int.reduceToNat, Nat.min_eq_left, Nat.min_eq_right, Int.reducePow, Nat.reducePow, Int.reduceLE, Int.reduceLT, Int.reduceMul, Int.reduceAdd, Int.reduceSub, Int.reduceNeg, Bool.not_true, Bool.not_false, Bool.not_not, ↓reduceIte, Nat.reduceAdd, Nat.reduceSub, Nat.reduceMul, Nat.reduceEqDiff, reduceCtorEq, Nat.reduceLT, Nat.reduceLeDiff, Nat.reduceGT]; done) | (unfold capM; omega) | (simp only [List.length_drop, List.length_take, List.length_append, List.length_cons, List.length_nil]; omega) | skip)
          refine ⟨k + 1, ⟨by first | omega | (dsimp only; omega), by first | omega | (dsimp only; omega)⟩, ?_⟩
          (focus (refine ⟨_, _, Gh.refl, [0, 1], rfl, ?_⟩; (refine ⟨?_, ?_, ?_⟩ <;> simp only [go_sem, List.range, List.range.loop, List.nodup_cons, List.nodup_nil, List.mem_cons, List.not_mem_nil, or_false, or_self, decide_true, decide_false, Int.reduceToNat, Nat.min_eq_left, Nat.min_eq_right, Int.reducePow, Nat.reducePow, Int.reduceLE, Int.reduceLT, Int.reduceMul, Int.reduceAdd, Int.reduceSub, Int.reduceNeg, Bool.not_true, Bool.not_false, Bool.not_not, ↓reduceIte, Nat.reduceAdd, Nat.reduceSub, Nat.reduceMul, Nat.reduceEqDiff, reduceCtorEq, Nat.reduceLT, Nat.reduceLeDiff, Nat.reduceGT]); (try any_goals (refine ⟨?_, ?_⟩)); (try any_goals (with_reducible rfl))))
          all_goals first | exact hw.symm | (rw [hn, hj]; first | done | rfl | simp) | skip
        · have d1 : decide ((wAt d k).from_ ≤ (rAt out (out.length - 1)).to_) = false := decide_eq_false c1
          have hj : joinS out (rngW (wAt d k)) = out ++ [⟨(wAt d k).from_, (wAt d k).to_⟩] := by unfold joinS; rw [if_neg (fun q => c1 q.2)]; rfl
          (have zx1 := @hkd; have zx2 := @d0; have zx3 := @w1; have zx4 := @d1; all_goals (try ((first | (with_reducible refine wp_id ?_) | (with_reducible refine does_id ?_) | (with_reducible refine ops_id ?_)); refine walk ?_; (repeat' (first | exact trivial | with_reducible refine And.intro ?_ ?_)); all_goals (repeat (first | (with_reducible refine ImpB.mk fun hb => ?_) | (with_reducible refine ImpK.mk fun hK => ?_) | (with_reducible refine ImpF.mk fun hF => ?_) | (with_reducible refine ImpQ.mk fun hp => ?_) | (with_reducible refine AllE.mk fun p => ?_) | (with_reducible refine AllR.mk fun rest => ?_) | (with_reducible refine AllK.mk fun K => ?_))))); repeat' (with_reducible refine And.intro ?_ ?_))
          (all_goals first | exact Int.natCast_nonneg _ | exact Int.ofNat_lt.2 (by assumption) | assumption | omega | exact Nat.le_refl _ | (exfalso; simp at hb; done) | (simp only [go_sem, decide_true, decide_false, Int.reduceToNat, Nat.min_eq_left, Nat.min_eq_right, Int.reducePow, Nat.reducePow, Int.reduceLE, Int.reduceLT, Int.reduceMul, Int.reduceAdd, Int.reduceSub, Int.reduceNeg, Bool.not_true, Bool.not_false, Bool.not_not, ↓reduceIte, Nat.reduceAdd, Nat.reduceSub, Nat.reduceMul, Nat.reduceEqDiff, reduceCtorEq, Nat.reduceLT, Nat.reduceLeDiff, Nat.reduceGT]; done) | (unfold capM; omega) | (simp only [List.length_drop, List.length_take, List.length_append, List.length_cons, List.length_nil]; omega) | skip)
          refine ⟨k + 1, ⟨by first | omega | (dsimp only; omega), by first | omega | (dsimp only; omega)⟩, ?_⟩
          (focus (refine ⟨_, _, Gh.refl, [0, 4], rfl, ?_⟩; (refine ⟨?_, ?_, ?_⟩ <;> simp only [go_sem, List.range, List.range.loop, List.nodup_cons, List.nodup_nil, List.mem_cons, List.not_mem_nil, or_false, or_self, decide_true, decide_false, Int.reduceToNat, Nat.min_eq_left, Nat.min_eq_right, Int.reducePow, Nat.reducePow, Int.reduceLE, Int.reduceLT, Int.reduceMul, Int.reduceAdd, Int.reduceSub, Int.reduceNeg, Bool.not_true, Bool.not_false, Bool.not_not, ↓reduceIte, Nat.reduceAdd, Nat.reduceSub, Nat.reduceMul, Nat.reduceEqDiff, reduceCtorEq, Nat.reduceLT, Nat.reduceLeDiff, Nat.reduceGT]); (try any_goals (refine ⟨?_, ?_⟩)); (try any_goals (with_reducible rfl))))
          all_goals first | exact hw.symm | (rw [hn, hj]; first | done | rfl | simp) | skip
      · have d0 : decide ((0 : Int) < out.length) = false := decide_eq_false (by omega)
        have hj : joinS out (rngW (wAt d k)) = out ++ [⟨(wAt d k).from_, (wAt d k).to_⟩] := by unfold joinS; rw [if_neg (fun q => c0 q.1)]; rfl
        (have zx1 := @hkd; have zx2 := @d0; all_goals (try ((first | (with_reducible refine wp_id ?_) | (with_reducible refine does_id ?_) | (with_reducible refine ops_id ?_)); refine walk ?_; (repeat' (first | exact trivial | with_reducible refine And.intro ?_ ?_)); all_goals (repeat (first | (with_reducible refine ImpB.mk fun hb => ?_) | (with_reducible refine ImpK.mk fun hK => ?_) | (with_reducible refine ImpF.mk fun hF => ?_) | (with_reducible refine ImpQ.mk fun hp => ?_) | (with_reducible refine AllE.mk fun p => ?_) | (with_reducible refine AllR.mk fun rest => ?_) | (with_reducible refine AllK.mk fun K => ?_))))); repeat' (with_reducible refine And.intro ?_ ?_))
        (all_goals first | exact Int.natCast_nonneg _ | exact Int.ofNat_lt.2 (by assumption) | assumption | omega | exact Nat.le_refl _ | (exfalso; simp at hb; done) | (simp only [go_sem, decide_true, decide_false, Int.reduceToNat, Nat.min_eq_left, Nat.min_eq_right, Int.reducePow, Nat.reducePow, Int.reduceLE, Int.reduceLT, Int.reduceMul, Int.reduceAdd, Int.reduceSub, Int.reduceNeg, Bool.not_true, Bool.not_false, Bool.not_not, ↓reduceIte, Nat.reduceAdd, Nat.reduceSub, Nat.reduceMul, Nat.reduceEqDiff, reduceCtorEq, Nat.reduceLT, Nat.reduceLeDiff, Nat.reduceGT]; done) | (unfold capM; omega) | (simp only [List.length_drop, List.length_take, List.length_append, List.length_cons, List.length_nil]; omega) | skip)
        refine ⟨k + 1, ⟨by first | omega | (dsimp only; omega), by first | omega | (dsimp only; omega)⟩, ?_⟩
        (focus (refine ⟨_, _, Gh.refl, [0, 4], rfl, ?_⟩; (refine ⟨?_, ?_, ?_⟩ <;> simp only [go_sem, List.range, List.range.loop, List.nodup_cons, List.nodup_nil, List.mem_cons, List.not_mem_nil, or_false, or_self, decide_true, decide_false, Int.reduceToNat, Nat.min_eq_left, Nat.min_eq_right, Int.reducePow, Nat.reducePow, Int.reduceLE, Int.reduceLT, Int.reduceMul, Int.reduceAdd, Int.reduceSub, Int.reduceNeg, Bool.not_true, Bool.not_false, Bool.not_not, ↓reduceIte, Nat.reduceAdd, Nat.reduceSub, Nat.reduceMul, Nat.reduceEqDiff, reduceCtorEq, Nat.reduceLT, Nat.reduceLeDiff, Nat.reduceGT]); (try any_goals (refine ⟨?_, ?_⟩)); (try any_goals (with_reducible rfl))))
        all_goals first | exact hw.symm | (rw [hn, hj]; first | done | rfl | simp) | skip
    · have hkd : decide ((k : Int) < f.length) = false := decide_eq_false (by omega)
      obtain rfl : k = d.length := by omega
      rw [hend]
      (have zx1 := @hkd; all_goals (try ((first | (with_reducible refine wp_id ?_) | (with_reducible refine does_id ?_) | (with_reducible refine ops_id ?_)); refine walk ?_; (repeat' (first | exact trivial | with_reducible refine And.intro ?_ ?_)); all_goals (repeat (first | (with_reducible refine ImpB.mk fun hb => ?_) | (with_reducible refine ImpK.mk fun hK => ?_) | (with_reducible refine ImpF.mk fun hF => ?_) | (with_reducible refine ImpQ.mk fun hp => ?_) | (with_reducible refine AllE.mk fun p => ?_) | (with_reducible refine AllR.mk fun rest => ?_) | (with_reducible refine AllK.mk fun K => ?_))))); repeat' (with_reducible refine And.intro ?_ ?_))
      refine end_ro rfl ?_ rfl ?_
      · rfl
      · simp only [go_sem, decide_true, decide_false, Int.reduceToNat, Nat.min_eq_left, Nat.min_eq_right, Int.reducePow, Nat.reducePow, Int.reduceLE, Int.reduceLT, Int.reduceMul, Int.reduceAdd, Int.reduceSub, Int.reduceNeg, Bool.not_true, Bool.not_false, Bool.not_not, ↓reduceIte, Nat.reduceAdd, Nat.reduceSub, Nat.reduceMul, Nat.reduceEqDiff, reduceCtorEq, Nat.reduceLT, Nat.reduceLeDiff, Nat.reduceGT]
theorem c_merge {h : List Ch} {K : KT} {l : List Win} {a : AV} (H : K (.ro .rng (mrgW l)) h) (q1 : isRO .win l a) (s1 : l.length ≤ 1000000000) : Does Try.prog 16 [a] h K :=
  frame_pure (b_merge l s1) (br_cons q1.br br_nil) (.inl (by simp only [brTL, q1.brT]; rfl)) (fun _ => rfl) H
abbrev i_merge := Ctr.mk (i := 0) (g := 16) @c_merge
attribute [instance] i_merge
end Go.V
