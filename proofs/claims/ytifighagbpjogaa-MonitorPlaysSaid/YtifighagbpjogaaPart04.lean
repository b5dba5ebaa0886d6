/-
  Rows that are frozen; literals of slices; min and max.
  Further builtins: slices cut to nothing without room, clear of a slice's end, append into the slice's own block.
-/
import Derived.Test.YtifighagbpjogaaPart03
import Derived.Laws.MakeOwn
set_option linter.unusedVariables false
set_option linter.unusedSimpArgs false
namespace Go.V

variable {P : Program} {R : RO} {μ : List Bind} {h : List Ch} {w : World}

def frz1 (a : AV) (h : List Ch) (K : AV → List Ch → Prop) : Prop :=
  match a with
  | .sl b e s n => (match hth h b with
    | .rows e' xs => (match asE e e' xs with
      | some xs => (s + n ≤ xs.length) ∧ K (.ro e ((xs.drop s).take n)) (h.set b .gone)
      | none => False)
    | _ => False)
  | a => K a h
def frzL : List AV → List Ch → (List AV → List Ch → Prop) → Prop
  | [], h, K => K [] h
  | a :: l, h, K => frz1 a h fun a h => frzL l h fun l h => K (a :: l) h
def frzX (x : AV) (h : List Ch) (K : AV → List Ch → Prop) : Prop :=
  match x with
  | .agg l => frzL l h fun l h => K (.agg l) h
  | x => frz1 x h K
def frzP : List (Nat × AV) → List Ch → (List (Nat × AV) → List Ch → Prop) → Prop
  | [], h, K => K [] h
  | (i, x) :: l, h, K => frzX x h fun x h => frzP l h fun l h => K ((i, x) :: l) h

/-- what a ghost step leaves -/
def Ghost (R : RO) (μ : List Bind) (h : List Ch) (w : World) (F : RO → List Ch → Prop) : Prop :=
  ∃ R' h', F R' h' ∧ HOk R' μ h' w ∧ R.le R' ∧ Step (ownH h μ) R w (ownH h' μ) R' w
theorem frz1_ok (H : HOk R μ h w) {a : AV} {v : Value} {K : AV → List Ch → Prop} (ha : Rel R μ a v) (hK : frz1 a h K) : Ghost R μ h w fun R' h' => ∃ a', K a' h' ∧ Rel R' μ a' v := by
  unfold frz1 at hK
  split at hK
  · rename_i b e s n
    split at hK
    · rename_i e' zs hc
      split at hK
      · rename_i xs hy
        obtain ⟨rfl, hy⟩ := asE_some hy
        change zs = xs at hy
        subst hy
        obtain ⟨hle, hK⟩ := hK
        obtain ⟨R', H', hst, hR, hf⟩ := H.freeze (hth_get hc (by simp))
        exact ⟨R', _, ⟨_, hK, hf s n v ha hle⟩, H', hR, hst⟩
      · exact hK.elim
    · exact hK.elim
  · exact ⟨R, h, ⟨a, hK, ha⟩, H, RO.le.refl R, Step.refl _ _ _⟩
theorem Ghost.next {F G : RO → List Ch → Prop} (g : Ghost R μ h w F) (k : ∀ R' h', F R' h' → HOk R' μ h' w → R.le R' → Ghost R' μ h' w G) : Ghost R μ h w G := by
  obtain ⟨R1, h1, f, H1, le1, st1⟩ := g
  obtain ⟨R2, h2, f2, H2, le2, st2⟩ := k R1 h1 f H1 le1
  exact ⟨R2, h2, f2, H2, le1.trans le2, st1.trans st2⟩
theorem frzL_ok : ∀ {l : List AV} {vs : List Value} {R : RO} {h : List Ch} {K : List AV → List Ch → Prop}, HOk R μ h w → LRel R μ l vs → frzL l h K → Ghost R μ h w fun R' h' => ∃ l', K l' h' ∧ LRel R' μ l' vs
  | [], _, R, h, K, H, hl, hK => by cases hl; exact ⟨R, h, ⟨[], hK, .nil⟩, H, RO.le.refl R, Step.refl _ _ _⟩
  | a :: l, _, R, h, K, H, hl, hK => by
    cases hl with
    | cons ha hl =>
      refine (frz1_ok H ha hK).next fun R1 h1 ⟨a', hK1, ha'⟩ H1 le1 => ?_
      refine (frzL_ok H1 (hl.mono le1 (Ext.refl μ)) hK1).next fun R2 h2 ⟨l', hK2, hl'⟩ H2 le2 => ?_
      exact ⟨R2, h2, ⟨_, hK2, .cons (ha'.mono le2 (Ext.refl μ)) hl'⟩, H2, RO.le.refl _, Step.refl _ _ _⟩
theorem frzX_ok (H : HOk R μ h w) {x : AV} {v : Value} {K : AV → List Ch → Prop} (hx : Rel R μ x v) (hK : frzX x h K) : Ghost R μ h w fun R' h' => ∃ x', K x' h' ∧ Rel R' μ x' v := by
  unfold frzX at hK
  split at hK
  · cases hx with
    | agg hl => exact (frzL_ok H hl hK).next fun R1 h1 ⟨l', hK1, hl'⟩ H1 le1 => ⟨R1, h1, ⟨_, hK1, .agg hl'⟩, H1, RO.le.refl _, Step.refl _ _ _⟩
  · exact frz1_ok H hx hK
theorem PRel.mono {R R' : RO} (hR : R.le R') : ∀ {l : List (Nat × AV)} {vs : List (Nat × Value)}, PRel R μ l vs → PRel R' μ l vs
  | _, _, .nil => .nil
  | _, _, .cons h hs => .cons (h.mono hR (Ext.refl μ)) (PRel.mono hR hs)
theorem frzP_ok : ∀ {l : List (Nat × AV)} {vs : List (Nat × Value)} {R : RO} {h : List Ch} {K : List (Nat × AV) → List Ch → Prop}, HOk R μ h w → PRel R μ l vs → frzP l h K → Ghost R μ h w fun R' h' => ∃ l', K l' h' ∧ PRel R' μ l' vs
  | [], _, R, h, K, H, hl, hK => by cases hl; exact ⟨R, h, ⟨[], hK, .nil⟩, H, RO.le.refl R, Step.refl _ _ _⟩
  | (i, a) :: l, _, R, h, K, H, hl, hK => by
    cases hl with
    | cons ha hl =>
      refine (frzX_ok H ha hK).next fun R1 h1 ⟨a', hK1, ha'⟩ H1 le1 => ?_
      refine (frzP_ok H1 (hl.mono le1) hK1).next fun R2 h2 ⟨l', hK2, hl'⟩ H2 le2 => ?_
      exact ⟨R2, h2, ⟨_, hK2, .cons (ha'.mono le2 (Ext.refl μ)) hl'⟩, H2, RO.le.refl _, Step.refl _ _ _⟩

/-- the elements of a slice literal, all of them in order -/
def elemsK (e : Ety) : List (Nat × AV) → Nat → (List e.T → Prop) → Prop
  | [], _, K => K []
  | (i, x) :: r, j, K => (match e.dec (cellsA x) with
    | some y => (i = j ∧ okCells (cellsA x) ∧ tfs (cellsA x) ∧ e.decOk (cellsA x)) ∧ elemsK e r (j + 1) fun ys => K (y :: ys)
    | none => False)
theorem setA_any : ∀ (l : List AV) (m : Nat), setA (List.replicate (l.length + m) .any) 0 l = l ++ List.replicate m .any
  | [], m => by simp [setA]
  | a :: l, m => by
    have h1 : List.replicate ((a :: l).length + m) AV.any = AV.any :: List.replicate (l.length + m) .any := by
      rw [List.length_cons, show l.length + 1 + m = (l.length + m) + 1 from by omega, List.replicate_succ]
    simp only [setA]
    rw [h1, List.set_cons_zero]
    have h2 := setA_right l [a] (List.replicate (l.length + m) .any) 0
    simp only [List.length_singleton, List.singleton_append] at h2
    rw [h2, setA_any l m]
    rfl
/-- cells that lie as these elements do -/
def AsRow (e : Ety) (zs : List AV) (ys : List e.T) : Prop := zs.length = ys.length * e.sz ∧ ∀ (R : RO) (μ : List Bind) (vs : List Value), LRel R μ zs vs → LRel R [] (ys.flatMap e.enc) vs
theorem AsRow.snoc {e : Ety} {A l : List AV} {pre : List e.T} {y : e.T} (h : AsRow e A pre) (hd : e.dec l = some y) (htf : tfs l) (ho : e.decOk l) : AsRow e (A ++ l) (pre ++ [y]) := by
  refine ⟨by rw [List.length_append, h.1, dec_len e l y hd, List.length_append, List.length_singleton, Nat.add_mul, Nat.one_mul], fun R μ vs hr => ?_⟩
  obtain ⟨us, us', rfl, h1, h2⟩ := hr.split
  rw [List.flatMap_append]
  refine (h.2 R μ us h1).app ?_
  have := e.dec_ok hd ho (h2.free (tfs_ok htf) [])
  simpa using this
theorem elems_fill {e : Ety} {K : List e.T → Prop} : ∀ (parts : List (Nat × AV)) (j m : Nat) (A : List AV) (pre : List e.T), AsRow e A pre → pre.length = j → m = parts.length → elemsK e parts j (fun ys => K (pre ++ ys)) →
    fillK (fun i => some (i * e.sz, e.sz)) (A ++ List.replicate (m * e.sz) .any) parts fun zs => ∃ ys, AsRow e zs ys ∧ ys.length = j + m ∧ K ys
  | [], j, m, A, pre, hA, hj, hm, h => by
    simp only [List.length_nil] at hm
    subst hm
    simp only [Nat.zero_mul, List.replicate_zero, List.append_nil, fillK]
    exact ⟨pre, hA, by omega, by simpa [elemsK] using h⟩
  | (i, x) :: r, j, m, A, pre, hA, hj, hm, h => by
    simp only [elemsK] at h
    split at h
    · rename_i y hy
      obtain ⟨⟨rfl, ho, htf, hd⟩, h⟩ := h
      have hlen : (cellsA x).length = e.sz := dec_len e _ y hy
      have hAl : A.length = i * e.sz := by rw [hA.1, hj]
      simp only [List.length_cons] at hm
      have hm' : m * e.sz = (cellsA x).length + r.length * e.sz := by rw [hm, hlen, Nat.succ_mul]; omega
      simp only [fillK]
      refine ⟨⟨hlen, by simp only [List.length_append, List.length_replicate, hAl, hm', hlen]; omega⟩, ho, ?_⟩
      rw [← hAl, show A.length = A.length + 0 from rfl, setA_right, hm', setA_any, ← List.append_assoc]
      have := elems_fill r (i + 1) r.length (A ++ cellsA x) (pre ++ [y]) (hA.snoc hy htf hd) (by simp [hj]) rfl (by simpa using h)
      rw [hm]
      simpa [Nat.add_assoc, Nat.add_comm 1] using this
    · exact h.elim

variable [ETab]
def bsK (P : Program) (t : TypeId) (n : Nat) (parts : List (Nat × AV)) (h : List Ch) (K : AV → List Ch → Prop) : Prop :=
  match kdT P t with
  | .slice el => (match ETab.of t with
    | some e => (szT P el = e.sz ∧ zlenT P el = e.sz ∧ n * e.sz ≤ 16777216 ∧ parts.length = n) ∧
      frzP parts h fun parts h => elemsK e parts 0 fun ys => K (.sl h.length e 0 n) (h ++ [.rows e ys])
    | none => False)
  | _ => False

omit [ETab] in
theorem frzP_len : ∀ (l : List (Nat × AV)) (h : List Ch) (K : List (Nat × AV) → List Ch → Prop), frzP l h K → frzP l h fun l' h' => l'.length = l.length ∧ K l' h' := by
  have m1 : ∀ (a : AV) (h : List Ch) (K K' : AV → List Ch → Prop), (∀ a h, K a h → K' a h) → frz1 a h K → frz1 a h K' := by
    intro a h K K' hk hh
    unfold frz1 at *
    split at hh
    · split at hh
      · split at hh
        · exact ⟨hh.1, hk _ _ hh.2⟩
        · exact hh
      · exact hh
    · exact hk _ _ hh
  have mL : ∀ (l : List AV) (h : List Ch) (K K' : List AV → List Ch → Prop), (∀ a h, K a h → K' a h) → frzL l h K → frzL l h K' := by
    intro l
    induction l with
    | nil => intro h K K' hk hh; exact hk _ _ hh
    | cons a l ih => intro h K K' hk hh; exact m1 a h _ _ (fun a h hh => ih h _ _ (fun l h hh => hk _ _ hh) hh) hh
  have mX : ∀ (x : AV) (h : List Ch) (K K' : AV → List Ch → Prop), (∀ a h, K a h → K' a h) → frzX x h K → frzX x h K' := by
    intro x h K K' hk hh
    unfold frzX at *
    split at hh
    · exact mL _ _ _ _ (fun l h hh => hk _ _ hh) hh
    · exact m1 _ _ _ _ hk hh
  intro l
  induction l with
  | nil => intro h K hh; exact ⟨rfl, hh⟩
  | cons p l ih =>
    intro h K hh
    obtain ⟨i, x⟩ := p
    refine mX x h _ _ (fun x h hh => ?_) hh
    have mP : ∀ (l : List (Nat × AV)) (h : List Ch) (K K' : List (Nat × AV) → List Ch → Prop), (∀ a h, K a h → K' a h) → frzP l h K → frzP l h K' := by
      intro l
      induction l with
      | nil => intro h K K' hk hh; exact hk _ _ hh
      | cons p l ih => intro h K K' hk hh; exact mX p.2 h _ _ (fun a h hh => ih h _ _ (fun l h hh => hk _ _ hh) hh) hh
    exact mP _ _ _ _ (fun l' h' hh => ⟨by simp [hh.1], hh.2⟩) (ih _ _ hh)

theorem bsK_ok (H : HOk R μ h w) {t : TypeId} {n : Nat} {parts : List (Nat × AV)} {vals : List (Nat × Value)} {K : AV → List Ch → Prop} (hp : PRel R μ parts vals) (hK : bsK P t n parts h K) : GivesH P R μ h w K (Instr.buildSlice t n vals.toArray) := by
  unfold bsK at hK
  split at hK
  · rename_i el hk
    split at hK
    · rename_i e he
      obtain ⟨⟨hsz, hzl, hn, hpl⟩, hK⟩ := hK
      obtain ⟨R1, h1, ⟨parts', ⟨hlen, hK1⟩, hp1⟩, H1, le1, st1⟩ := frzP_ok H hp (frzP_len _ _ _ hK)
      obtain ⟨i, hi, hisz, _⟩ := el_info hsz
      obtain ⟨i', z, hi', hz, hzs⟩ := zero_info hzl
      obtain rfl : i' = i := by rw [hi] at hi'; exact (Option.some.inj hi').symm
      have hfill := elems_fill (K := fun ys => K (.sl h1.length e 0 n) (h1 ++ [.rows e ys])) parts' 0 n [] [] ⟨by simp, fun R μ vs h => by cases h; exact .nil⟩ rfl (by rw [hlen, hpl]) (by simpa using hK1)
      generalize hzc : (if n * e.sz = 0 then #[] else z.cells : Array Value) = zc
      have hany : LRel R1 μ ([] ++ List.replicate (n * e.sz) .any) ((Array.range (n * e.sz)).map (zc[· % zc.size]!)).toList := by
        have key : ∀ (l : List Value), LRel R1 μ (List.replicate l.length .any) l := by
          intro l
          induction l with
          | nil => exact .nil
          | cons a l ih => exact .cons .any ih
        have := key ((Array.range (n * e.sz)).map (zc[· % zc.size]!)).toList
        simpa using this
      obtain ⟨zs', cs', ⟨ys, hrow, hyl, hK2⟩, hrel, hrun⟩ := fillK_ok _ _ _ _ hp1 hany hfill
      have hsz0 : szT P el ≠ 0 := by rw [hsz]; exact Nat.pos_iff_ne_zero.1 e.sz_pos
      have hr0 : LRel R1 [] (ys.flatMap e.enc) cs'.toList := hrow.2 _ _ _ hrel
      have hcl : cs'.size = n * e.sz := by
        rw [← Array.length_toList, ← hr0.len, flat_len, hyl, Nat.zero_add]
      have hyn : ys.length = n := by omega
      have hcm : n ≤ maxLen := by
        have := e.sz_pos
        have h2 : n ≤ n * e.sz := Nat.le_mul_of_pos_right _ this
        have : (16777216 : Nat) ≤ maxLen := by decide
        omega
      obtain ⟨H', hst⟩ := H1.push (w' := w.alloc (.cells cs' el)) (c := .rows e ys) (B := .blk w.heap.size n) (fun n hn => RowKit.Below.heap_alloc w _ n hn) (by simp) (by simp [ownC]) (fun n hn => by simp [ownC] at hn; subst hn; simp)
        (.inr ⟨w.heap.size, n, cs', el, rfl, heap_alloc_new w _, hcl, by omega, hcm, by rw [hyn, List.take_of_length_le (by rw [Array.length_toList, hcl]; exact Nat.le_refl _)]; exact hr0⟩) rfl rfl rfl
      refine ⟨.slice (some ⟨w.heap.size, 0, none⟩) n n, _, R1, _, _, _, ?_, hK2, ?_, H', Ext.app _ _, st1.trans hst⟩
      · have hnot : ¬ (n * e.sz > 2 ^ 24) := by omega
        by_cases h0 : n * e.sz = 0
        · rw [if_pos h0] at hzc
          subst hzc
          simp only [Instr.buildSlice, Sem.run_bind, run_underlying (kd_slice hk), Result.andThen_ok, run_sizeOf hsz0, hsz, if_neg hnot, if_pos h0, List.toList_toArray, hrun, newRow, run_newObj, Sem.run_pure]
          rfl
        · rw [if_neg h0] at hzc
          subst hzc
          have hzr : (zeroValue el).run P w = .ok z w := by simp [zeroValue, typeInfo, hi, hz]
          simp only [Instr.buildSlice, Sem.run_bind, run_underlying (kd_slice hk), Result.andThen_ok, run_sizeOf hsz0, hsz, if_neg hnot, if_neg h0, hzr, List.toList_toArray, hrun, newRow, run_newObj, Sem.run_pure]
          rfl
      · have := Rel.sl (R := R1) (μ := μ ++ [.blk w.heap.size n]) (t := h1.length) (e := e) (start := 0) (len := n) (b := w.heap.size) (cap := n) (c := n) (by rw [H1.rel.len]; simp) (by omega) (Nat.le_refl _) hcm
        simpa using this
    · exact hK.elim
  · exact hK.elim
/-- a literal that nobody writes: it lies for good -/
def bsR (P : Program) (t : TypeId) (n : Nat) (parts : List (Nat × AV)) (h : List Ch) (K : AV → List Ch → Prop) : Prop :=
  match kdT P t with
  | .slice el => (match ETab.of t with
    | some e => (szT P el = e.sz ∧ zlenT P el = e.sz ∧ n * e.sz ≤ 16777216 ∧ parts.length = n ∧ 0 < n) ∧
      frzP parts h fun parts h => elemsK e parts 0 fun ys => K (.ro e ys) h
    | none => False)
  | _ => False
def bs2K (P : Program) (t : TypeId) (n : Nat) (parts : List (Nat × AV)) (h : List Ch) (K : AV → List Ch → Prop) : Prop := bsK P t n parts h K ∨ bsR P t n parts h K
theorem bsR_ok (H : HOk R μ h w) {t : TypeId} {n : Nat} {parts : List (Nat × AV)} {vals : List (Nat × Value)} {K : AV → List Ch → Prop} (hp : PRel R μ parts vals) (hK : bsR P t n parts h K) : GivesH P R μ h w K (Instr.buildSlice t n vals.toArray) := by
  unfold bsR at hK
  split at hK
  · rename_i el hk
    split at hK
    · rename_i e he
      obtain ⟨⟨hsz, hzl, hn, hpl, hn0⟩, hK⟩ := hK
      obtain ⟨R1, h1, ⟨parts', ⟨hlen, hK1⟩, hp1⟩, H1, le1, st1⟩ := frzP_ok H hp (frzP_len _ _ _ hK)
      obtain ⟨i, hi, hisz, _⟩ := el_info hsz
      obtain ⟨i', z, hi', hz, hzs⟩ := zero_info hzl
      obtain rfl : i' = i := by rw [hi] at hi'; exact (Option.some.inj hi').symm
      have hfill := elems_fill (K := fun ys => K (.ro e ys) h1) parts' 0 n [] [] ⟨by simp, fun R μ vs h => by cases h; exact .nil⟩ rfl (by rw [hlen, hpl]) (by simpa using hK1)
      generalize hzc : (if n * e.sz = 0 then #[] else z.cells : Array Value) = zc
      have hany : LRel R1 μ ([] ++ List.replicate (n * e.sz) .any) ((Array.range (n * e.sz)).map (zc[· % zc.size]!)).toList := by
        have key : ∀ (l : List Value), LRel R1 μ (List.replicate l.length .any) l := by
          intro l
          induction l with
          | nil => exact .nil
          | cons a l ih => exact .cons .any ih
        have := key ((Array.range (n * e.sz)).map (zc[· % zc.size]!)).toList
        simpa using this
      obtain ⟨zs', cs', ⟨ys, hrow, hyl, hK2⟩, hrel, hrun⟩ := fillK_ok _ _ _ _ hp1 hany hfill
      have hsz0 : szT P el ≠ 0 := by rw [hsz]; exact Nat.pos_iff_ne_zero.1 e.sz_pos
      have hr0 : LRel R1 [] (ys.flatMap e.enc) cs'.toList := hrow.2 _ _ _ hrel
      have hcl : cs'.size = n * e.sz := by
        rw [← Array.length_toList, ← hr0.len, flat_len, hyl, Nat.zero_add]
      have hyn : ys.length = n := by omega
      have hcm : n ≤ maxLen := by
        have := e.sz_pos
        have h2 : n ≤ n * e.sz := Nat.le_mul_of_pos_right _ this
        have : (16777216 : Nat) ≤ maxLen := by decide
        omega
      obtain ⟨H', hst, hle⟩ := H1.lay (w' := w.alloc (.cells cs' el)) (b := w.heap.size) (o := .cells cs' el (0, 0)) (Nat.le_refl _) (heap_alloc_new w _) (fun n hn => RowKit.Below.heap_alloc w _ n hn) (by simp) rfl rfl rfl
      refine ⟨.slice (some ⟨w.heap.size, 0, none⟩) n n, _, _, _, _, _, ?_, hK2, ?_, H', Ext.refl _, st1.trans hst⟩
      · have hnot : ¬ (n * e.sz > 2 ^ 24) := by omega
        by_cases h0 : n * e.sz = 0
        · rw [if_pos h0] at hzc
          subst hzc
          simp only [Instr.buildSlice, Sem.run_bind, run_underlying (kd_slice hk), Result.andThen_ok, run_sizeOf hsz0, hsz, if_neg hnot, if_pos h0, List.toList_toArray, hrun, newRow, run_newObj, Sem.run_pure]
          rfl
        · rw [if_neg h0] at hzc
          subst hzc
          have hzr : (zeroValue el).run P w = .ok z w := by simp [zeroValue, typeInfo, hi, hz]
          simp only [Instr.buildSlice, Sem.run_bind, run_underlying (kd_slice hk), Result.andThen_ok, run_sizeOf hsz0, hsz, if_neg hnot, if_neg h0, hzr, List.toList_toArray, hrun, newRow, run_newObj, Sem.run_pure]
          rfl
      · have := Rel.ro (R := R1.put w.heap.size (.cells cs' el (0, 0))) (μ := μ) (e := e) (xs := ys) (b := w.heap.size) (o := 0) (arr := cs') (ty := el) (fr := (0, 0)) (c := n) (by unfold RO.put; rw [if_pos rfl]) (by rw [List.drop_zero, List.take_of_length_le (by rw [Array.length_toList, hcl, hyn]; exact Nat.le_refl _)]; exact hr0.mono hle (Ext.refl _)) (by omega) hcm
        rw [hyn] at this
        exact this
    · exact hK.elim
  · exact hK.elim
theorem bs2K_ok (H : HOk R μ h w) {t : TypeId} {n : Nat} {parts : List (Nat × AV)} {vals : List (Nat × Value)} {K : AV → List Ch → Prop} (hp : PRel R μ parts vals) (hK : bs2K P t n parts h K) : GivesH P R μ h w K (Instr.buildSlice t n vals.toArray) := by
  rcases hK with hK | hK
  · exact bsK_ok H hp hK
  · exact bsR_ok H hp hK
omit [ETab] in
theorem made_list {z : Array Value} {s : Nat} (hs : z.size = s) (h0 : 0 < s) : ∀ n : Nat, (madeCells z (n * s)).toList = (List.replicate n z.toList).flatten := by
  have key : ∀ n : Nat, (List.range (n * s)).map (fun j => z[j % z.size]!) = (List.replicate n z.toList).flatten := by
    intro n
    induction n with
    | zero => simp
    | succ n ih =>
      rw [List.replicate_succ, List.flatten_cons, ← ih]
      have e : (n + 1) * s = s + n * s := by rw [Nat.succ_mul, Nat.add_comm]
      rw [e, List.range_add, List.map_append, List.map_map]
      congr 1
      · apply List.ext_getElem
        · simp [hs]
        · intro i h1 h2
          simp at h1 h2
          simp [hs, Nat.mod_eq_of_lt h1]
          rw [getElem!_pos z i h2]
      · apply List.map_congr_left
        intro j _
        simp only [Function.comp, hs]
        rw [Nat.add_mod_left]
  intro n
  rw [← key n]
  simp [madeCells]
omit [ETab] in
theorem rep_rel {e : Ety} {y : e.T} {vs : List Value} (h : LRel R [] (e.enc y) vs) : ∀ n : Nat, LRel R [] ((List.replicate n y).flatMap e.enc) (List.replicate n vs).flatten := by
  intro n
  induction n with
  | zero => simp; exact .nil
  | succ n ih =>
    simp only [List.replicate_succ, List.flatMap_cons, List.flatten_cons]
    exact h.app ih
theorem mkK_ok (H : HOk R μ h w) {t : TypeId} {l c : AV} {vl vc : Value} {K : AV → List Ch → Prop} (hl : Rel R μ l vl) (hc : Rel R μ c vc) (hK : mkK P t l c h K) : GivesH P R μ h w K (Instr.makeSlice t vl vc) := by
  unfold mkK at hK
  split at hK
  · rename_i el kl a kc b hk
    split at hK
    · rename_i e zs he hz
      split at hK
      · rename_i y hy
        obtain ⟨⟨⟨hsz, hzl⟩, ⟨h0, hab⟩, hb, h63, htf, hok⟩, hK⟩ := hK
        cases hl; cases hc
        rw [repN_eq] at hK
        obtain ⟨i, hi, hisz, hib⟩ := el_info hsz
        unfold zeroT at hz
        rw [hi] at hz
        simp only at hz
        cases hzz : i.zero with
        | none => rw [hzz] at hz; simp at hz
        | some z =>
          rw [hzz] at hz
          simp only [Option.some.injEq] at hz
          subst hz
          have hrel0 := ofV_rels R [] z.cells.toList
          have hrel := e.dec_ok hy hok hrel0
          have hzs : z.cells.size = e.sz := by simpa using hzl
          have hrun := run_make (P := P) w t el i z (kd_slice hk) hi hzz kl kc a b h0 hab (by rw [hib]; exact hb) h63
          have hsz0 := e.sz_pos
          have hcl : (madeCells z.cells (b.toNat * e.sz)).size = b.toNat * e.sz := size_madeCells _ _
          have hml : b.toNat ≤ maxLen := by
            have : maxLen = 9223372036854775807 := by decide
            omega
          have hab' : a.toNat ≤ b.toNat := by omega
          rw [hisz] at hrun
          obtain ⟨H', hst⟩ := H.push (w' := w.alloc (.cells (madeCells z.cells (b.toNat * e.sz)) el)) (c := .rows e (List.replicate a.toNat y)) (B := .blk w.heap.size b.toNat) (fun n hn => RowKit.Below.heap_alloc w _ n hn) (by simp) (by simp [ownC]) (fun n hn => by simp [ownC] at hn; subst hn; simp)
            (.inr ⟨w.heap.size, b.toNat, _, el, rfl, heap_alloc_new w _, hcl, by simpa using hab', hml, by
              rw [made_list hzs hsz0, List.length_replicate]
              have e1 : (List.replicate b.toNat z.cells.toList).flatten = (List.replicate a.toNat z.cells.toList).flatten ++ (List.replicate (b.toNat - a.toNat) z.cells.toList).flatten := by
                rw [← List.flatten_append, List.replicate_append_replicate]
                congr 2
                omega
              have e2 : (List.replicate a.toNat z.cells.toList).flatten.length = a.toNat * e.sz := by
                rw [List.length_flatten]
                simp [hzs]
              rw [e1, ← e2, List.take_left]
              exact rep_rel hrel _⟩) rfl rfl rfl
          refine ⟨_, _, R, _, _, _, hrun, hK, ?_, H', Ext.app _ _, hst⟩
          have := Rel.sl (R := R) (μ := μ ++ [.blk w.heap.size b.toNat]) (t := h.length) (e := e) (start := 0) (len := a.toNat) (b := w.heap.size) (cap := b.toNat) (c := b.toNat) (by rw [H.rel.len]; simp) (by omega) hab' hml
          simpa using this
      · exact hK.elim
    · exact hK.elim
  · exact hK.elim
end Go.V

namespace Go.V
variable {P : Program} {R : RO} {μ : List Bind} {h : List Ch} {w : World}

/-- the elements that a slice may be cut to: those of its row, where it begins with it -/
def capM (l n : Nat) : Nat := max n l
theorem capM_self (n : Nat) : capM n n = n := Nat.max_self n
def capN : Ch → Nat → Nat → Nat
  | .rows _ xs, 0, n => capM xs.length n
  | _, _, n => n
/-- 's[lo:hi]' -/
def sliceHK (P : Program) (k : Kd) (x : AV) (lo hi : Option AV) (h : List Ch) (K : AV → Prop) : Prop :=
  match k, x, hi with
  | .slice el, .sl t e s n, some (.int _ u) => (szT P el = e.sz) ∧ loK lo 0 fun l => (0 ≤ l ∧ l ≤ u ∧ u ≤ (capN (hth h t) s n : Nat)) ∧ K (.sl t e (s + l.toNat) (u.toNat - l.toNat))
  | k, x, hi => sliceK P k x lo hi K
theorem capN_le (H : HOk R μ h w) {t s n b cap c : Nat} (hb : μ[t]? = some (.blk b cap)) (hc : s + c = cap) (hn : n ≤ c) : capN (hth h t) s n ≤ c := by
  cases hh : hth h t with
  | rows e' xs =>
    cases s with
    | zero =>
      obtain ⟨B, hB, hr, _⟩ := H.rel.get (hth_get hh (by simp))
      rw [hb] at hB
      obtain rfl := Option.some.inj hB
      rcases hr with ⟨h0, _⟩ | ⟨m, cap', arr, ty, heq, _, _, hlx, _, _⟩
      · simp at h0
      · simp only [Bind.blk.injEq] at heq
        obtain ⟨rfl, rfl⟩ := heq
        show capM xs.length n ≤ c
        unfold capM
        omega
    | succ s => exact hn
  | _ => exact hn
theorem capN_0 (H : HOk R μ h w) {t s : Nat} (ht : μ[t]? = some .none ∨ (0 < s ∧ t < μ.length)) : capN (hth h t) s 0 = 0 := by
  cases hh : hth h t with
  | rows e' xs =>
    cases s with
    | zero =>
      obtain ⟨B, hB, hr, _⟩ := H.rel.get (hth_get hh (by simp))
      rcases ht with ht | ht
      · rw [ht] at hB
        obtain rfl := Option.some.inj hB
        rcases hr with ⟨_, hx⟩ | ⟨m, cap', arr, ty, heq, _⟩
        · rw [hx]; rfl
        · simp at heq
      · exact absurd ht.1 (by decide)
    | succ s => rfl
  | _ => rfl
theorem sliceHK_ok (H : HOk R μ h w) {t : TypeId} {x : AV} {vx : Value} {lo hi : Option AV} {vlo vhi : Option Value} {K : AV → Prop} (hx : Rel R μ x vx) (hlo : ∀ a, lo = some a → ∃ u, vlo = some u ∧ Rel R μ a u) (hlo' : lo = none → vlo = none) (hhi : ∀ a, hi = some a → ∃ u, vhi = some u ∧ Rel R μ a u) (hhi' : hi = none → vhi = none)
    (hK : sliceHK P (kdT P t) x lo hi h K) : Gives P R μ K (Instr.sliceAt t vx vlo vhi none) := by
  unfold sliceHK at hK
  split at hK
  · rename_i el t' e s n kk u hk
    obtain ⟨hs, hK⟩ := hK
    have hz : szT P el ≠ 0 := by rw [hs]; exact Nat.pos_iff_ne_zero.1 e.sz_pos
    obtain ⟨l, ⟨⟨h0, h1, h2⟩, hK⟩, hl⟩ := loK_ok hK hlo hlo'
    obtain ⟨vu, rfl, hru⟩ := hhi _ rfl
    cases hru
    have hm : (some (Value.int kk u) = none ∧ u = (0 : Int)) ∨ ∃ k, some (Value.int kk u) = some (.int k u) := .inr ⟨kk, rfl⟩
    have hu := kd_slice hk
    have hcap : ∀ b cap c, μ[t']? = some (.blk b cap) → s + c = cap → n ≤ c → u ≤ (c : Int) := by
      intro b cap c hb hc hn
      have hcn : capN (hth h t') s n ≤ c := capN_le H hb hc hn
      omega
    cases hx with
    | @sl _ _ _ _ _ b cap c hb hc hcl hcm =>
      have huc := hcap b cap c hb hc hcl
      have hbd := fun w => run_sliceBounds (P := P) (isS := true) (len := n) (cap := c) hl (.inr ⟨kk, rfl⟩ : (some (Value.int kk u) = none ∧ u = (n : Int)) ∨ ∃ k, some (Value.int kk u) = some (.int k u)) h0 h1 huc w
      have hrun : ∀ w, (Instr.sliceAt t (.slice (some ⟨b, s * e.sz, none⟩) n c) vlo (some (.int kk u)) none).run P w = .ok (.slice (if c = l.toNat then some ⟨b, s * e.sz, none⟩ else some ⟨b, (s + l.toNat) * e.sz, none⟩) (u.toNat - l.toNat) (c - l.toNat)) w := by
        intro w
        simp [Instr.sliceAt, Instr.slice, run_underlying hu, hbd, run_sizeOf hz, addr_add, hs, Nat.add_mul]
      by_cases he : c = l.toNat
      · refine .mk hK (v := .slice (some ⟨b, s * e.sz, none⟩) (u.toNat - l.toNat) (c - l.toNat)) ?_ fun w => by rw [hrun, if_pos he]
        by_cases h00 : s + l.toNat = 0
        · have hs0 : s = 0 := by omega
          have hl0 : l.toNat = 0 := by omega
          subst hs0
          rw [hl0]
          exact .sl hb (by omega) (by omega) hcm
        · rw [show u.toNat - l.toNat = 0 from by omega, show c - l.toNat = 0 from by omega]
          exact .sl0 (.inr ⟨by omega, (List.getElem?_eq_some_iff.1 hb).1⟩)
      · exact .mk hK (v := .slice (some ⟨b, (s + l.toNat) * e.sz, none⟩) (u.toNat - l.toNat) (c - l.toNat)) (.sl hb (by omega) (by omega) hcm) fun w => by rw [hrun, if_neg he]
    | @sl0 _ _ _ _ a ht =>
      have hc0 : capN (hth h t') s 0 = 0 := capN_0 H ht
      rw [hc0] at h2
      have hl0 : l = 0 := by omega
      have hu0 : u = 0 := by omega
      subst hl0; subst hu0
      have hbd := fun w => run_sliceBounds (P := P) (isS := true) (len := 0) (cap := 0) hl (.inr ⟨kk, rfl⟩ : (some (Value.int kk 0) = none ∧ (0 : Int) = ((0 : Nat) : Int)) ∨ ∃ k, some (Value.int kk 0) = some (.int k 0)) h0 h1 (by omega) w
      refine .mk hK (v := .slice a 0 0) (by simp; exact .sl0 ht) fun w => ?_
      simp [Instr.sliceAt, Instr.slice, run_underlying hu, hbd, run_sizeOf hz]
  · exact sliceK_ok hx hlo hlo' hhi hhi' hK
/-- a bound that the code works out -/
def isTmp : Operand → Bool
  | .tmp _ => true
  | _ => false
/-- the whole of what lies for good, with no room behind it -/
def clipA (e : Ety) (xs : List e.T) (l u q : Int) : AV := if l = 0 ∧ u = xs.length ∧ q = xs.length then .rc e xs else .any
theorem clipA_full {e : Ety} {xs : List e.T} : clipA e xs 0 xs.length xs.length = .rc e xs := if_pos ⟨rfl, rfl, rfl⟩
/-- what a cut with a limit is -/
def slR : Bool → (e : Ety) → (xs : List e.T) → Int → Int → Int → AV
  | true, e, xs, l, u, q => clipA e xs l u q
  | false, _, _, _, _, _ => .any
/-- 's[lo:hi:max]': what comes of it is not used, or it is the whole, clipped -/
def slice3K (P : Program) (t : TypeId) (x : AV) (lo hi m : Option AV) (b : Bool) (K : AV → Prop) : Prop :=
  match kdT P t, x with
  | .slice el, .ro e xs => loK lo 0 fun l => loK hi xs.length fun u => loK m xs.length fun q => (szT P el = e.sz ∧ 0 ≤ l ∧ l ≤ u ∧ u ≤ q ∧ q ≤ xs.length) ∧ K (slR b e xs l u q)
  | .slice el, .sl _ e _ n => loK lo 0 fun l => loK hi n fun u => loK m n fun q => (szT P el = e.sz ∧ 0 ≤ l ∧ l ≤ u ∧ u ≤ q ∧ q ≤ n) ∧ K .any
  | _, _ => False
theorem run_bounds3 {len cap : Nat} {lo : Option Value} {k1 k2 : IntKind} {l u q : Int} (hl : (lo = none ∧ l = 0) ∨ ∃ k, lo = some (.int k l)) (h0 : 0 ≤ l) (h1 : l ≤ u) (h2 : u ≤ q) (h3 : q ≤ cap) (w : World) :
    (Instr.sliceBounds true len cap lo (some (.int k1 u)) (some (.int k2 q))).run P w = .ok (l.toNat, u.toNat, q.toNat) w := by
  have hq0 : 0 ≤ q := by omega
  have hu0 : 0 ≤ u := by omega
  have e1 : ((q.toNat : Nat) : Int) = q := by omega
  have e2 : ((u.toNat : Nat) : Int) = u := by omega
  rcases hl with ⟨rfl, rfl⟩ | ⟨k, rfl⟩ <;> simp [Instr.sliceBounds, Instr.sliceBound, asIntOf, h0, h1, h2, h3, hq0, hu0, e1, e2]
theorem addr_add0 (a : Addr) : a.add 0 = a := by cases a; simp [Addr.add]
theorem slice3K_ok {t : TypeId} {x : AV} {vx : Value} {lo : Option AV} {vlo : Option Value} {ah am : AV} {vh vm : Value} {b : Bool} {K : AV → Prop} (hx : Rel R μ x vx)
    (hlo : ∀ a, lo = some a → ∃ u, vlo = some u ∧ Rel R μ a u) (hlo' : lo = none → vlo = none) (hh : Rel R μ ah vh) (hm : Rel R μ am vm)
    (hK : slice3K P t x lo (some ah) (some am) b K) : Gives P R μ K (Instr.sliceAt t vx vlo (some vh) (some vm)) := by
  unfold slice3K at hK
  have fin : ∀ (e : Ety) (el : TypeId) (n : Nat) (a : Option Addr) (cap : Nat) (r : Int → Int → Int → AV), vx = .slice a n cap → n ≤ cap → P.underlying t = some (.slice el) →
      (∀ l u q, szT P el = e.sz → 0 ≤ l → l ≤ u → u ≤ q → q ≤ (n : Int) → (l = 0 ∧ Rel R μ (r l u q) (.slice a u.toNat q.toNat)) ∨ r l u q = .any) →
      (loK lo 0 fun l => loK (some ah) n fun u => loK (some am) n fun q => (szT P el = e.sz ∧ 0 ≤ l ∧ l ≤ u ∧ u ≤ q ∧ q ≤ n) ∧ K (r l u q)) → Gives P R μ K (Instr.sliceAt t vx vlo (some vh) (some vm)) := by
    rintro e el n a cap r rfl hnc hu hr hK
    obtain ⟨l, hK, hl⟩ := loK_ok hK hlo hlo'
    obtain ⟨u, hK, hh'⟩ := loK_ok hK (v := some vh) (fun a h => by cases h; exact ⟨_, rfl, hh⟩) (fun h => by cases h)
    obtain ⟨q, ⟨⟨hs, h0, h1, h2, h3⟩, hK⟩, hm'⟩ := loK_ok hK (v := some vm) (fun a h => by cases h; exact ⟨_, rfl, hm⟩) (fun h => by cases h)
    have hz : szT P el ≠ 0 := by rw [hs]; exact Nat.pos_iff_ne_zero.1 e.sz_pos
    rcases hh' with ⟨h, _⟩ | ⟨k1, hh'⟩
    · cases h
    rcases hm' with ⟨h, _⟩ | ⟨k2, hm'⟩
    · cases h
    cases hh'; cases hm'
    have hbd := fun w => run_bounds3 (P := P) (len := n) (cap := cap) (k1 := k1) (k2 := k2) hl h0 h1 h2 (show q ≤ (cap : Int) by omega) w
    rcases hr l u q hs h0 h1 h2 h3 with ⟨rfl, hr⟩ | hr
    · refine .mk hK hr fun w => ?_
      cases a <;> simp [Instr.sliceAt, Instr.slice, run_underlying hu, hbd, run_sizeOf hz, addr_add, addr_add0]
    · rw [hr] at hK
      exact .mk hK (v := _) .any fun w => by simp [Instr.sliceAt, Instr.slice, run_underlying hu, hbd, run_sizeOf hz]; rfl
  split at hK
  · rename_i el e xs hk
    have hk := kd_slice hk
    have hany : ∀ (a : Option Addr) (l u q : Int), (b = true → u = xs.length → q = xs.length → Rel R μ (.rc e xs) (.slice a u.toNat q.toNat)) → (l = 0 ∧ Rel R μ (slR b e xs l u q) (.slice a u.toNat q.toNat)) ∨ slR b e xs l u q = .any := by
      intro a l u q hf
      cases b with
      | false => exact .inr rfl
      | true =>
        show (l = 0 ∧ Rel R μ (clipA e xs l u q) _) ∨ clipA e xs l u q = .any
        unfold clipA
        split
        · rename_i h
          exact .inl ⟨h.1, hf rfl h.2.1 h.2.2⟩
        · exact .inr rfl
    cases hx with
    | @ro _ _ _ b' o arr ty fr c hb hr hc hcm =>
      refine fin e el _ _ _ (slR b e xs) rfl hc hk (fun l u q hs h0 h1 h2 h3 => hany _ l u q fun _ e2 e3 => ?_) hK
      subst e2 e3
      have := Rel.rc (μ := μ) hb hr (Nat.le_trans hc hcm)
      simpa using this
    | ro0 hcm =>
      refine fin e el 0 _ _ (slR b e []) rfl (Nat.zero_le _) hk (fun l u q hs h0 h1 h2 h3 => hany _ l u q fun _ e2 e3 => ?_) hK
      subst e2 e3
      simpa using Rel.rc0
  · rename_i el t' e s n hk
    have hk := kd_slice hk
    cases hx with
    | sl hb hc hcl hcm => exact fin e el _ _ _ (fun _ _ _ => .any) rfl hcl hk (fun _ _ _ _ _ _ _ _ => .inr rfl) hK
    | sl0 => exact fin e el 0 _ _ (fun _ _ _ => .any) rfl (Nat.le_refl _) hk (fun _ _ _ _ _ _ _ _ => .inr rfl) hK
  · exact hK.elim
/-- append into the slice's own block -/
def appInK (P : Program) (t tx : TypeId) (b : Nat) (e : Ety) (n : Nat) (x : AV) (h : List Ch) (K : AV → List Ch → Prop) : Prop :=
  match kdT P t with
  | .slice el => (match hth h b with
    | .rows e' xs => (match asE e e' xs with
      | some xs => (szT P el = e.sz ∧ zlenT P el = e.sz) ∧ appSrcK (kdT P tx) e h x fun ys => (n + ys.length ≤ xs.length) ∧ K (.sl b e 0 (n + ys.length)) (h.set b (.rows e (xs.take n ++ ys ++ xs.drop (n + ys.length))))
      | none => False)
    | _ => False)
  | _ => False
/-- append behind what lies for good and has no room: a new block -/
def appRcK (P : Program) (t tx : TypeId) (e : Ety) (xs : List e.T) (x : AV) (h : List Ch) (K : AV → List Ch → Prop) : Prop :=
  match kdT P t with
  | .slice el => (szT P el = e.sz ∧ zlenT P el = e.sz) ∧ appSrcK (kdT P tx) e h x fun ys => (0 < ys.length ∧ (xs.length + ys.length) * bytesT P el ≤ maxBytes ∧ xs.length + ys.length ≤ maxBytes) ∧ K (.sl h.length e 0 (xs.length + ys.length)) (h ++ [.rows e (xs ++ ys)])
  | _ => False
theorem appRcK_ok (H : HOk R μ h w) {t tx ty : TypeId} {e : Ety} {xs : List e.T} {x : AV} {vs vx : Value} {K : AV → List Ch → Prop} (hs : Rel R μ (.rc e xs) vs) (hx : Rel R μ x vx) (hK : appRcK P t tx e xs x h K) : GivesH P R μ h w K (Builtin.append_ #[t, tx] ty #[vs, vx]) := by
  unfold appRcK at hK
  split at hK
  · rename_i el hk
    have hk := kd_slice hk
    obtain ⟨⟨hsz, hzl⟩, hK⟩ := hK
    obtain ⟨ys, news, ⟨⟨h0, hb1, hb2⟩, hK⟩, hsrc⟩ := appSrcK_ok H hx hK
    obtain ⟨i, hi, hisz, hib⟩ := el_info hsz
    obtain ⟨i', z, hi', hz, hzs⟩ := zero_info hzl
    obtain rfl : i' = i := by rw [hi] at hi'; exact (Option.some.inj hi').symm
    have hsr := hsrc.src
    rw [← hisz] at hsr
    rw [← hib] at hb1
    have hfl := hsrc.rel
    have hml : xs.length + ys.length ≤ maxLen := Nat.le_trans hb2 (by decide)
    cases hs with
    | @rc _ _ _ b o arr ty fr hb hl hm =>
      have hb' := H.ro _ _ hb
      have hfull := hl.app hfl
      rw [← List.flatMap_append] at hfull
      have hold : (Builtin.firstCells i'.size xs.length (.slice (some ⟨b, o, none⟩) xs.length xs.length)).run P w.drew = .ok ((arr.toList.drop o).take (xs.length * e.sz)).toArray w.drew := by
        rw [hisz]
        refine run_firstCells_some w.drew e.sz xs.length _ xs.length xs.length ((arr.toList.drop o).take (xs.length * e.sz)) (by rw [← hl.len, flat_len]) fun j u hu => ?_
        rw [addr_add]
        show w.cell? _ = _
        rw [cell_at hb', ← Array.getElem?_toList]
        rw [List.getElem?_take] at hu
        split at hu
        · rw [List.getElem?_drop] at hu; exact hu
        · simp at hu
      have hrun := run_app_grow (ty := ty) hk hi hz (a := some ⟨b, o, none⟩) (n := xs.length) (c := xs.length) hsr hold (by omega) hb1 hb2
      obtain ⟨H', hstep, hrel⟩ := grown_row (el := el) (ys := xs ++ ys) H hfull hzs (c := grownCap w (xs.length + ys.length) xs.length el) (by rw [List.length_append]; exact grownCap_ge _ _ _ _) (grownCap_le_maxLen _ _ _ _ hml)
      rw [List.length_append] at H' hstep hrel
      exact ⟨_, _, R, _, _, _, hrun, hK, hrel, H', Ext.app _ _, hstep⟩
    | @rc0 _ _ a =>
      rw [List.length_nil, Nat.zero_add] at hb1 hb2 hK
      rw [List.nil_append] at hK
      have hold : (Builtin.firstCells i'.size 0 (.slice a 0 0)).run P w.drew = .ok ([] : List Value).toArray w.drew := by
        cases a <;> simp [Builtin.firstCells, loadCells, loadCellsFrom]
      have hrun := run_app_grow (ty := ty) hk hi hz (a := a) (n := 0) (c := 0) hsr hold (by omega) (by rw [Nat.zero_add]; exact hb1) (by rw [Nat.zero_add]; exact hb2)
      have hml : ys.length ≤ maxLen := Nat.le_trans hb2 (by decide)
      rw [Nat.zero_add] at hrun
      obtain ⟨H', hstep, hrel⟩ := grown_row (el := el) (ys := ys) H hfl hzs (c := grownCap w ys.length 0 el) (grownCap_ge _ _ _ _) (grownCap_le_maxLen _ _ _ _ hml)
      exact ⟨_, _, R, _, _, _, hrun, hK, hrel, H', Ext.app _ _, hstep⟩
  · exact hK.elim
/-- append: into the own block, or on -/
def app2K [ETab] (P : Program) (t tx : TypeId) (s x : AV) (h : List Ch) (K : AV → List Ch → Prop) : Prop :=
  match s, x with
  | .rc e xs, x => appRcK P t tx e xs x h K
  | .sl b e 0 n, .sl b' e' s' m => if b = b' then appInK P t tx b e n (.sl b' e' s' m) h K else appK P t tx (.sl b e 0 n) (.sl b' e' s' m) h K
  | s, x => appK P t tx s x h K
theorem appInK_ok (H : HOk R μ h w) {t tx ty : TypeId} {b n : Nat} {e : Ety} {x : AV} {vs vx : Value} {K : AV → List Ch → Prop} (hs : Rel R μ (.sl b e 0 n) vs) (hx : Rel R μ x vx) (hK : appInK P t tx b e n x h K) : GivesH P R μ h w K (Builtin.append_ #[t, tx] ty #[vs, vx]) := by
  unfold appInK at hK
  split at hK
  · rename_i el hk
    have hk := kd_slice hk
    split at hK
    · rename_i e' zs hc
      split at hK
      · rename_i xs hy
        obtain ⟨rfl, hy⟩ := asE_some hy
        change zs = xs at hy
        subst hy
        obtain ⟨⟨hsz, hzl⟩, hK⟩ := hK
        obtain ⟨ys, news, ⟨hlen, hK⟩, hsrc⟩ := appSrcK_ok H hx hK
        obtain ⟨i, hi, hisz, hib⟩ := el_info hsz
        have hsr := hsrc.src
        rw [← hisz] at hsr
        have hct : h[b]? = some (.rows e' zs) := hth_get hc (by simp)
        obtain ⟨B, hB, hr, hown⟩ := H.rel.get hct
        have hfl := hsrc.rel
        have hnl : news.length = ys.length * e'.sz := by rw [← hfl.len, flat_len]
        cases hs with
        | @sl _ _ _ _ _ b' cap c h1 hc1 hl1 hm1 =>
          rw [hB] at h1
          obtain rfl := Option.some.inj h1
          rcases hr with ⟨h0, _⟩ | ⟨m, cap', arr, ty', heq, hb, hsza, hlx, hcap, hl⟩
          · simp at h0
          · simp only [Bind.blk.injEq] at heq
            obtain ⟨rfl, rfl⟩ := heq
            have hcc : c = cap := by omega
            subst hcc
            rw [Nat.zero_mul]
            have hroom : n + ys.length ≤ c := by omega
            have hfit : n * i.size + news.length ≤ arr.size := by
              rw [hisz, hnl, hsza, ← Nat.add_mul]; exact Nat.mul_le_mul_right _ hroom
            have hrun := run_app_room (ty := ty) hk hi hsr hb hroom hfit
            have hnew := setRow_heap w b' arr (arr.toList.take (n * i.size) ++ news ++ arr.toList.drop (n * i.size + news.length)).toArray ty' (0, 0) hb
            rw [hisz] at hrun hnew hfit
            obtain ⟨H', hstep⟩ := H.set (c' := .rows e' (zs.take n ++ ys ++ zs.drop (n + ys.length))) (w' := w.setRow b' (arr.toList.take (n * e'.sz) ++ news ++ arr.toList.drop (n * e'.sz + news.length)).toArray) hct hB (by simp [ownC]) (fun m _ hm => setRow_other w b' m _ (fun e => hm (by simp [ownC, e]))) (by simp)
              (.inr ⟨b', c, _, ty', rfl, hnew, by
                simp only [List.size_toArray, List.length_append, List.length_take, List.length_drop, Array.length_toList]
                omega, by
                simp only [List.length_append, List.length_take, List.length_drop]
                omega, hcap, by
                have hL : (zs.take n ++ ys ++ zs.drop (n + ys.length)).length = zs.length := by
                  simp only [List.length_append, List.length_take, List.length_drop]
                  omega
                have hnz : n ≤ zs.length := by omega
                have q1 := hl.take (n * e'.sz)
                rw [← flat_take, List.take_take, Nat.min_eq_left (Nat.mul_le_mul_right _ hnz)] at q1
                have q3 := hl.drop ((n + ys.length) * e'.sz)
                rw [← flat_drop, List.drop_take] at q3
                have hA : (arr.toList.take (n * e'.sz)).length = n * e'.sz := by
                  rw [List.length_take, Array.length_toList]; omega
                have q := (q1.app hfl).app q3
                rw [← List.flatMap_append, ← List.flatMap_append] at q
                rw [hL, List.toList_toArray]
                have e1 : n * e'.sz + news.length = (n + ys.length) * e'.sz := by rw [hnl, Nat.add_mul]
                have e2 : (n + ys.length) * e'.sz ≤ zs.length * e'.sz := Nat.mul_le_mul_right _ hlen
                have e3 : (arr.toList.take (n * e'.sz) ++ news).length = (n + ys.length) * e'.sz := by rw [List.length_append, hA, e1]
                rw [List.take_append, e3, List.take_of_length_le (l := arr.toList.take (n * e'.sz) ++ news) (by omega), e1]
                exact q⟩) rfl rfl rfl
            refine ⟨_, _, R, _, _, _, hrun, hK, ?_, H', Ext.refl _, hstep⟩
            have h5 := Rel.sl (R := R) (μ := μ) (t := b) (e := e') (start := 0) (len := n + ys.length) (b := b') (cap := c) (c := c) hB (by omega) hroom hcap
            simpa using h5
        | @sl0 _ _ _ _ a ht =>
          rcases ht with ht | ht
          · rw [ht] at hB
            obtain rfl := Option.some.inj hB
            rcases hr with ⟨_, hz0⟩ | ⟨m, cap', arr, ty', heq, _⟩
            · subst hz0
              have hy0 : ys = [] := List.eq_nil_of_length_eq_zero (by simpa using hlen)
              subst hy0
              have hn0 : news = [] := by cases hfl; rfl
              subst hn0
              refine ⟨.slice a 0 0, w, R, μ, h, .sl b e' 0 0, run_app_stay hk hi hsr, ?_, .sl0 (.inl ht), H, Ext.refl _, Step.refl _ _ _⟩
              have e1 : h.set b (.rows e' (([] : List e'.T).take 0 ++ [] ++ ([] : List e'.T).drop (0 + ([] : List e'.T).length))) = h := by
                obtain ⟨hlt, he⟩ := List.getElem?_eq_some_iff.1 hct
                simp only [List.take_nil, List.drop_nil, List.append_nil]
                rw [← he]
                exact List.set_getElem_self hlt
              rw [e1] at hK
              exact hK
            · simp at heq
          · exact absurd ht.1 (by decide)
      · exact hK.elim
    · exact hK.elim
  · exact hK.elim
theorem app2K_ok [ETab] (H : HOk R μ h w) {t tx ty : TypeId} {s x : AV} {vs vx : Value} {K : AV → List Ch → Prop} (hs : Rel R μ s vs) (hx : Rel R μ x vx) (hK : app2K P t tx s x h K) : GivesH P R μ h w K (Builtin.append_ #[t, tx] ty #[vs, vx]) := by
  unfold app2K at hK
  split at hK
  · exact appRcK_ok H hs hx hK
  · split at hK
    · rename_i hb
      exact appInK_ok H hs hx hK
    · exact appK_ok H hs hx hK
  · exact appK_ok H hs hx hK

section
variable {k : Kd} {lo hi : Option AV} {K : AV → Prop} {el : TypeId} {t s n : Nat} {e : Ety}
theorem sliceHK_sl {kk : IntKind} {u : Int} : sliceHK P (.slice el) (.sl t e s n) lo (some (.int kk u)) h K = ((szT P el = e.sz) ∧ loK lo 0 fun l => (0 ≤ l ∧ l ≤ u ∧ u ≤ (capN (hth h t) s n : Nat)) ∧ K (.sl t e (s + l.toNat) (u.toNat - l.toNat))) := rfl
theorem sliceHK_none {x : AV} : sliceHK P k x lo none h K = sliceK P k x lo none K := by cases k <;> cases x <;> rfl
theorem sliceHK_ro {xs : List e.T} : sliceHK P k (.ro e xs) lo hi h K = sliceK P k (.ro e xs) lo hi K := by cases k <;> rfl
theorem sliceHK_str {xs : List UInt8} : sliceHK P k (.str xs) lo hi h K = sliceK P k (.str xs) lo hi K := by cases k <;> rfl
theorem sliceHK_lit {v : Value} : sliceHK P k (.lit v) lo hi h K = sliceK P k (.lit v) lo hi K := by cases k <;> rfl
theorem capN_rows {xs : List e.T} : capN (.rows e xs) 0 n = capM xs.length n := rfl
theorem capN_succ {c : Ch} : capN c (s + 1) n = n := by cases c <;> rfl
end
section
variable [ETab] {tt tx : TypeId} {K : AV → List Ch → Prop} {b n b' s' m : Nat} {e e' : Ety}
theorem app2K_sl : app2K P tt tx (.sl b e 0 n) (.sl b' e' s' m) h K = if b = b' then appInK P tt tx b e n (.sl b' e' s' m) h K else appK P tt tx (.sl b e 0 n) (.sl b' e' s' m) h K := rfl
theorem app2K_rc {x : AV} {xs : List e.T} : app2K P tt tx (.rc e xs) x h K = appRcK P tt tx e xs x h K := rfl
theorem app2K_ro {xs : List e.T} : app2K P tt tx (.sl b e' 0 n) (.ro e xs) h K = appK P tt tx (.sl b e' 0 n) (.ro e xs) h K := rfl
theorem app2K_str {xs : List UInt8} : app2K P tt tx (.sl b e' 0 n) (.str xs) h K = appK P tt tx (.sl b e' 0 n) (.str xs) h K := rfl
theorem app2K_lit {v : Value} : app2K P tt tx (.sl b e' 0 n) (.lit v) h K = appK P tt tx (.sl b e' 0 n) (.lit v) h K := rfl
theorem app2K_nil {x : AV} {v : Value} : app2K P tt tx (.lit v) x h K = appK P tt tx (.lit v) x h K := rfl
end
/-- the zero value's cells are single ones -/
def zoneT (P : Program) (t : TypeId) : Prop := match zeroT P t with | some zs => okCells zs | none => False
/-- 'clear' of a slice's end: the row is cut -/
def clearK (P : Program) (t : TypeId) (x : AV) (h : List Ch) (K : List Ch → Prop) : Prop :=
  match kdT P t, x with
  | .slice el, .sl b e s n => (match hth h b with
    | .rows e' xs => (match asE e e' xs with
      | some xs => ((szT P el = e.sz ∧ zlenT P el = e.sz) ∧ zoneT P el ∧ s + n = xs.length) ∧ K (h.set b (.rows e (xs.take s)))
      | none => False)
    | _ => False)
  | _, _ => False
theorem zone_ok {el : TypeId} {i : TypeInfo} {z : Value} (hi : P.info? el = some i) (hz : i.zero = some z) (h : zoneT P el) : ∀ v ∈ z.cells.toList, v.oneCell' = true := by
  unfold zoneT zeroT at h
  rw [hi] at h
  simp only [hz] at h
  have key : ∀ l : List Value, okCells (l.map ofV) → ∀ v ∈ l, v.oneCell' = true := by
    intro l
    induction l with
    | nil => intro _ v hv; cases hv
    | cons a l ih =>
      intro ho v hv
      rcases List.mem_cons.1 hv with rfl | hv
      · exact (ofV_rel (fun _ => none) [] v).one ho.1
      · exact ih ho.2 v hv
  exact key _ h
theorem zeroCells_one {z : Array Value} (h : ∀ v ∈ z.toList, v.oneCell' = true) (hs : 0 < z.size) (n : Nat) : ∀ v ∈ (Builtin.zeroCells z n).toList, v.oneCell' = true := by
  intro v hv
  unfold Builtin.zeroCells at hv
  simp only [Array.toList_map, List.mem_map] at hv
  obtain ⟨i, _, rfl⟩ := hv
  have hlt : i % z.size < z.size := Nat.mod_lt _ hs
  rw [getElem!_pos z _ hlt]
  exact h _ (by simp)
theorem clearK_ok (H : HOk R μ h w) {t ty : TypeId} {x : AV} {vx : Value} {K : List Ch → Prop} (hx : Rel R μ x vx) (hK : clearK P t x h K) :
    ∃ w' h', (Builtin.clear_ #[t] ty #[vx]).run P w = .ok (.tuple #[]) w' ∧ K h' ∧ HOk R μ h' w' ∧ Step (ownH h μ) R w (ownH h' μ) R w' := by
  unfold clearK at hK
  split at hK
  · rename_i el b e s n hk
    have hk := kd_slice hk
    split at hK
    · rename_i e' zs hc
      split at hK
      · rename_i xs hy
        obtain ⟨rfl, hy⟩ := asE_some hy
        change zs = xs at hy
        subst hy
        obtain ⟨⟨⟨hsz, hzl⟩, hone, hn⟩, hK⟩ := hK
        obtain ⟨i, z, hi, hz, hzs⟩ := zero_info hzl
        have hct : h[b]? = some (.rows e' zs) := hth_get hc (by simp)
        obtain ⟨B, hB, hr, hown⟩ := H.rel.get hct
        have cut : ∀ (w' : World), CRel R w' μ (.rows e' zs) B → CRel R w' μ (.rows e' (zs.take s)) B := by
          intro w' hr
          rcases hr with ⟨h0, h1⟩ | ⟨m, cap, arr, ty', heq, hb, hsza, hlx, hcap, hl⟩
          · exact .inl ⟨h0, by rw [h1]; exact List.take_nil⟩
          · refine .inr ⟨m, cap, arr, ty', heq, hb, hsza, by rw [List.length_take]; omega, hcap, ?_⟩
            rw [flat_take, List.length_take]
            have := hl.take (s * e'.sz)
            rw [List.take_take] at this
            have e1 : min (s * e'.sz) (zs.length * e'.sz) = min s zs.length * e'.sz := by
              rcases Nat.le_total s zs.length with h | h
              · rw [Nat.min_eq_left h, Nat.min_eq_left (Nat.mul_le_mul_right _ h)]
              · rw [Nat.min_eq_right h, Nat.min_eq_right (Nat.mul_le_mul_right _ h)]
            rw [e1] at this
            exact this
        have hsub : (ownC (.rows e' (zs.take s)) B).Sublist (ownC (.rows e' zs) B) := by cases B <;> simp [ownC]
        by_cases h0 : n = 0
        · subst h0
          obtain ⟨H', hst⟩ := H.set (c' := .rows e' (zs.take s)) (w' := w) hct hB hsub (fun _ _ _ => rfl) (Nat.le_refl _) (cut w hr) rfl rfl rfl
          refine ⟨w, _, ?_, hK, H', hst⟩
          cases hx with
          | sl => simp [Builtin.clear_, run_underlying hk]
          | sl0 => rename_i a _; cases a <;> simp [Builtin.clear_, run_underlying hk]
        · obtain ⟨n', rfl⟩ : ∃ n', n = n' + 1 := ⟨n - 1, by omega⟩
          cases hx with
          | @sl _ _ _ _ _ b' cap c h1 hc1 hl1 hm1 =>
            rcases hr with ⟨hr0, hr1⟩ | ⟨m, cap', arr, ty', heq, hb, hsza, hlx, hcap, hl⟩
            · rw [hr1] at hn; simp at hn
            · rw [hB] at h1
              obtain rfl := Option.some.inj h1
              simp only [Bind.blk.injEq] at heq
              obtain ⟨rfl, rfl⟩ := heq
              have hsz0 := e'.sz_pos
              have hzc : (Builtin.zeroCells z.cells (n' + 1)).size = (n' + 1) * e'.sz := by rw [size_zeroCells, hzs]
              have hfit : s * e'.sz + (Builtin.zeroCells z.cells (n' + 1)).toList.length ≤ arr.size := by
                rw [Array.length_toList, hzc, ← Nat.add_mul, hsza]
                exact Nat.mul_le_mul_right _ (by omega)
              have hst := run_storeCells_at P b' (s * e'.sz) ty' (Builtin.zeroCells z.cells (n' + 1)).toList 0 arr w hb (by simpa using hfit) (zeroCells_one (zone_ok hi hz hone) (by omega) _)
              simp only [Nat.add_zero] at hst
              have hrun : (Builtin.clear_ #[t] ty #[.slice (some ⟨b', s * e'.sz, none⟩) (n' + 1) c]).run P w = .ok (.tuple #[]) (w.setRow b' (arr.toList.take (s * e'.sz) ++ (Builtin.zeroCells z.cells (n' + 1)).toList ++ arr.toList.drop (s * e'.sz + (Builtin.zeroCells z.cells (n' + 1)).toList.length)).toArray) := by
                simp [Builtin.clear_, run_underlying hk, zeroValue, typeInfo, hi, hz, hst]
              have hnew := setRow_heap w b' arr (arr.toList.take (s * e'.sz) ++ (Builtin.zeroCells z.cells (n' + 1)).toList ++ arr.toList.drop (s * e'.sz + (Builtin.zeroCells z.cells (n' + 1)).toList.length)).toArray ty' (0, 0) hb
              obtain ⟨H', hstep⟩ := H.set (c' := .rows e' (zs.take s)) (w' := w.setRow b' (arr.toList.take (s * e'.sz) ++ (Builtin.zeroCells z.cells (n' + 1)).toList ++ arr.toList.drop (s * e'.sz + (Builtin.zeroCells z.cells (n' + 1)).toList.length)).toArray) hct hB hsub
                (fun m _ hm => setRow_other w b' m _ (fun e => hm (by simp [ownC, e]))) (by simp)
                (.inr ⟨b', cap, _, ty', rfl, hnew, by
                  rw [Array.length_toList, hzc] at hfit
                  simp only [List.size_toArray, List.length_append, List.length_take, List.length_drop, Array.length_toList, hzc]
                  omega, by rw [List.length_take]; omega, hcap, by
                  have hsl : (zs.take s).length = s := by rw [List.length_take]; omega
                  rw [flat_take, hsl, List.toList_toArray, List.append_assoc, List.take_append_of_le_length (by rw [List.length_take, Array.length_toList]; rw [Array.length_toList] at hfit; omega), List.take_take, Nat.min_self]
                  have := hl.take (s * e'.sz)
                  rw [List.take_take, Nat.min_eq_left (Nat.mul_le_mul_right _ (by omega))] at this
                  exact this⟩) rfl rfl rfl
              exact ⟨_, _, hrun, hK, H', hstep⟩
      · exact hK.elim
    · exact hK.elim
  · exact hK.elim
end Go.V
