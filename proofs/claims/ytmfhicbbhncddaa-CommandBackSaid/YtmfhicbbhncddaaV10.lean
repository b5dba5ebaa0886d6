/-
  Rows that are frozen; literals of slices; min and max.
-/
import Derived.Test.YtmfhicbbhncddaaV9
import Derived.Laws.MakeOwn
set_option linter.unusedVariables false
set_option linter.unusedSimpArgs false
namespace Go.V

variable {P : Program} {R : RO} {μ : List Bind} {h : List Ch} {w : World}

def frz1 (a : AV) (h : List Ch) (K : AV → List Ch → Prop) : Prop :=
  match a with
  | .sl b e s n => (match hth h b with
    | .rows e' xs => (match asE e e' xs with
      | some xs => (s + n ≤ xs.length) ∧ K (.ro e ((xs.drop s).take n)) (h.set b .gone)
      | none => False)
    | _ => False)
  | a => K a h
def frzL : List AV → List Ch → (List AV → List Ch → Prop) → Prop
  | [], h, K => K [] h
  | a :: l, h, K => frz1 a h fun a h => frzL l h fun l h => K (a :: l) h
def frzX (x : AV) (h : List Ch) (K : AV → List Ch → Prop) : Prop :=
  match x with
  | .agg l => frzL l h fun l h => K (.agg l) h
  | x => frz1 x h K
def frzP : List (Nat × AV) → List Ch → (List (Nat × AV) → List Ch → Prop) → Prop
  | [], h, K => K [] h
  | (i, x) :: l, h, K => frzX x h fun x h => frzP l h fun l h => K ((i, x) :: l) h

/-- what a ghost step leaves -/
def Ghost (R : RO) (μ : List Bind) (h : List Ch) (w : World) (F : RO → List Ch → Prop) : Prop :=
  ∃ R' h', F R' h' ∧ HOk R' μ h' w ∧ R.le R' ∧ Step (ownH h μ) R w (ownH h' μ) R' w
theorem frz1_ok (H : HOk R μ h w) {a : AV} {v : Value} {K : AV → List Ch → Prop} (ha : Rel R μ a v) (hK : frz1 a h K) : Ghost R μ h w fun R' h' => ∃ a', K a' h' ∧ Rel R' μ a' v := by
  unfold frz1 at hK
  split at hK
  · rename_i b e s n
    split at hK
    · rename_i e' zs hc
      split at hK
      · rename_i xs hy
        obtain ⟨rfl, hy⟩ := asE_some hy
        change zs = xs at hy
        subst hy
        obtain ⟨hle, hK⟩ := hK
        obtain ⟨R', H', hst, hR, hf⟩ := H.freeze (hth_get hc (by simp))
        exact ⟨R', _, ⟨_, hK, hf s n v ha hle⟩, H', hR, hst⟩
      · exact hK.elim
    · exact hK.elim
  · exact ⟨R, h, ⟨a, hK, ha⟩, H, RO.le.refl R, Step.refl _ _ _⟩
theorem Ghost.next {F G : RO → List Ch → Prop} (g : Ghost R μ h w F) (k : ∀ R' h', F R' h' → HOk R' μ h' w → R.le R' → Ghost R' μ h' w G) : Ghost R μ h w G := by
  obtain ⟨R1, h1, f, H1, le1, st1⟩ := g
  obtain ⟨R2, h2, f2, H2, le2, st2⟩ := k R1 h1 f H1 le1
  exact ⟨R2, h2, f2, H2, le1.trans le2, st1.trans st2⟩
theorem frzL_ok : ∀ {l : List AV} {vs : List Value} {R : RO} {h : List Ch} {K : List AV → List Ch → Prop}, HOk R μ h w → LRel R μ l vs → frzL l h K → Ghost R μ h w fun R' h' => ∃ l', K l' h' ∧ LRel R' μ l' vs
  | [], _, R, h, K, H, hl, hK => by cases hl; exact ⟨R, h, ⟨[], hK, .nil⟩, H, RO.le.refl R, Step.refl _ _ _⟩
  | a :: l, _, R, h, K, H, hl, hK => by
    cases hl with
    | cons ha hl =>
      refine (frz1_ok H ha hK).next fun R1 h1 ⟨a', hK1, ha'⟩ H1 le1 => ?_
      refine (frzL_ok H1 (hl.mono le1 (Ext.refl μ)) hK1).next fun R2 h2 ⟨l', hK2, hl'⟩ H2 le2 => ?_
      exact ⟨R2, h2, ⟨_, hK2, .cons (ha'.mono le2 (Ext.refl μ)) hl'⟩, H2, RO.le.refl _, Step.refl _ _ _⟩
theorem frzX_ok (H : HOk R μ h w) {x : AV} {v : Value} {K : AV → List Ch → Prop} (hx : Rel R μ x v) (hK : frzX x h K) : Ghost R μ h w fun R' h' => ∃ x', K x' h' ∧ Rel R' μ x' v := by
  unfold frzX at hK
  split at hK
  · cases hx with
    | agg hl => exact (frzL_ok H hl hK).next fun R1 h1 ⟨l', hK1, hl'⟩ H1 le1 => ⟨R1, h1, ⟨_, hK1, .agg hl'⟩, H1, RO.le.refl _, Step.refl _ _ _⟩
  · exact frz1_ok H hx hK
theorem PRel.mono {R R' : RO} (hR : R.le R') : ∀ {l : List (Nat × AV)} {vs : List (Nat × Value)}, PRel R μ l vs → PRel R' μ l vs
  | _, _, .nil => .nil
  | _, _, .cons h hs => .cons (h.mono hR (Ext.refl μ)) (PRel.mono hR hs)
theorem frzP_ok : ∀ {l : List (Nat × AV)} {vs : List (Nat × Value)} {R : RO} {h : List Ch} {K : List (Nat × AV) → List Ch → Prop}, HOk R μ h w → PRel R μ l vs → frzP l h K → Ghost R μ h w fun R' h' => ∃ l', K l' h' ∧ PRel R' μ l' vs
  | [], _, R, h, K, H, hl, hK => by cases hl; exact ⟨R, h, ⟨[], hK, .nil⟩, H, RO.le.refl R, Step.refl _ _ _⟩
  | (i, a) :: l, _, R, h, K, H, hl, hK => by
    cases hl with
    | cons ha hl =>
      refine (frzX_ok H ha hK).next fun R1 h1 ⟨a', hK1, ha'⟩ H1 le1 => ?_
      refine (frzP_ok H1 (hl.mono le1) hK1).next fun R2 h2 ⟨l', hK2, hl'⟩ H2 le2 => ?_
      exact ⟨R2, h2, ⟨_, hK2, .cons (ha'.mono le2 (Ext.refl μ)) hl'⟩, H2, RO.le.refl _, Step.refl _ _ _⟩

/-- the elements of a slice literal, all of them in order -/
def elemsK (e : Ety) : List (Nat × AV) → Nat → (List e.T → Prop) → Prop
  | [], _, K => K []
  | (i, x) :: r, j, K => (match e.dec (cellsA x) with
    | some y => (i = j ∧ okCells (cellsA x) ∧ tfs (cellsA x) ∧ e.decOk (cellsA x)) ∧ elemsK e r (j + 1) fun ys => K (y :: ys)
    | none => False)
theorem setA_any : ∀ (l : List AV) (m : Nat), setA (List.replicate (l.length + m) .any) 0 l = l ++ List.replicate m .any
  | [], m => by simp [setA]
  | a :: l, m => by
    have h1 : List.replicate ((a :: l).length + m) AV.any = AV.any :: List.replicate (l.length + m) .any := by
      rw [List.length_cons, show l.length + 1 + m = (l.length + m) + 1 from by omega, List.replicate_succ]
    simp only [setA]
    rw [h1, List.set_cons_zero]
    have h2 := setA_right l [a] (List.replicate (l.length + m) .any) 0
    simp only [List.length_singleton, List.singleton_append] at h2
    rw [h2, setA_any l m]
    rfl
/-- cells that lie as these elements do -/
def AsRow (e : Ety) (zs : List AV) (ys : List e.T) : Prop := zs.length = ys.length * e.sz ∧ ∀ (R : RO) (μ : List Bind) (vs : List Value), LRel R μ zs vs → LRel R [] (ys.flatMap e.enc) vs
theorem AsRow.snoc {e : Ety} {A l : List AV} {pre : List e.T} {y : e.T} (h : AsRow e A pre) (hd : e.dec l = some y) (htf : tfs l) (ho : e.decOk l) : AsRow e (A ++ l) (pre ++ [y]) := by
  refine ⟨by rw [List.length_append, h.1, dec_len e l y hd, List.length_append, List.length_singleton, Nat.add_mul, Nat.one_mul], fun R μ vs hr => ?_⟩
  obtain ⟨us, us', rfl, h1, h2⟩ := hr.split
  rw [List.flatMap_append]
  refine (h.2 R μ us h1).app ?_
  have := e.dec_ok hd ho (h2.free (tfs_ok htf) [])
  simpa using this
theorem elems_fill {e : Ety} {K : List e.T → Prop} : ∀ (parts : List (Nat × AV)) (j m : Nat) (A : List AV) (pre : List e.T), AsRow e A pre → pre.length = j → m = parts.length → elemsK e parts j (fun ys => K (pre ++ ys)) →
    fillK (fun i => some (i * e.sz, e.sz)) (A ++ List.replicate (m * e.sz) .any) parts fun zs => ∃ ys, AsRow e zs ys ∧ ys.length = j + m ∧ K ys
  | [], j, m, A, pre, hA, hj, hm, h => by
    simp only [List.length_nil] at hm
    subst hm
    simp only [Nat.zero_mul, List.replicate_zero, List.append_nil, fillK]
    exact ⟨pre, hA, by omega, by simpa [elemsK] using h⟩
  | (i, x) :: r, j, m, A, pre, hA, hj, hm, h => by
    simp only [elemsK] at h
    split at h
    · rename_i y hy
      obtain ⟨⟨rfl, ho, htf, hd⟩, h⟩ := h
      have hlen : (cellsA x).length = e.sz := dec_len e _ y hy
      have hAl : A.length = i * e.sz := by rw [hA.1, hj]
      simp only [List.length_cons] at hm
      have hm' : m * e.sz = (cellsA x).length + r.length * e.sz := by rw [hm, hlen, Nat.succ_mul]; omega
      simp only [fillK]
      refine ⟨⟨hlen, by simp only [List.length_append, List.length_replicate, hAl, hm', hlen]; omega⟩, ho, ?_⟩
      rw [← hAl, show A.length = A.length + 0 from rfl, setA_right, hm', setA_any, ← List.append_assoc]
      have := elems_fill r (i + 1) r.length (A ++ cellsA x) (pre ++ [y]) (hA.snoc hy htf hd) (by simp [hj]) rfl (by simpa using h)
      rw [hm]
      simpa [Nat.add_assoc, Nat.add_comm 1] using this
    · exact h.elim

variable [ETab]
def bsK (P : Program) (t : TypeId) (n : Nat) (parts : List (Nat × AV)) (h : List Ch) (K : AV → List Ch → Prop) : Prop :=
  match kdT P t with
  | .slice el => (match ETab.of t with
    | some e => (szT P el = e.sz ∧ zlenT P el = e.sz ∧ n * e.sz ≤ 16777216 ∧ parts.length = n) ∧
      frzP parts h fun parts h => elemsK e parts 0 fun ys => K (.sl h.length e 0 n) (h ++ [.rows e ys])
    | none => False)
  | _ => False

omit [ETab] in
theorem frzP_len : ∀ (l : List (Nat × AV)) (h : List Ch) (K : List (Nat × AV) → List Ch → Prop), frzP l h K → frzP l h fun l' h' => l'.length = l.length ∧ K l' h' := by
  have m1 : ∀ (a : AV) (h : List Ch) (K K' : AV → List Ch → Prop), (∀ a h, K a h → K' a h) → frz1 a h K → frz1 a h K' := by
    intro a h K K' hk hh
    unfold frz1 at *
    split at hh
    · split at hh
      · split at hh
        · exact ⟨hh.1, hk _ _ hh.2⟩
        · exact hh
      · exact hh
    · exact hk _ _ hh
  have mL : ∀ (l : List AV) (h : List Ch) (K K' : List AV → List Ch → Prop), (∀ a h, K a h → K' a h) → frzL l h K → frzL l h K' := by
    intro l
    induction l with
    | nil => intro h K K' hk hh; exact hk _ _ hh
    | cons a l ih => intro h K K' hk hh; exact m1 a h _ _ (fun a h hh => ih h _ _ (fun l h hh => hk _ _ hh) hh) hh
  have mX : ∀ (x : AV) (h : List Ch) (K K' : AV → List Ch → Prop), (∀ a h, K a h → K' a h) → frzX x h K → frzX x h K' := by
    intro x h K K' hk hh
    unfold frzX at *
    split at hh
    · exact mL _ _ _ _ (fun l h hh => hk _ _ hh) hh
    · exact m1 _ _ _ _ hk hh
  intro l
  induction l with
  | nil => intro h K hh; exact ⟨rfl, hh⟩
  | cons p l ih =>
    intro h K hh
    obtain ⟨i, x⟩ := p
    refine mX x h _ _ (fun x h hh => ?_) hh
    have mP : ∀ (l : List (Nat × AV)) (h : List Ch) (K K' : List (Nat × AV) → List Ch → Prop), (∀ a h, K a h → K' a h) → frzP l h K → frzP l h K' := by
      intro l
      induction l with
      | nil => intro h K K' hk hh; exact hk _ _ hh
      | cons p l ih => intro h K K' hk hh; exact mX p.2 h _ _ (fun a h hh => ih h _ _ (fun l h hh => hk _ _ hh) hh) hh
    exact mP _ _ _ _ (fun l' h' hh => ⟨by simp [hh.1], hh.2⟩) (ih _ _ hh)

theorem bsK_ok (H : HOk R μ h w) {t : TypeId} {n : Nat} {parts : List (Nat × AV)} {vals : List (Nat × Value)} {K : AV → List Ch → Prop} (hp : PRel R μ parts vals) (hK : bsK P t n parts h K) : GivesH P R μ h w K (Instr.buildSlice t n vals.toArray) := by
  unfold bsK at hK
  split at hK
  · rename_i el hk
    split at hK
    · rename_i e he
      obtain ⟨⟨hsz, hzl, hn, hpl⟩, hK⟩ := hK
      obtain ⟨R1, h1, ⟨parts', ⟨hlen, hK1⟩, hp1⟩, H1, le1, st1⟩ := frzP_ok H hp (frzP_len _ _ _ hK)
      obtain ⟨i, hi, hisz, _⟩ := el_info hsz
      obtain ⟨i', z, hi', hz, hzs⟩ := zero_info hzl
      obtain rfl : i' = i := by rw [hi] at hi'; exact (Option.some.inj hi').symm
      have hfill := elems_fill (K := fun ys => K (.sl h1.length e 0 n) (h1 ++ [.rows e ys])) parts' 0 n [] [] ⟨by simp, fun R μ vs h => by cases h; exact .nil⟩ rfl (by rw [hlen, hpl]) (by simpa using hK1)
      generalize hzc : (if n * e.sz = 0 then #[] else z.cells : Array Value) = zc
      have hany : LRel R1 μ ([] ++ List.replicate (n * e.sz) .any) ((Array.range (n * e.sz)).map (zc[· % zc.size]!)).toList := by
        have key : ∀ (l : List Value), LRel R1 μ (List.replicate l.length .any) l := by
          intro l
          induction l with
          | nil => exact .nil
          | cons a l ih => exact .cons .any ih
        have := key ((Array.range (n * e.sz)).map (zc[· % zc.size]!)).toList
        simpa using this
      obtain ⟨zs', cs', ⟨ys, hrow, hyl, hK2⟩, hrel, hrun⟩ := fillK_ok _ _ _ _ hp1 hany hfill
      have hsz0 : szT P el ≠ 0 := by rw [hsz]; exact Nat.pos_iff_ne_zero.1 e.sz_pos
      have hr0 : LRel R1 [] (ys.flatMap e.enc) cs'.toList := hrow.2 _ _ _ hrel
      have hcl : cs'.size = n * e.sz := by
        rw [← Array.length_toList, ← hr0.len, flat_len, hyl, Nat.zero_add]
      have hyn : ys.length = n := by omega
      have hcm : n ≤ maxLen := by
        have := e.sz_pos
        have h2 : n ≤ n * e.sz := Nat.le_mul_of_pos_right _ this
        have : (16777216 : Nat) ≤ maxLen := by decide
        omega
      obtain ⟨H', hst⟩ := H1.push (w' := w.alloc (.cells cs' el)) (c := .rows e ys) (B := .blk w.heap.size n) (fun n hn => RowKit.Below.heap_alloc w _ n hn) (by simp) (by simp [ownC]) (fun n hn => by simp [ownC] at hn; subst hn; simp)
        (.inr ⟨w.heap.size, n, cs', el, rfl, heap_alloc_new w _, hcl, by omega, hcm, by rw [hyn, List.take_of_length_le (by rw [Array.length_toList, hcl]; exact Nat.le_refl _)]; exact hr0⟩) rfl rfl rfl
      refine ⟨.slice (some ⟨w.heap.size, 0, none⟩) n n, _, R1, _, _, _, ?_, hK2, ?_, H', Ext.app _ _, st1.trans hst⟩
      · have hnot : ¬ (n * e.sz > 2 ^ 24) := by omega
        by_cases h0 : n * e.sz = 0
        · rw [if_pos h0] at hzc
          subst hzc
          simp only [Instr.buildSlice, Sem.run_bind, run_underlying (kd_slice hk), Result.andThen_ok, run_sizeOf hsz0, hsz, if_neg hnot, if_pos h0, List.toList_toArray, hrun, newRow, run_newObj, Sem.run_pure]
          rfl
        · rw [if_neg h0] at hzc
          subst hzc
          have hzr : (zeroValue el).run P w = .ok z w := by simp [zeroValue, typeInfo, hi, hz]
          simp only [Instr.buildSlice, Sem.run_bind, run_underlying (kd_slice hk), Result.andThen_ok, run_sizeOf hsz0, hsz, if_neg hnot, if_neg h0, hzr, List.toList_toArray, hrun, newRow, run_newObj, Sem.run_pure]
          rfl
      · have := Rel.sl (R := R1) (μ := μ ++ [.blk w.heap.size n]) (t := h1.length) (e := e) (start := 0) (len := n) (b := w.heap.size) (cap := n) (c := n) (by rw [H1.rel.len]; simp) (by omega) (Nat.le_refl _) hcm
        simpa using this
    · exact hK.elim
  · exact hK.elim
omit [ETab] in
theorem made_list {z : Array Value} {s : Nat} (hs : z.size = s) (h0 : 0 < s) : ∀ n : Nat, (madeCells z (n * s)).toList = (List.replicate n z.toList).flatten := by
  have key : ∀ n : Nat, (List.range (n * s)).map (fun j => z[j % z.size]!) = (List.replicate n z.toList).flatten := by
    intro n
    induction n with
    | zero => simp
    | succ n ih =>
      rw [List.replicate_succ, List.flatten_cons, ← ih]
      have e : (n + 1) * s = s + n * s := by rw [Nat.succ_mul, Nat.add_comm]
      rw [e, List.range_add, List.map_append, List.map_map]
      congr 1
      · apply List.ext_getElem
        · simp [hs]
        · intro i h1 h2
          simp at h1 h2
          simp [hs, Nat.mod_eq_of_lt h1]
          rw [getElem!_pos z i h2]
      · apply List.map_congr_left
        intro j _
        simp only [Function.comp, hs]
        rw [Nat.add_mod_left]
  intro n
  rw [← key n]
  simp [madeCells]
omit [ETab] in
theorem rep_rel {e : Ety} {y : e.T} {vs : List Value} (h : LRel R [] (e.enc y) vs) : ∀ n : Nat, LRel R [] ((List.replicate n y).flatMap e.enc) (List.replicate n vs).flatten := by
  intro n
  induction n with
  | zero => simp; exact .nil
  | succ n ih =>
    simp only [List.replicate_succ, List.flatMap_cons, List.flatten_cons]
    exact h.app ih
theorem mkK_ok (H : HOk R μ h w) {t : TypeId} {l c : AV} {vl vc : Value} {K : AV → List Ch → Prop} (hl : Rel R μ l vl) (hc : Rel R μ c vc) (hK : mkK P t l c h K) : GivesH P R μ h w K (Instr.makeSlice t vl vc) := by
  unfold mkK at hK
  split at hK
  · rename_i el kl a kc b hk
    split at hK
    · rename_i e zs he hz
      split at hK
      · rename_i y hy
        obtain ⟨⟨⟨hsz, hzl⟩, ⟨h0, hab⟩, hb, h63, htf, hok⟩, hK⟩ := hK
        cases hl; cases hc
        obtain ⟨i, hi, hisz, hib⟩ := el_info hsz
        unfold zeroT at hz
        rw [hi] at hz
        simp only at hz
        cases hzz : i.zero with
        | none => rw [hzz] at hz; simp at hz
        | some z =>
          rw [hzz] at hz
          simp only [Option.some.injEq] at hz
          subst hz
          have hrel0 := ofV_rels R [] z.cells.toList
          have hrel := e.dec_ok hy hok hrel0
          have hzs : z.cells.size = e.sz := by simpa using hzl
          have hrun := run_make (P := P) w t el i z (kd_slice hk) hi hzz kl kc a b h0 hab (by rw [hib]; exact hb) h63
          have hsz0 := e.sz_pos
          have hcl : (madeCells z.cells (b.toNat * e.sz)).size = b.toNat * e.sz := size_madeCells _ _
          have hml : b.toNat ≤ maxLen := by
            have : maxLen = 9223372036854775807 := by decide
            omega
          have hab' : a.toNat ≤ b.toNat := by omega
          rw [hisz] at hrun
          obtain ⟨H', hst⟩ := H.push (w' := w.alloc (.cells (madeCells z.cells (b.toNat * e.sz)) el)) (c := .rows e (List.replicate a.toNat y)) (B := .blk w.heap.size b.toNat) (fun n hn => RowKit.Below.heap_alloc w _ n hn) (by simp) (by simp [ownC]) (fun n hn => by simp [ownC] at hn; subst hn; simp)
            (.inr ⟨w.heap.size, b.toNat, _, el, rfl, heap_alloc_new w _, hcl, by simpa using hab', hml, by
              rw [made_list hzs hsz0, List.length_replicate]
              have e1 : (List.replicate b.toNat z.cells.toList).flatten = (List.replicate a.toNat z.cells.toList).flatten ++ (List.replicate (b.toNat - a.toNat) z.cells.toList).flatten := by
                rw [← List.flatten_append, List.replicate_append_replicate]
                congr 2
                omega
              have e2 : (List.replicate a.toNat z.cells.toList).flatten.length = a.toNat * e.sz := by
                rw [List.length_flatten]
                simp [hzs]
              rw [e1, ← e2, List.take_left]
              exact rep_rel hrel _⟩) rfl rfl rfl
          refine ⟨_, _, R, _, _, _, hrun, hK, ?_, H', Ext.app _ _, hst⟩
          have := Rel.sl (R := R) (μ := μ ++ [.blk w.heap.size b.toNat]) (t := h.length) (e := e) (start := 0) (len := a.toNat) (b := w.heap.size) (cap := b.toNat) (c := b.toNat) (by rw [H.rel.len]; simp) (by omega) hab' hml
          simpa using this
      · exact hK.elim
    · exact hK.elim
  · exact hK.elim
end Go.V
