/-
  Soundness of the operations on memory.
-/
import Derived.Test.YtmfhicbbhncddaaV5
set_option linter.unusedVariables false
set_option linter.unusedSimpArgs false
namespace Go.V

variable {P : Program} {R : RO} {μ : List Bind} {h : List Ch} {w : World}

def GivesH (P : Program) (R : RO) (μ : List Bind) (h : List Ch) (w : World) (K : AV → List Ch → Prop) (s : Sem Value) : Prop :=
  ∃ v w' R' μ' h' av, s.run P w = .ok v w' ∧ K av h' ∧ Rel R' μ' av v ∧ HOk R' μ' h' w' ∧ Ext μ μ' ∧ Step (ownH h μ) R w (ownH h' μ') R' w'

theorem Rel.one {a : AV} {v : Value} (h : Rel R μ a v) (hc : a.cell = true) : v.oneCell' = true := by
  cases h <;> first | rfl | simp [AV.cell] at hc
  exact hc
theorem cells_rel {x : AV} {v : Value} (hx : Rel R μ x v) (ho : okCells (cellsA x)) : LRel R μ (cellsA x) v.cells.toList ∧ ∀ u ∈ v.cells.toList, u.oneCell' = true := by
  have key : ∀ (l : List AV) (vs : List Value), LRel R μ l vs → okCells l → ∀ u ∈ vs, u.oneCell' = true := by
    intro l
    induction l with
    | nil => intro vs h _ u hu; cases h; simp at hu
    | cons a l ih =>
      intro vs h ho u hu
      cases h with
      | cons h1 h2 =>
        rcases List.mem_cons.1 hu with rfl | hu
        · exact h1.one ho.1
        · exact ih _ h2 ho.2 u hu
  have one : ∀ (x : AV) (v : Value), Rel R μ x v → x.cell = true → LRel R μ [x] v.cells.toList ∧ ∀ u ∈ v.cells.toList, u.oneCell' = true := by
    intro x v hx hc
    have h1 := hx.one hc
    have h2 : v.cells = #[v] := by cases v <;> first | rfl | simp [Value.oneCell'] at h1
    rw [h2]
    exact ⟨.cons hx .nil, fun u hu => by simp at hu; subst hu; exact h1⟩
  cases x with
  | agg l =>
    cases hx with
    | agg hl => exact ⟨by simpa [cellsA, Value.cells] using hl, key _ _ (by simpa [cellsA, Value.cells] using hl) ho⟩
  | _ => exact one _ _ hx ho.1

theorem agg_true {t : TypeId} (h : aggT P t = some true) : ∃ d, P.underlying t = some d ∧ aggD d = true := by
  unfold aggT at h
  split at h <;> simp at h
  · rename_i hk; obtain ⟨fs, hk⟩ := kd_struct hk; exact ⟨_, hk, rfl⟩
  · rename_i hk; exact ⟨_, kd_array hk, rfl⟩
theorem agg_false {t : TypeId} (h : aggT P t = some false) : ∃ d, P.underlying t = some d ∧ aggD d = false := by
  unfold aggT at h
  have hk : kdT P t ≠ .other := by intro e; simp [e] at h
  obtain ⟨d, hd⟩ := kd_ne hk
  refine ⟨d, hd, ?_⟩
  cases d <;> first | rfl | simp [kdT, hd] at h

theorem cell_at {b : Nat} {arr : Array Value} {ty : TypeId} {fr : Nat × Nat} (hb : w.heap[b]? = some (.cells arr ty fr)) (o : Nat) : w.cell? ⟨b, o, none⟩ = arr[o]? := by
  simp [World.cell?, hb]
theorem loadCellsK_ok {t : TypeId} {vs : List AV} {off o b : Nat} {arr : Array Value} {ty : TypeId} {fr : Nat × Nat} {K : AV → Prop} (hb : w.heap[b]? = some (.cells arr ty fr)) (hl : LRel R μ vs ((arr.toList.drop o).take vs.length)) (hK : loadCellsK P t vs off K) :
    ∃ v av, K av ∧ Rel R μ av v ∧ (Instr.loadAt t (.pointer (some ⟨b, o + off, none⟩))).run P w = .ok v w := by
  unfold loadCellsK at hK
  split at hK
  · rename_i ha
    obtain ⟨⟨h1, hz⟩, hK⟩ := hK
    obtain ⟨d, hd, ha⟩ := agg_true ha
    have h2 := (hl.drop off).take (szT P t)
    have hlen := hl.len
    have h3 : (loadCells ⟨b, o + off, none⟩ (((arr.toList.drop o).take vs.length).drop off |>.take (szT P t)).length).run P w = .ok (((arr.toList.drop o).take vs.length).drop off |>.take (szT P t)).toArray w := by
      refine run_loadCells_list w _ _ fun j v hj => ?_
      rw [addr_add, cell_at hb, ← Array.getElem?_toList]
      rw [List.getElem?_take] at hj
      split at hj
      · rw [List.getElem?_drop, List.getElem?_take] at hj
        split at hj
        · rw [List.getElem?_drop] at hj; rw [← hj]; congr 1; omega
        · simp at hj
      · simp at hj
    have h4 : (((arr.toList.drop o).take vs.length).drop off |>.take (szT P t)).length = szT P t := by
      rw [List.length_take, List.length_drop, ← hlen]; omega
    rw [h4] at h3
    refine ⟨_, _, hK, .agg h2, ?_⟩
    simp [Instr.loadAt, Instr.sureAddr, loadVar, run_isAgg hd, ha, run_sizeOf hz, h3]
  · rename_i ha
    obtain ⟨h1, hK⟩ := hK
    obtain ⟨d, hd, ha⟩ := agg_false ha
    have hlen := hl.len
    have h2 : off < ((arr.toList.drop o).take vs.length).length := by omega
    refine ⟨_, _, hK, hl.nth off (List.getElem?_eq_getElem h2), ?_⟩
    have h3 : w.cell? ⟨b, o + off, none⟩ = some ((arr.toList.drop o).take vs.length)[off] := by
      rw [cell_at hb, ← Array.getElem?_toList, ← List.getElem?_eq_getElem h2, List.getElem?_take, if_pos h1, List.getElem?_drop]
    simp [Instr.loadAt, Instr.sureAddr, loadVar, run_isAgg hd, ha, run_load, h3]
  · exact hK.elim

theorem enc_at (e : Ety) (xs : List e.T) (i : Nat) (hi : i < xs.length) {vs : List Value} (hl : LRel R [] (xs.flatMap e.enc) (vs.take (xs.length * e.sz))) : LRel R [] (e.enc (e.get xs i)) ((vs.drop (i * e.sz)).take (e.enc (e.get xs i)).length) := by
  have h1 := (hl.drop (i * e.sz)).take e.sz
  rw [← flat_drop] at h1
  have h2 : ((xs.drop i).flatMap e.enc).take e.sz = e.enc (e.get xs i) := by
    rw [List.drop_eq_getElem_cons hi, List.flatMap_cons, List.take_append_of_le_length (by rw [e.enc_len]; exact Nat.le_refl _), List.take_of_length_le (by rw [e.enc_len]; exact Nat.le_refl _)]
    simp [Ety.get, List.getD_eq_getElem?_getD, List.getElem?_eq_getElem hi]
  rw [h2] at h1
  rw [e.enc_len]
  have h3 : (vs.drop (i * e.sz)).take e.sz = ((vs.take (xs.length * e.sz)).drop (i * e.sz)).take e.sz := by
    rw [List.drop_take, List.take_take, Nat.min_eq_left]
    rw [← Nat.sub_mul]
    exact Nat.le_mul_of_pos_left _ (by omega)
  rw [h3]; exact h1

theorem loadK_ok (H : HOk R μ h w) {t : TypeId} {a : AV} {va : Value} {K : AV → Prop} (ha : Rel R μ a va) (hK : loadK P t a h K) :
    ∃ v av, K av ∧ Rel R μ av v ∧ (Instr.loadAt t va).run P w = .ok v w := by
  unfold loadK at hK
  split at hK
  · rename_i b off
    split at hK
    · rename_i vs hc
      obtain ⟨B, hB, ⟨n, arr, ty, rfl, hb, hl⟩, _⟩ := H.rel.get (hth_get hc (by simp))
      cases ha with
      | ptr h1 h2 =>
        rw [hB] at h1
        obtain rfl := Option.some.inj h1
        simp only [Bind.obj, Option.some.injEq] at h2
        subst h2
        have := loadCellsK_ok (o := 0) hb (by rw [List.drop_zero, List.take_of_length_le (by rw [hl.len]; exact Nat.le_refl _)]; exact hl) hK
        rwa [Nat.zero_add] at this
    · exact hK.elim
  · rename_i b e i off
    split at hK
    · rename_i e' xs hc
      split at hK
      · rename_i ys hy
        obtain ⟨rfl, rfl⟩ := asE_some hy
        obtain ⟨hi, hK⟩ := hK
        obtain ⟨B, hB, hr, _⟩ := H.rel.get (hth_get hc (by simp))
        rcases hr with ⟨rfl, rfl⟩ | ⟨n, cap, arr, ty, rfl, hb, hsz, hlen, hcap, hl⟩
        · simp at hi
        · cases ha with
          | ep h1 =>
            rw [hB] at h1
            simp only [Option.some.injEq, Bind.blk.injEq] at h1
            obtain ⟨rfl, rfl⟩ := h1
            obtain ⟨v, av, h2, h3, h4⟩ := loadCellsK_ok (R := R) (μ := []) hb (enc_at e' xs i hi hl) hK
            exact ⟨v, av, h2, h3.mono (RO.le.refl R) (Ext.nil μ), h4⟩
      · exact hK.elim
    · exact hK.elim
  · rename_i e xs i off
    cases ha with
    | @rp _ _ _ b o _ _ arr ty fr hb hl hi =>
      have hb' := H.ro _ _ hb
      have hl' := enc_at e xs i hi hl
      rw [List.drop_drop] at hl'
      obtain ⟨v, av, h2, h3, h4⟩ := loadCellsK_ok (R := R) (μ := []) hb' hl' hK
      exact ⟨v, av, h2, h3.mono (RO.le.refl R) (Ext.nil μ), h4⟩
  · exact hK.elim
end Go.V
