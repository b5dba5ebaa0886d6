/-
  Soundness of stores, new blocks, append.
  Soundness of append.
  Literals of structs and slices, conversions, further builtins; rows that are frozen.
-/
import Derived.Test.YtifighagbpjogaaPart02
set_option linter.unusedVariables false
set_option linter.unusedSimpArgs false
namespace Go.V

variable {P : Program} {R : RO} {μ : List Bind} {h : List Ch} {w : World}

theorem setA_rel : ∀ (l : List AV) (vs : List AV) (off : Nat) (ws us : List Value), LRel R μ vs ws → LRel R μ l us → off + l.length ≤ vs.length → LRel R μ (setA vs off l) (ws.take off ++ us ++ ws.drop (off + us.length))
  | [], vs, off, ws, us, hv, hl, _ => by
    cases hl
    simp [setA]; exact hv
  | a :: l, vs, off, ws, us, hv, hl, hlen => by
    cases hl with
    | @cons _ _ u _ us ha hl =>
      have h1 := setA_rel l (vs.set off a) (off + 1) (ws.set off u) us (hv.set off ha) hl (by simp at hlen ⊢; omega)
      have hw := hv.len
      have hlt : off < ws.length := by simp at hlen; omega
      simp only [setA]
      have e : (ws.set off u).take (off + 1) ++ us ++ (ws.set off u).drop (off + 1 + us.length) = ws.take off ++ u :: us ++ ws.drop (off + (u :: us).length) := by
        rw [List.take_set, List.drop_set_of_lt (by omega)]
        have : (ws.take (off + 1)).set off u = ws.take off ++ [u] := by
          rw [List.take_succ_eq_append_getElem hlt, List.set_append_right _ _ (by simp; omega)]
          simp [Nat.min_eq_left (Nat.le_of_lt hlt)]
        rw [this]
        simp [Nat.add_assoc, Nat.add_comm 1]
      rw [← e]; exact h1
theorem setA_left : ∀ (l A B : List AV) (off : Nat), off + l.length ≤ A.length → setA (A ++ B) off l = setA A off l ++ B
  | [], _, _, _, _ => rfl
  | a :: l, A, B, off, h => by
    simp only [setA]
    rw [List.set_append_left _ _ (by simp at h; omega), setA_left l (A.set off a) B (off + 1) (by simp at h ⊢; omega)]
theorem setA_right : ∀ (l A B : List AV) (k : Nat), setA (A ++ B) (A.length + k) l = A ++ setA B k l
  | [], _, _, _ => rfl
  | a :: l, A, B, k => by
    simp only [setA]
    rw [List.set_append_right _ _ (by omega), Nat.add_sub_cancel_left, Nat.add_assoc, setA_right l A (B.set k a) (k + 1)]
theorem flat_at (e : Ety) (l : List AV) (off : Nat) : ∀ (xs : List e.T) (i : Nat), i < xs.length → off + l.length ≤ e.sz → setA (xs.flatMap e.enc) (i * e.sz + off) l = (xs.take i).flatMap e.enc ++ (setA (e.enc (e.get xs i)) off l ++ (xs.drop (i + 1)).flatMap e.enc)
  | [], i, h, _ => by simp at h
  | x :: xs, 0, _, h => by
    simp only [Nat.zero_mul, Nat.zero_add, List.flatMap_cons, List.take_zero, List.flatMap_nil, List.nil_append, List.drop_succ_cons, List.drop_zero]
    rw [setA_left _ _ _ _ (by rw [e.enc_len]; exact h)]
    rfl
  | x :: xs, i + 1, hi, h => by
    simp only [List.flatMap_cons, List.take_succ_cons, List.drop_succ_cons, List.append_assoc]
    have h1 : (i + 1) * e.sz + off = (e.enc x).length + (i * e.sz + off) := by rw [e.enc_len, Nat.succ_mul]; omega
    rw [h1, setA_right, flat_at e l off xs i (by simpa using hi) h]
    rfl
theorem set_flat (e : Ety) (y : e.T) : ∀ (xs : List e.T) (i : Nat), i < xs.length → (xs.set i y).flatMap e.enc = (xs.take i).flatMap e.enc ++ (e.enc y ++ (xs.drop (i + 1)).flatMap e.enc)
  | [], i, h => by simp at h
  | x :: xs, 0, _ => by simp
  | x :: xs, i + 1, hi => by
    simp only [List.set_cons_succ, List.flatMap_cons, List.take_succ_cons, List.drop_succ_cons, List.append_assoc]
    rw [set_flat e y xs i (by simpa using hi)]
theorem LRel.split {R : RO} {μ : List Bind} : ∀ {l l' : List AV} {vs : List Value}, LRel R μ (l ++ l') vs → ∃ us us', vs = us ++ us' ∧ LRel R μ l us ∧ LRel R μ l' us'
  | [], _, vs, h => ⟨[], vs, rfl, .nil, h⟩
  | a :: l, l', _, h => by
    cases h with
    | cons ha hl =>
      obtain ⟨us, us', h1, h2, h3⟩ := LRel.split hl
      exact ⟨_ :: us, us', by rw [h1]; rfl, .cons ha h2, h3⟩
theorem set_rel {R : RO} {μ : List Bind} (e : Ety) {l : List AV} {off : Nat} {y : e.T} {xs : List e.T} {i : Nat} (hi : i < xs.length) (hf : off + l.length ≤ e.sz) (hd : e.dec (setA (e.enc (e.get xs i)) off l) = some y) (ho : e.decOk (setA (e.enc (e.get xs i)) off l)) {vs : List Value} (h : LRel R μ (setA (xs.flatMap e.enc) (i * e.sz + off) l) vs) : LRel R μ ((xs.set i y).flatMap e.enc) vs := by
  rw [flat_at e l off xs i hi hf] at h
  rw [set_flat e y xs i hi]
  obtain ⟨u1, u2, rfl, h1, h2⟩ := h.split
  obtain ⟨u3, u4, rfl, h3, h4⟩ := h2.split
  exact h1.app ((e.dec_ok hd ho h3).app h4)
theorem Rel.free {R : RO} {μ : List Bind} {a : AV} {v : Value} (h : Rel R μ a v) (ht : a.tf = true) (μ' : List Bind) : Rel R μ' a v := by
  cases h <;> simp [AV.tf] at ht
  case int => exact .int
  case bool => exact .bool
  case str => exact .str
  case lit => exact .lit
  case ro h hl hc hm => exact .ro h hl hc hm
  case ro0 hm => exact .ro0 hm
theorem LRel.free {R : RO} {μ : List Bind} : ∀ {l : List AV} {vs : List Value}, LRel R μ l vs → (∀ a ∈ l, a.tf = true) → ∀ μ', LRel R μ' l vs
  | [], _, .nil, _, _ => .nil
  | _ :: _, _, .cons h hs, ht, μ' => .cons (h.free (ht _ (by simp)) μ') (LRel.free hs (fun a ha => ht a (by simp [ha])) μ')

theorem tfs_ok : ∀ {l : List AV}, tfs l → ∀ a ∈ l, a.tf = true
  | [], _, a, ha => by simp at ha
  | b :: l, h, a, ha => by
    rcases List.mem_cons.1 ha with rfl | ha
    · exact h.1
    · exact tfs_ok h.2 a ha
theorem run_storeVar {t : TypeId} {b off : Nat} {arr : Array Value} {ty : TypeId} {v : Value} (hz : szT P t ≠ 0) (hb : w.heap[b]? = some (.cells arr ty (0, 0))) (hs : v.cells.size = szT P t) (hfit : off + szT P t ≤ arr.size) (h1 : ∀ u ∈ v.cells.toList, u.oneCell' = true) :
    (Instr.storeAt t (.pointer (some ⟨b, off, none⟩)) v).run P w = .ok () (w.setRow b (arr.toList.take off ++ v.cells.toList ++ arr.toList.drop (off + v.cells.toList.length)).toArray) := by
  have hst := run_storeCells_at P b off ty v.cells.toList 0 arr w hb (by simp [hs]; omega) h1
  simp only [Nat.add_zero] at hst
  simp [Instr.storeAt, Instr.sureAddr, storeVar, run_sizeOf hz, hs, hst]

theorem storeK_ok (H : HOk R μ h w) {t : TypeId} {a x : AV} {va vx : Value} {K : List Ch → Prop} (ha : Rel R μ a va) (hx : Rel R μ x vx) (hK : storeK P t a x h K) :
    ∃ w' h', (Instr.storeAt t va vx).run P w = .ok () w' ∧ K h' ∧ HOk R μ h' w' ∧ Step (ownH h μ) R w (ownH h' μ) R w' := by
  unfold storeK at hK
  split at hK
  · rename_i b off
    split at hK
    · rename_i vs hc
      obtain ⟨⟨h1, h2, hz⟩, ho, hK⟩ := hK
      obtain ⟨B, hB, ⟨n, arr, ty, rfl, hb, hl⟩, _⟩ := H.rel.get (hth_get hc (by simp))
      obtain ⟨hxl, hx1⟩ := cells_rel hx ho
      have hlen := hxl.len
      have hlv := hl.len
      cases ha with
      | ptr h3 h4 =>
        rw [hB] at h3
        obtain rfl := Option.some.inj h3
        simp only [Bind.obj, Option.some.injEq] at h4
        subst h4
        have hrun := run_storeVar hz hb (by rw [← Array.length_toList, ← hlen, h1]) (off := off) (by rw [← Array.length_toList, ← hlv]; exact h2) hx1
        have hnew := setRow_heap w n arr (arr.toList.take off ++ vx.cells.toList ++ arr.toList.drop (off + vx.cells.toList.length)).toArray ty (0, 0) hb
        obtain ⟨H', hstep⟩ := H.set (c' := .cells (setA vs off (cellsA x))) (w' := w.setRow n (arr.toList.take off ++ vx.cells.toList ++ arr.toList.drop (off + vx.cells.toList.length)).toArray) (hth_get hc (by simp)) hB (by simp [ownC]) (fun m _ hm => setRow_other w n m _ (fun e => hm (by simp [ownC, e]))) (by simp)
          ⟨n, _, ty, rfl, hnew, by simpa using setA_rel _ _ _ _ _ hl hxl (by rw [h1]; exact h2)⟩ rfl rfl rfl
        exact ⟨_, _, hrun, hK, H', hstep⟩
    · rename_i vs hc
      obtain ⟨⟨h1, h2, hz⟩, ho, hK⟩ := hK
      obtain ⟨B, hB, ⟨n, arr, ty, rfl, hb, hl⟩, _⟩ := H.rel.get (hth_get hc (by simp))
      obtain ⟨hxl, hx1⟩ := cells_rel hx ho
      have hlen := hxl.len
      have hlv := hl.len
      have hle : vs.length ≤ arr.size := by
        have e1 : (arr.toList.take vs.length).length ≤ arr.toList.length := by rw [List.length_take]; exact Nat.min_le_right _ _
        rw [← hlv, Array.length_toList] at e1
        exact e1
      cases ha with
      | ptr h3 h4 =>
        rw [hB] at h3
        obtain rfl := Option.some.inj h3
        simp only [Bind.obj, Option.some.injEq] at h4
        subst h4
        have hus : vx.cells.toList.length = szT P t := by rw [← hlen, h1]
        have hrun := run_storeVar hz hb (by rw [← Array.length_toList]; exact hus) (off := off) (by omega) hx1
        have hnew := setRow_heap w n arr (arr.toList.take off ++ vx.cells.toList ++ arr.toList.drop (off + vx.cells.toList.length)).toArray ty (0, 0) hb
        have hsz : (arr.toList.take off ++ vx.cells.toList ++ arr.toList.drop (off + vx.cells.toList.length)).toArray.size = arr.size := by
          simp only [List.size_toArray, List.length_append, List.length_take, List.length_drop, Array.length_toList, hus]
          omega
        have hval : (arr.toList.take vs.length).take off ++ vx.cells.toList ++ (arr.toList.take vs.length).drop (off + vx.cells.toList.length) = (arr.toList.take off ++ vx.cells.toList ++ arr.toList.drop (off + vx.cells.toList.length)).take vs.length := by
          rw [List.take_take, Nat.min_eq_left (by omega), List.drop_take, List.take_append, List.take_of_length_le (l := arr.toList.take off ++ vx.cells.toList) (by simp only [List.length_append, List.length_take, Array.length_toList, hus]; omega)]
          congr 2
          simp only [List.length_append, List.length_take, Array.length_toList, hus]
          omega
        have hrel := setA_rel (cellsA x) vs off _ _ hl hxl (by rw [h1]; exact h2)
        have hsl : (setA vs off (cellsA x)).length = vs.length := by
          have e1 := hrel.len
          rw [e1]
          simp only [List.length_append, List.length_take, List.length_drop, Array.length_toList, hlen, hus]
          omega
        obtain ⟨H', hstep⟩ := H.set (c' := .crow (setA vs off (cellsA x))) (w' := w.setRow n (arr.toList.take off ++ vx.cells.toList ++ arr.toList.drop (off + vx.cells.toList.length)).toArray) (hth_get hc (by simp)) hB (by simp [ownC]) (fun m _ hm => setRow_other w n m _ (fun e => hm (by simp [ownC, e]))) (by simp)
          ⟨n, _, ty, by rw [hsz], hnew, by
            rw [hsl, List.toList_toArray, ← hval]
            exact hrel⟩ rfl rfl rfl
        exact ⟨_, _, hrun, hK, H', hstep⟩
    · exact hK.elim
  · rename_i b e i off
    split at hK
    · rename_i e' xs hc
      split at hK
      · rename_i ys hy
        obtain ⟨rfl, hy⟩ := asE_some hy
        change xs = ys at hy
        subst hy
        split at hK
        · rename_i y hdec
          obtain ⟨⟨hi, h1, h2, hz⟩, ho, htf, hok, hK⟩ := hK
          obtain ⟨B, hB, hr, _⟩ := H.rel.get (hth_get hc (by simp))
          obtain ⟨hxl, hx1⟩ := cells_rel hx ho
          have hlen := hxl.len
          rcases hr with ⟨rfl, rfl⟩ | ⟨n, cap, arr, ty, rfl, hb, hsz, hlx, hcap, hl⟩
          · simp at hi
          · cases ha with
            | ep h3 =>
              rw [hB] at h3
              simp only [Option.some.injEq, Bind.blk.injEq] at h3
              obtain ⟨rfl, rfl⟩ := h3
              have hrow : i * e'.sz + e'.sz ≤ xs.length * e'.sz := by rw [← Nat.succ_mul]; exact Nat.mul_le_mul_right _ hi
              have hfull : xs.length * e'.sz ≤ arr.size := by rw [hsz]; exact Nat.mul_le_mul_right _ hlx
              have hus : vx.cells.toList.length = szT P t := by rw [← hlen, h1]
              have hfit : i * e'.sz + off + szT P t ≤ arr.size := by omega
              have hrun := run_storeVar hz hb (by rw [← Array.length_toList]; exact hus) (off := i * e'.sz + off) hfit hx1
              have hnew := setRow_heap w n arr (arr.toList.take (i * e'.sz + off) ++ vx.cells.toList ++ arr.toList.drop (i * e'.sz + off + vx.cells.toList.length)).toArray ty (0, 0) hb
              have hrel := set_rel e' hi (by rw [h1]; exact h2) hdec hok (setA_rel (cellsA x) (xs.flatMap e'.enc) (i * e'.sz + off) _ _ hl (hxl.free (tfs_ok htf) []) (by rw [flat_len, h1]; omega))
              have hval : ((arr.toList.take (xs.length * e'.sz)).take (i * e'.sz + off) ++ vx.cells.toList ++ (arr.toList.take (xs.length * e'.sz)).drop (i * e'.sz + off + vx.cells.toList.length)) = (arr.toList.take (i * e'.sz + off) ++ vx.cells.toList ++ arr.toList.drop (i * e'.sz + off + vx.cells.toList.length)).take (xs.length * e'.sz) := by
                rw [List.take_take, Nat.min_eq_left (by omega), List.drop_take, List.take_append, List.take_of_length_le (l := arr.toList.take (i * e'.sz + off) ++ vx.cells.toList) (by simp only [List.length_append, List.length_take, Array.length_toList, hus]; omega)]
                congr 2
                simp only [List.length_append, List.length_take, Array.length_toList, hus]
                omega
              rw [hval] at hrel
              obtain ⟨H', hstep⟩ := H.set (c' := .rows e' (xs.set i y)) (w' := w.setRow n (arr.toList.take (i * e'.sz + off) ++ vx.cells.toList ++ arr.toList.drop (i * e'.sz + off + vx.cells.toList.length)).toArray) (hth_get hc (by simp)) hB (by simp [ownC]) (fun m _ hm => setRow_other w n m _ (fun e => hm (by simp [ownC, e]))) (by simp)
                (.inr ⟨n, cap, _, ty, rfl, hnew, by simp only [List.size_toArray, List.length_append, List.length_take, List.length_drop, Array.length_toList, hus]; omega, by simpa using hlx, hcap, by simpa using hrel⟩) rfl rfl rfl
              exact ⟨_, _, hrun, hK, H', hstep⟩
        · exact hK.elim
      · exact hK.elim
    · exact hK.elim
  · exact hK.elim

theorem newBlock (H : HOk R μ h w) {l : List AV} {vs : List Value} {ty : TypeId} (hl : LRel R μ l vs) :
    HOk R (μ ++ [.cel w.heap.size]) (h ++ [.cells l]) (w.alloc (.cells vs.toArray ty)) ∧ Step (ownH h μ) R w (ownH (h ++ [.cells l]) (μ ++ [.cel w.heap.size])) R (w.alloc (.cells vs.toArray ty)) :=
  H.push (fun n hn => RowKit.Below.heap_alloc w _ n hn) (by simp) (by simp [ownC]) (fun n hn => by simp [ownC] at hn; subst hn; simp)
    ⟨w.heap.size, vs.toArray, ty, rfl, heap_alloc_new w _, by have := hl.mono (RO.le.refl R) (Ext.app μ [.cel w.heap.size]); simpa only [List.toList_toArray] using this⟩ rfl rfl rfl
theorem ptr_new (H : HOk R μ h w) : Rel R (μ ++ [.cel w.heap.size]) (.ptr h.length 0) (.pointer (some ⟨w.heap.size, 0, none⟩)) :=
  .ptr (B := .cel w.heap.size) (by rw [H.rel.len]; simp) rfl
theorem allocK_ok (H : HOk R μ h w) {t : TypeId} {K : AV → List Ch → Prop} (hK : allocK P t h K) : GivesH P R μ h w K (Instr.alloc t true (.tuple #[])) := by
  unfold allocK at hK
  split at hK
  · rename_i zs hz
    unfold zeroT at hz
    split at hz
    · rename_i i hi
      split at hz
      · rename_i z hzz
        simp only [Option.some.injEq] at hz
        subst hz
        have hl := ofV_rels R μ z.cells.toList
        obtain ⟨H', hs⟩ := newBlock H (ty := t) hl
        exact ⟨_, _, R, _, _, _, by simp [Instr.alloc, zeroValue, typeInfo, hi, hzz, newVar, newRow], hK, ptr_new H, H', Ext.app _ _, hs⟩
      · simp at hz
    · simp at hz
  · exact hK.elim
theorem boxK_ok (H : HOk R μ h w) {t : TypeId} {x : AV} {vx : Value} {K : AV → List Ch → Prop} (hx : Rel R μ x vx) (hK : boxK x h K) : GivesH P R μ h w K (Instr.box t vx) := by
  obtain ⟨ho, hK⟩ := hK
  obtain ⟨hl, _⟩ := cells_rel hx ho
  obtain ⟨H', hs⟩ := newBlock H (ty := t) hl
  exact ⟨_, _, R, _, _, _, by simp [Instr.box, newVar, newRow], hK, ptr_new H, H', Ext.app _ _, hs⟩
end Go.V

namespace Go.V

variable {P : Program} {R : RO} {μ : List Bind} {h : List Ch} {w : World}

theorem lrel_one {l : List AV} {vs : List Value} (hl : LRel R μ l vs) (hc : ∀ a ∈ l, a.cell = true) : ∀ u ∈ vs, u.oneCell' = true := by
  intro u hu
  obtain ⟨i, hi, rfl⟩ := List.getElem_of_mem hu
  have h1 := hl.nth i (List.getElem?_eq_getElem hi)
  have hlen := hl.len
  have h2 : nthA l i ∈ l := by
    have : ∀ (l : List AV) (i : Nat), i < l.length → nthA l i ∈ l := by
      intro l
      induction l with
      | nil => intro i hi; simp at hi
      | cons a l ih =>
        intro i hi
        cases i with
        | zero => simp [nthA]
        | succ n => simp only [nthA]; exact List.mem_cons_of_mem _ (ih n (by simpa using hi))
    exact this l i (by omega)
  exact h1.one (hc _ h2)
theorem flat_cell (e : Ety) (xs : List e.T) : ∀ a ∈ xs.flatMap e.enc, a.cell = true := by
  intro a ha
  obtain ⟨x, _, hx⟩ := List.mem_flatMap.1 ha
  exact e.enc_cell x a hx

/-- what the value x yields to an append -/
structure SrcR (P : Program) (R : RO) (w : World) (e : Ety) (tx : TypeId) (v : Value) (ys : List e.T) (news : List Value) : Prop where
  src : Src P e.sz tx v ys.length news w
  rel : LRel R [] (ys.flatMap e.enc) news

theorem src_slice {e : Ety} {tx el : TypeId} (hk : P.underlying tx = some (.slice el)) {b o c : Nat} {ys : List e.T} {news : List Value} (hrel : LRel R [] (ys.flatMap e.enc) news) (hc : ∀ j u, news[j]? = some u → w.cell? ⟨b, o + j, none⟩ = some u) :
    SrcR P R w e tx (.slice (some ⟨b, o, none⟩) ys.length c) ys news :=
  ⟨Src.ofSlice w hk _ _ _ _ (by rw [← hrel.len, flat_len]) (fun j u hu => by rw [addr_add]; exact hc j u hu) (lrel_one hrel (flat_cell e ys)), hrel⟩
theorem src_empty {e : Ety} {tx el : TypeId} (hk : P.underlying tx = some (.slice el)) (a : Option Addr) (c : Nat) : SrcR P R w e tx (.slice a 0 c) ([] : List e.T) [] := by
  refine ⟨?_, by simp; exact .nil⟩
  cases a with
  | none => exact Src.ofNil w hk c
  | some a => exact Src.ofSlice w hk a 0 c [] (by simp) (by simp) (by simp)

theorem srcK_ok (H : HOk R μ h w) {e : Ety} {tx el : TypeId} (hk : P.underlying tx = some (.slice el)) {x : AV} {vx : Value} {F : List e.T → Prop} (hx : Rel R μ x vx) (hK : srcK e h x F) :
    ∃ ys news, F ys ∧ SrcR P R w e tx vx ys news := by
  unfold srcK at hK
  split at hK
  · rename_i e' zs
    split at hK
    · rename_i ys hy
      obtain ⟨rfl, hy⟩ := asE_some hy
      change zs = ys at hy
      subst hy
      cases hx with
      | @ro _ _ _ b o arr ty fr c hb hl hc hm =>
        have hb' := H.ro _ _ hb
        refine ⟨_, _, hK, src_slice hk hl fun j u hu => ?_⟩
        rw [cell_at hb', ← Array.getElem?_toList]
        rw [List.getElem?_take] at hu
        split at hu
        · rw [List.getElem?_drop] at hu; exact hu
        · simp at hu
      | ro0 => exact ⟨_, _, hK, src_empty hk _ _⟩
    · exact hK.elim
  · rename_i b e' s n
    split at hK
    · rename_i e'' zs hc
      split at hK
      · rename_i xs hy
        obtain ⟨rfl, hy⟩ := asE_some hy
        change zs = xs at hy
        subst hy
        obtain ⟨rfl, hle, hK⟩ := hK
        obtain ⟨B, hB, hr, _⟩ := H.rel.get (hth_get hc (by simp))
        have hll : ((zs.drop s).take n).length = n := by simp; omega
        cases hx with
        | @sl _ _ _ _ _ b' cap c h1 hc1 hl1 hm1 =>
          rw [hB] at h1
          obtain rfl := Option.some.inj h1
          rcases hr with ⟨h0, _⟩ | ⟨m, cap', arr, ty, heq, hb, hsz, hlx, hcap, hl⟩
          · simp at h0
          · simp only [Bind.blk.injEq] at heq
            obtain ⟨rfl, rfl⟩ := heq
            have h2 := ((hl.drop (s * e'.sz)).take (n * e'.sz))
            rw [← flat_drop, ← flat_take] at h2
            have h3 := src_slice (w := w) (b := b') (o := s * e'.sz) (c := c) hk h2 fun j u hu => by
              rw [cell_at hb, ← Array.getElem?_toList]
              rw [List.getElem?_take] at hu
              split at hu
              · rw [List.getElem?_drop, List.getElem?_take] at hu
                split at hu
                · exact hu
                · simp at hu
              · simp at hu
            rw [hll] at h3
            exact ⟨_, _, hK, h3⟩
        | sl0 =>
          have : (zs.drop s).take 0 = [] := by simp
          rw [this] at hK
          exact ⟨_, _, hK, src_empty hk _ _⟩
      · exact hK.elim
    · exact hK.elim
  · cases hx
    exact ⟨_, _, hK, src_empty hk _ _⟩
  · exact hK.elim

theorem appSrcK_ok (H : HOk R μ h w) {e : Ety} {tx : TypeId} {x : AV} {vx : Value} {F : List e.T → Prop} (hx : Rel R μ x vx) (hK : appSrcK (kdT P tx) e h x F) :
    ∃ ys news, F ys ∧ SrcR P R w e tx vx ys news := by
  unfold appSrcK at hK
  split at hK
  · rename_i s hk
    split at hK
    · rename_i ys hy
      obtain ⟨rfl, hy⟩ := asE_some hy
      change s = ys at hy
      subst hy
      cases hx
      refine ⟨s, s.map fun b => .int .u8 b.toNat, hK, ⟨?_, ?_⟩⟩
      · have h1 := Src.ofString w (kd_str hk) ⟨s.toArray⟩
        rw [size_str] at h1
        exact h1
      · clear hK hy
        induction s with
        | nil => simp; exact .nil
        | cons a s ih => simp only [List.flatMap_cons, List.map_cons]; exact LRel.app (.cons .int .nil) ih
    · exact hK.elim
  · rename_i hk; exact srcK_ok H (kd_slice hk) hx hK
  · exact hK.elim

theorem bytes_info {t : TypeId} (h : szT P t ≠ 0) : ∃ i, P.info? t = some i ∧ i.size = szT P t ∧ i.bytes = bytesT P t := by
  obtain ⟨i, hi, hs⟩ := sz_info h
  exact ⟨i, hi, hs, by simp [bytesT, hi]⟩

/-- append where nothing is there and nothing comes -/
theorem run_app_stay {t tx ty el : TypeId} (hk : P.underlying t = some (.slice el)) {i : TypeInfo} (hi : P.info? el = some i) {a : Option Addr} {x : Value} (hs : Src P i.size tx x 0 [] w) :
    (Builtin.append_ #[t, tx] ty #[.slice a 0 0, x]).run P w = .ok (.slice a 0 0) w := by
  rcases hs.kind with ⟨e', hk'⟩ | hk' <;> cases a <;> simp [Builtin.append_, run_underlying hk, run_underlying hk', sizeOf, typeInfo, hi, hs.len, hs.cells, storeCells]
/-- append where there is room -/
theorem run_app_room {t tx ty el : TypeId} (hk : P.underlying t = some (.slice el)) {i : TypeInfo} (hi : P.info? el = some i) {b n c m : Nat} {arr : Array Value} {tb : TypeId} {x : Value} {news : List Value} (hs : Src P i.size tx x m news w)
    (hb : w.heap[b]? = some (.cells arr tb (0, 0))) (hroom : n + m ≤ c) (hfit : n * i.size + news.length ≤ arr.size) :
    (Builtin.append_ #[t, tx] ty #[.slice (some ⟨b, 0, none⟩) n c, x]).run P w = .ok (.slice (some ⟨b, 0, none⟩) (n + m) c) (w.setRow b (arr.toList.take (n * i.size) ++ news ++ arr.toList.drop (n * i.size + news.length)).toArray) := by
  have hst := run_storeCells_at P b (n * i.size) tb news 0 arr w hb (by simpa using hfit) hs.one
  simp only [Nat.add_zero] at hst
  rcases hs.kind with ⟨e', hk'⟩ | hk' <;> simp [Builtin.append_, run_underlying hk, run_underlying hk', sizeOf, typeInfo, hi, hs.len, hroom, hs.cells, addr_add, hst]
/-- append where there is none -/
theorem run_app_grow {t tx ty el : TypeId} (hk : P.underlying t = some (.slice el)) {i : TypeInfo} (hi : P.info? el = some i) {z : Value} (hz : i.zero = some z) {a : Option Addr} {n c m : Nat} {olds : List Value} {x : Value} {news : List Value} (hs : Src P i.size tx x m news w)
    (hold : (Builtin.firstCells i.size n (.slice a n c)).run P w.drew = .ok olds.toArray w.drew) (hg : c < n + m) (hbytes : (n + m) * i.bytes ≤ maxBytes) (hlen : n + m ≤ maxBytes) :
    (Builtin.append_ #[t, tx] ty #[.slice a n c, x]).run P w = .ok (.slice (some ⟨w.heap.size, 0, none⟩) (n + m) (grownCap w (n + m) c el))
        (w.drew.alloc (.cells ((olds ++ news).toArray ++ Builtin.zeroCells z.cells (grownCap w (n + m) c el - (n + m))) el)) := by
  have h2 : maxBytes = 140737488355328 := rfl
  exact run_append_grow_src (P := P) w t tx ty el i z hk hi hz a n c olds hold x m news hs hg (by omega) (growslice_fits (by omega) (by rw [h2] at hbytes; exact hbytes))

/-- the type of the elements -/
theorem el_info {el : TypeId} {e : Ety} (hs : szT P el = e.sz) : ∃ i, P.info? el = some i ∧ i.size = e.sz ∧ i.bytes = bytesT P el := by
  obtain ⟨i, hi, h1, h2⟩ := bytes_info (P := P) (t := el) (by rw [hs]; exact Nat.pos_iff_ne_zero.1 e.sz_pos)
  exact ⟨i, hi, h1.trans hs, h2⟩

/-- a new row behind a draw -/
theorem grown_row {e : Ety} {el : TypeId} {ys : List e.T} {vals : List Value} {z : Array Value} (H : HOk R μ h w) (hl : LRel R [] (ys.flatMap e.enc) vals) (hzs : z.size = e.sz) {c : Nat} (hge : ys.length ≤ c) (hcm : c ≤ maxLen) :
    HOk R (μ ++ [.blk w.heap.size c]) (h ++ [.rows e ys]) (w.drew.alloc (.cells (vals.toArray ++ Builtin.zeroCells z (c - ys.length)) el)) ∧
    Step (ownH h μ) R w (ownH (h ++ [.rows e ys]) (μ ++ [.blk w.heap.size c])) R (w.drew.alloc (.cells (vals.toArray ++ Builtin.zeroCells z (c - ys.length)) el)) ∧
    Rel R (μ ++ [.blk w.heap.size c]) (.sl h.length e 0 ys.length) (.slice (some ⟨w.heap.size, 0, none⟩) ys.length c) := by
  have hvl : vals.length = ys.length * e.sz := by rw [← hl.len, flat_len]
  have hp := H.push (w' := w.drew.alloc (.cells (vals.toArray ++ Builtin.zeroCells z (c - ys.length)) el)) (c := .rows e ys) (B := .blk w.heap.size c) (fun n hn => RowKit.Below.heap_alloc w.drew _ n hn) (by simp) (by simp [ownC]) (fun n hn => by simp [ownC] at hn; subst hn; simp)
    (.inr ⟨w.heap.size, c, _, el, rfl, heap_alloc_new w.drew _, by
      simp only [Array.size_append, List.size_toArray, size_zeroCells, hzs, hvl, ← Nat.add_mul]
      congr 1; omega, hge, hcm, by
      simp only [Array.toList_append, List.toList_toArray]
      rw [← hvl, List.take_left]; exact hl⟩) rfl rfl rfl
  refine ⟨hp.1, hp.2, ?_⟩
  have := Rel.sl (R := R) (μ := μ ++ [.blk w.heap.size c]) (t := h.length) (e := e) (start := 0) (len := ys.length) (b := w.heap.size) (cap := c) (c := c) (by rw [H.rel.len]; simp) (by omega) hge hcm
  simpa using this

theorem zero_info {el : TypeId} {e : Ety} (h : zlenT P el = e.sz) : ∃ i z, P.info? el = some i ∧ i.zero = some z ∧ z.cells.size = e.sz := by
  unfold zlenT zeroT at h
  have hp := e.sz_pos
  split at h
  · rename_i zs hz
    split at hz
    · rename_i i hi
      split at hz
      · rename_i z hzz
        simp only [Option.some.injEq] at hz
        subst hz
        exact ⟨i, z, hi, hzz, by simpa using h⟩
      · simp at hz
    · simp at hz
  · omega
variable [ETab]
theorem appK_ok (H : HOk R μ h w) {t tx ty : TypeId} {s x : AV} {vs vx : Value} {K : AV → List Ch → Prop} (hs : Rel R μ s vs) (hx : Rel R μ x vx) (hK : appK P t tx s x h K) : GivesH P R μ h w K (Builtin.append_ #[t, tx] ty #[vs, vx]) := by
  unfold appK at hK
  split at hK
  · rename_i el hk
    have hk := kd_slice hk
    split at hK
    · rename_i b e n
      split at hK
      · rename_i e' zs hc
        split at hK
        · rename_i xs hy
          obtain ⟨rfl, hy⟩ := asE_some hy
          change zs = xs at hy
          subst hy
          obtain ⟨⟨hsz, hzl⟩, hn, hK⟩ := hK
          obtain ⟨ys, news, ⟨⟨hb1, hb2⟩, hK⟩, hsrc⟩ := appSrcK_ok H hx hK
          obtain ⟨i, hi, hisz, hib⟩ := el_info hsz
          obtain ⟨i', z, hi', hz, hzs⟩ := zero_info hzl
          obtain rfl : i' = i := by rw [hi] at hi'; exact (Option.some.inj hi').symm
          have hsr := hsrc.src
          rw [← hisz] at hsr
          rw [← hib] at hb1
          have hct : h[b]? = some (.rows e' zs) := hth_get hc (by simp)
          clear hc
          obtain ⟨B, hB, hr, hown⟩ := H.rel.get hct
          have hgone := H.set (c' := .gone) (w' := w) hct hB (gone_sub _ _) (fun _ _ _ => rfl) (Nat.le_refl _) trivial rfl rfl rfl
          have hlg : (h.set b Ch.gone).length = h.length := List.length_set
          have hfl := hsrc.rel
          cases hs with
          | @sl _ _ _ _ _ b' cap c h1 hc1 hl1 hm1 =>
            subst hn
            rw [hB] at h1
            obtain rfl := Option.some.inj h1
            rcases hr with ⟨h0, _⟩ | ⟨m, cap', arr, ty', heq, hb, hsza, hlx, hcap, hl⟩
            · simp at h0
            · simp only [Bind.blk.injEq] at heq
              obtain ⟨rfl, rfl⟩ := heq
              have hcc : c = cap := by omega
              subst hcc
              have hfull := hl.app hfl
              rw [← List.flatMap_append] at hfull
              have hnl : news.length = ys.length * e'.sz := by rw [← hfl.len, flat_len]
              have hxfit : zs.length * e'.sz ≤ arr.size := by rw [hsza]; exact Nat.mul_le_mul_right _ hlx
              rw [Nat.zero_mul]
              by_cases hroom : zs.length + ys.length ≤ c
              · have hfit : zs.length * i'.size + news.length ≤ arr.size := by
                  rw [hisz, hnl, hsza, ← Nat.add_mul]; exact Nat.mul_le_mul_right _ hroom
                have hrun := run_app_room (ty := ty) hk hi hsr hb hroom hfit
                have hnew := setRow_heap w b' arr (arr.toList.take (zs.length * i'.size) ++ news ++ arr.toList.drop (zs.length * i'.size + news.length)).toArray ty' (0, 0) hb
                rw [hisz] at hrun hnew hfit
                obtain ⟨H', hstep⟩ := H.move (c' := .rows e' (zs ++ ys)) (B' := .blk b' c) (w' := w.setRow b' (arr.toList.take (zs.length * e'.sz) ++ news ++ arr.toList.drop (zs.length * e'.sz + news.length)).toArray) hct hB (by simp [ownC]) (fun m _ hm => setRow_other w b' m _ (fun e => hm (by simp [ownC, e]))) (by simp)
                  (.inr ⟨b', c, _, ty', rfl, hnew, by
                    simp only [List.size_toArray, List.length_append, List.length_take, List.length_drop, Array.length_toList]
                    omega, by simpa using hroom, hcap, by
                    have e1 : (zs ++ ys).length * e'.sz = (arr.toList.take (zs.length * e'.sz) ++ news).length := by
                      simp only [List.length_append, List.length_take, Array.length_toList, hnl, Nat.add_mul]; omega
                    rw [List.toList_toArray, e1, List.take_left]
                    exact hfull⟩) rfl rfl rfl
                refine ⟨_, _, R, _, _, _, hrun, hK, ?_, H', Ext.app _ _, hstep⟩
                have h5 := Rel.sl (R := R) (μ := μ ++ [.blk b' c]) (t := h.length) (e := e') (start := 0) (len := zs.length + ys.length) (b := b') (cap := c) (c := c) (by rw [H.rel.len]; simp) (by omega) hroom hcap
                simpa using h5
              · have hold : (Builtin.firstCells i'.size zs.length (.slice (some ⟨b', 0, none⟩) zs.length c)).run P w.drew = .ok (arr.toList.take (zs.length * e'.sz)).toArray w.drew := by
                  rw [hisz]
                  refine run_firstCells_some w.drew e'.sz zs.length _ zs.length c (arr.toList.take (zs.length * e'.sz)) (by rw [List.length_take, Array.length_toList]; exact Nat.min_eq_left hxfit) fun j v hj => ?_
                  rw [addr_add, Nat.zero_add]
                  show w.cell? _ = _
                  rw [cell_at hb, ← Array.getElem?_toList]
                  rw [List.getElem?_take] at hj
                  split at hj
                  · exact hj
                  · simp at hj
                have hrun := run_app_grow (ty := ty) hk hi hz (a := some ⟨b', 0, none⟩) (n := zs.length) (c := c) hsr hold (by omega) hb1 hb2
                have hml : zs.length + ys.length ≤ maxLen := Nat.le_trans hb2 (by decide)
                obtain ⟨H', hstep, hrel⟩ := grown_row (el := el) (ys := zs ++ ys) hgone.1 hfull hzs (c := grownCap w (zs.length + ys.length) c el) (by rw [List.length_append]; exact grownCap_ge _ _ _ _) (grownCap_le_maxLen _ _ _ _ hml)
                rw [List.length_append] at H' hstep hrel
                rw [hlg] at hrel
                exact ⟨_, _, R, _, _, _, hrun, hK, hrel, H', Ext.app _ _, hgone.2.trans hstep⟩
          | @sl0 _ _ _ _ a ht =>
            have hz0 : zs = [] := List.eq_nil_of_length_eq_zero hn.symm
            subst hz0
            rw [List.length_nil, Nat.zero_add] at hb1 hb2 hK
            rw [List.nil_append] at hK
            cases hys : ys with
            | nil =>
              subst hys
              have hn0 : news = [] := by cases hfl; rfl
              subst hn0
              obtain ⟨H', hstep⟩ := H.move (c' := .rows e' []) (B' := .none) (w' := w) hct hB (List.nil_sublist _) (fun _ _ _ => rfl) (Nat.le_refl _) (.inl ⟨rfl, rfl⟩) rfl rfl rfl
              exact ⟨_, _, R, _, _, _, run_app_stay hk hi hsr, hK, .sl0 (.inl (by rw [H.rel.len]; simp)), H', Ext.app _ _, hstep⟩
            | cons y ys' =>
              have hold : (Builtin.firstCells i'.size 0 (.slice a 0 0)).run P w.drew = .ok ([] : List Value).toArray w.drew := by
                cases a <;> simp [Builtin.firstCells, loadCells, loadCellsFrom]
              have hrun := run_app_grow (ty := ty) hk hi hz (a := a) (n := 0) (c := 0) hsr hold (by rw [hys]; simp) (by rw [Nat.zero_add]; exact hb1) (by rw [Nat.zero_add]; exact hb2)
              have hml : ys.length ≤ maxLen := Nat.le_trans hb2 (by decide)
              rw [Nat.zero_add] at hrun
              obtain ⟨H', hstep, hrel⟩ := grown_row (el := el) (ys := ys) hgone.1 hfl hzs (c := grownCap w ys.length 0 el) (grownCap_ge _ _ _ _) (grownCap_le_maxLen _ _ _ _ hml)
              rw [hlg] at hrel
              exact ⟨_, _, R, _, _, _, hrun, hK, hrel, H', Ext.app _ _, hgone.2.trans hstep⟩
        · exact hK.elim
      · exact hK.elim
    · split at hK
      · rename_i e he
        obtain ⟨⟨hsz, hzl⟩, hK⟩ := hK
        obtain ⟨ys, news, ⟨⟨hb1, hb2⟩, hK⟩, hsrc⟩ := appSrcK_ok H hx hK
        obtain ⟨i, hi, hisz, hib⟩ := el_info hsz
        obtain ⟨i', z, hi', hz, hzs⟩ := zero_info hzl
        obtain rfl : i' = i := by rw [hi] at hi'; exact (Option.some.inj hi').symm
        have hsr := hsrc.src
        rw [← hisz] at hsr
        rw [← hib] at hb1
        have hfl := hsrc.rel
        cases hs
        cases hys : ys with
        | nil =>
          subst hys
          have hn0 : news = [] := by cases hfl; rfl
          subst hn0
          obtain ⟨H', hstep⟩ := H.push (c := .rows e []) (B := .none) (w' := w) (fun _ _ => rfl) (Nat.le_refl _) (by simp [ownC]) (by simp [ownC]) (.inl ⟨rfl, rfl⟩) rfl rfl rfl
          exact ⟨_, _, R, _, _, _, run_app_stay hk hi hsr, hK, .sl0 (.inl (by rw [H.rel.len]; simp)), H', Ext.app _ _, hstep⟩
        | cons y ys' =>
          have hold : (Builtin.firstCells i'.size 0 (.slice none 0 0)).run P w.drew = .ok ([] : List Value).toArray w.drew := by simp [Builtin.firstCells]
          have hrun := run_app_grow (ty := ty) hk hi hz (a := none) (n := 0) (c := 0) hsr hold (by rw [hys]; simp) (by rw [Nat.zero_add]; exact hb1) (by rw [Nat.zero_add]; exact hb2)
          have hml : ys.length ≤ maxLen := Nat.le_trans hb2 (by decide)
          rw [Nat.zero_add] at hrun
          obtain ⟨H', hstep, hrel⟩ := grown_row (el := el) (ys := ys) H hfl hzs (c := grownCap w ys.length 0 el) (grownCap_ge _ _ _ _) (grownCap_le_maxLen _ _ _ _ hml)
          exact ⟨_, _, R, _, _, _, hrun, hK, hrel, H', Ext.app _ _, hstep⟩
      · exact hK.elim
    · exact hK.elim
  · exact hK.elim
end Go.V

namespace Go.V

variable {P : Program} {R : RO} {μ : List Bind} {h : List Ch} {w : World}

/-! ### Struct and array literals -/
/-- offset and size of every field -/
def placesT (P : Program) (t : TypeId) : Option (List (Nat × Nat)) :=
  match P.underlying t with
  | some (.struct fs) => fs.toList.mapM fun f => (P.info? f.type).map fun i => (f.offset, i.size)
  | _ => none
def fillK (place : Nat → Option (Nat × Nat)) : List AV → List (Nat × AV) → (List AV → Prop) → Prop
  | zs, [], K => K zs
  | zs, (i, x) :: r, K => (match place i with
    | some (off, sz) => ((cellsA x).length = sz ∧ off + sz ≤ zs.length) ∧ okCells (cellsA x) ∧ fillK place (setA zs off (cellsA x)) r K
    | none => False)
def buildK (P : Program) (t : TypeId) (parts : List (Nat × AV)) (K : AV → Prop) : Prop :=
  match zeroT P t with
  | some zs => (match kdT P t with
    | .struct => (match placesT P t with
      | some l => fillK (fun i => l[i]?) zs parts fun zs => K (.agg zs)
      | none => False)
    | .array _ el => (szT P el ≠ 0) ∧ fillK (fun i => some (i * szT P el, szT P el)) zs parts fun zs => K (.agg zs)
    | _ => False)
  | none => False

theorem zip_foldl (off : Nat) : ∀ (us : List Value) (j : Nat) (cs : Array Value), ((us.zipIdx j).foldl (fun cs (p : Value × Nat) => cs.setIfInBounds (off + p.2) p.1) cs).toList = (List.range us.length).foldl (fun l i => l.set (off + j + i) (us.getD i undef)) cs.toList := by
  intro us
  induction us with
  | nil => intro j cs; rfl
  | cons u us ih =>
    intro j cs
    rw [List.zipIdx_cons, List.foldl_cons, ih]
    simp only [Array.toList_setIfInBounds, List.length_cons, List.range_succ_eq_map, List.foldl_cons, List.foldl_map]
    simp [Nat.add_assoc, Nat.add_comm 1]
theorem fold_setA (μ : List Bind) (R : RO) : ∀ (us : List Value) (l vs : List AV) (ws : List Value) (off : Nat), LRel R μ vs ws → LRel R μ l us → LRel R μ (setA vs off l) ((List.range us.length).foldl (fun w i => w.set (off + i) (us.getD i undef)) ws)
  | [], l, vs, ws, off, hv, hl => by cases hl; exact hv
  | u :: us, l, vs, ws, off, hv, hl => by
    cases hl with
    | @cons _ a _ l _ ha hl =>
      have ih := fold_setA μ R us l (vs.set off a) (ws.set off u) (off + 1) (hv.set off ha) hl
      simp only [setA, List.length_cons, List.range_succ_eq_map, List.foldl_cons, List.foldl_map, Nat.add_zero, List.getD_cons_zero, List.getD_cons_succ]
      have e : (fun (w : List Value) (i : Nat) => w.set (off + i.succ) (us.getD i undef)) = fun w i => w.set (off + 1 + i) (us.getD i undef) := by
        funext w i
        rw [show off + i.succ = off + 1 + i from by omega]
      rw [e]
      exact ih
/-- the parts' values -/
inductive PRel (R : RO) (μ : List Bind) : List (Nat × AV) → List (Nat × Value) → Prop
  | nil : PRel R μ [] []
  | cons {i a v l vs} (h : Rel R μ a v) (hs : PRel R μ l vs) : PRel R μ ((i, a) :: l) ((i, v) :: vs)
theorem fillK_ok {place : Nat → Option (Nat × Nat)} {K : List AV → Prop} : ∀ (parts : List (Nat × AV)) (vals : List (Nat × Value)) (zs : List AV) (cs : Array Value), PRel R μ parts vals → LRel R μ zs cs.toList → fillK place zs parts K →
    ∃ zs' cs', K zs' ∧ LRel R μ zs' cs'.toList ∧ Instr.fill place cs vals = some cs'
  | [], _, zs, cs, hp, hz, hK => by cases hp; exact ⟨zs, cs, hK, hz, rfl⟩
  | (i, x) :: r, _, zs, cs, hp, hz, hK => by
    cases hp with
    | @cons _ _ v _ vs hx hs =>
      simp only [fillK] at hK
      split at hK
      · rename_i off sz hpl
        obtain ⟨⟨h1, h2⟩, ho, hK⟩ := hK
        obtain ⟨hxl, _⟩ := cells_rel hx ho
        have hlen := hxl.len
        have hzl := hz.len
        have hsz : v.cells.size = sz := by rw [← Array.length_toList, ← hlen, h1]
        have hnew : LRel R μ (setA zs off (cellsA x)) (v.cells.zipIdx.foldl (fun cs (p : Value × Nat) => cs.setIfInBounds (off + p.2) p.1) cs).toList := by
          rw [← Array.foldl_toList, Array.toList_zipIdx, zip_foldl]
          simp only [Nat.add_zero]
          exact fold_setA μ R _ _ _ _ _ hz hxl
        obtain ⟨zs', cs', h3, h4, h5⟩ := fillK_ok r vs _ _ hs hnew hK
        refine ⟨zs', cs', h3, h4, ?_⟩
        rw [← h5]
        simp only [Instr.fill, hpl]
        have hzl' : zs.length = cs.size := by rw [hz.len]; exact Array.length_toList
        rw [if_neg (by rw [hsz]; simp; omega)]
      · exact hK.elim
theorem run_sizeOf' {t : TypeId} {i : TypeInfo} (hi : P.info? t = some i) (w : World) : (sizeOf t).run P w = .ok i.size w := by simp [sizeOf, typeInfo, hi]
theorem run_places {fs : List Field} {l : List (Nat × Nat)} (hl : fs.mapM (fun f => (P.info? f.type).map fun i => (f.offset, i.size)) = some l) (w : World) :
    (fs.mapM fun f => (do pure (f.offset, ← sizeOf f.type) : Sem (Nat × Nat))).run P w = .ok l w := by
  induction fs generalizing l with
  | nil => simp at hl; subst hl; simp
  | cons f fs ih =>
    simp only [List.mapM_cons, Option.bind_eq_bind] at hl
    cases hi : P.info? f.type with
    | none => simp [hi] at hl
    | some i =>
      simp only [hi, Option.map_some, Option.bind_some] at hl
      cases hm : fs.mapM (fun f => (P.info? f.type).map fun i => (f.offset, i.size)) with
      | none => simp [hm] at hl
      | some l' =>
        simp only [hm, Option.bind_some, Option.pure_def, Option.some.injEq] at hl
        subst hl
        simp only [List.mapM_cons, Sem.run_bind, run_sizeOf' hi, Result.andThen_ok, Sem.run_pure, ih hm]

theorem buildK_ok {t : TypeId} {parts : List (Nat × AV)} {vals : List (Nat × Value)} {K : AV → Prop} (hp : PRel R μ parts vals) (hK : buildK P t parts K) : Gives P R μ K (Instr.build t vals.toArray) := by
  unfold buildK at hK
  split at hK
  · rename_i zs hz
    unfold zeroT at hz
    split at hz
    · rename_i i hi
      split at hz
      · rename_i z hzz
        simp only [Option.some.injEq] at hz
        subst hz
        have hrel := ofV_rels R μ z.cells.toList
        have hzero : ∀ w, (zeroValue t).run P w = .ok z w := fun w => by simp [zeroValue, typeInfo, hi, hzz]
        split at hK
        · rename_i hk
          obtain ⟨fs, hu⟩ := kd_struct hk
          split at hK
          · rename_i l hl
            unfold placesT at hl
            rw [hu] at hl
            obtain ⟨zs', cs', h1, h2, h3⟩ := fillK_ok parts vals _ _ hp hrel hK
            refine .mk h1 (v := .agg cs') (by simpa using Rel.agg h2) fun w => ?_
            have hpl := run_places hl w
            have hm : (fs.mapM fun f => (do pure (f.offset, ← sizeOf f.type) : Sem (Nat × Nat))).run P w = .ok l.toArray w := by
              rw [← Array.toArray_toList (xs := fs), List.mapM_toArray, Sem.run_map, hpl]
              rfl
            simp only [Instr.build, Sem.run_bind, hzero, Result.andThen_ok, run_underlying hu, hm]
            have h4 : (fun (x : Nat) => l.toArray[x]?) = fun (i : Nat) => l[i]? := by funext i; simp
            simp only [h4, List.toList_toArray, h3, Sem.run_pure]
          · exact hK.elim
        · rename_i n el hk
          obtain ⟨hz, hK⟩ := hK
          obtain ⟨zs', cs', h1, h2, h3⟩ := fillK_ok parts vals _ _ hp hrel hK
          refine .mk h1 (v := .agg cs') (by simpa using Rel.agg h2) fun w => ?_
          simp only [Instr.build, Sem.run_bind, hzero, Result.andThen_ok, run_underlying (kd_array hk), run_sizeOf hz, List.toList_toArray, h3, Sem.run_pure]
        · exact hK.elim
      · simp at hz
    · simp at hz
  · exact hK.elim

/-! ### Conversions between strings and bytes -/
/-- a row whose block is marked lies for good -/
theorem HOk.mark {e : Ety} {xs : List e.T} {t b cap : Nat} {o' : Obj} {w' : World} (H : HOk R μ h w) (hc : h[t]? = some (.rows e xs)) (hB : μ[t]? = some (.blk b cap)) (hb' : w'.heap[b]? = some o')
    (hk : ∀ n, n < w.heap.size → n ≠ b → w'.heap[n]? = w.heap[n]?) (hz : w.heap.size ≤ w'.heap.size) (h1 : w'.os = w.os) (h2 : w'.tape = w.tape) (h3 : w'.output = w.output) (hdr : w.drawn ≤ w'.drawn := by first | exact Nat.le_refl _ | exact Nat.le_succ _ | exact Nat.le_add_right _ _) :
    HOk (R.put b o') μ (h.set t .gone) w' ∧ Step (ownH h μ) R w (ownH (h.set t .gone) μ) (R.put b o') w' := by
  have hmem : b ∈ ownH h μ := own_mem hc hB b (by simp [ownC])
  obtain ⟨H1, st⟩ := H.set (c' := .gone) (w' := w') hc hB (gone_sub _ _) (fun n hn hx => hk n hn (fun e => hx (by simp [ownC, e]))) hz trivial h1 h2 h3 hdr
  have hnot : b ∉ ownH (h.set t .gone) μ := own_gone H.nodup hc hB b (by simp [ownC])
  have hRb := (H.own b hmem).2
  have hle : R.le (R.put b o') := fun x y hx => by
    unfold RO.put
    by_cases e : x = b
    · subst e; rw [hRb] at hx; simp at hx
    · rw [if_neg e]; exact hx
  refine ⟨⟨HRel.keep hle (Ext.refl μ) _ _ H1.rel fun _ _ => rfl, H1.nodup, fun x hx => ⟨(H1.own x hx).1, ?_⟩, fun x y hx => ?_⟩, ⟨hle, st.size, st.out, st.own, fun x y hx => ?_, st.os, st.tape, st.output, st.drawn⟩⟩
  · unfold RO.put
    rw [if_neg (fun e : x = b => hnot (e ▸ hx))]; exact (H1.own x hx).2
  · unfold RO.put at hx
    split at hx
    · rename_i e; subst e; rw [← hx]; exact hb'
    · exact H1.ro x y hx
  · unfold RO.put at hx
    split at hx
    · rename_i e; subst e; exact .inr (.inl hmem)
    · exact .inl hx
theorem run_mark {t el : TypeId} (hs : P.underlying t = some (.slice el)) (he : P.underlying el = some (.int .u8)) {b o n c : Nat} {arr : Array Value} {ty : TypeId} (hb : w.heap[b]? = some (.cells arr ty (0, 0))) :
    (convert t t (.slice (some ⟨b, o, none⟩) n c)).run P w = .ok (.slice (some ⟨b, o, none⟩) n c) (w.freeze ⟨b, arr.size, none⟩ 1) := by
  have hsh : w.shape? b = some (ty, arr.size) := by unfold World.shape?; rw [hb]
  simp [convert, run_underlying hs, run_underlying he, markStringish, hsh]
theorem freeze_at {b : Nat} {arr : Array Value} {ty : TypeId} (hb : w.heap[b]? = some (.cells arr ty (0, 0))) :
    (w.freeze ⟨b, arr.size, none⟩ 1).heap[b]? = some (.cells arr ty (arr.size, arr.size + 1)) := by
  unfold World.freeze
  rw [if_neg (by decide)]
  simp only [Array.getElem?_modify, if_true, hb, Option.map_some]
  rfl
theorem freeze_ne {b n k : Nat} (hn : n ≠ b) : (w.freeze ⟨b, k, none⟩ 1).heap[n]? = w.heap[n]? := by
  unfold World.freeze
  rw [if_neg (by decide)]
  simp only [Array.getElem?_modify]
  rw [if_neg (Ne.symm hn)]
theorem freeze_size {b k : Nat} : (w.freeze ⟨b, k, none⟩ 1).heap.size = w.heap.size := by
  unfold World.freeze
  rw [if_neg (by decide)]
  simp
/-- a slice of bytes, converted to what it is: its block is marked -/
theorem conv_mark (H : HOk R μ h w) {t el : TypeId} (hs : P.underlying t = some (.slice el)) (he : P.underlying el = some (.int .u8)) {g s n : Nat} {xs : List UInt8} {vx : Value} (hx : Rel R μ (.sl g .byte s n) vx) (hn : 0 < n) (hc : h[g]? = some (.rows .byte xs)) (hl : s + n ≤ xs.length) {K : AV → List Ch → Prop} (hK : K (.ro .byte ((xs.drop s).take n)) (h.set g .gone)) : GivesH P R μ h w K (convert t t vx) := by
  cases hx with
  | sl0 => exact absurd hn (by decide)
  | sl h1 hcap hln hm =>
    rename_i b cap c
    obtain ⟨B, hB, hr1, hown⟩ := H.rel.get hc
    have : B = .blk b cap := by rw [h1] at hB; exact (Option.some.inj hB).symm
    subst this
    rcases hr1 with ⟨hx, _⟩ | ⟨b', cap', arr, ty, hx, hb, hsz, hlen, hmx, hrel⟩
    · cases hx
    · cases hx
      obtain ⟨H1, st⟩ := H.mark (w' := w.freeze ⟨b, arr.size, none⟩ 1) hc hB (freeze_at hb) (fun k _ hk => freeze_ne hk) (by rw [freeze_size]; exact Nat.le_refl _) (by unfold World.freeze; rfl) (by unfold World.freeze; rfl) (by unfold World.freeze; rfl)
      have hll : ((xs.drop s).take n).length = n := by simp; omega
      have h2 : Rel (R.put b (.cells arr ty (arr.size, arr.size + 1))) μ (.ro .byte ((xs.drop s).take n)) (.slice (some ⟨b, s * Ety.byte.sz, none⟩) ((xs.drop s).take n).length c) := by
        refine .ro (arr := arr) (ty := ty) (fr := (arr.size, arr.size + 1)) (by simp [RO.put]) ?_ (by omega) (by omega)
        have h3 := ((hrel.drop (s * Ety.byte.sz)).take (n * Ety.byte.sz)).mono st.ro (Ext.refl _)
        rw [flat_take, flat_drop, hll]
        have e1 : ((arr.toList.drop (s * Ety.byte.sz)).take (n * Ety.byte.sz)) = ((arr.toList.take (xs.length * Ety.byte.sz)).drop (s * Ety.byte.sz)).take (n * Ety.byte.sz) := by
          rw [List.drop_take, List.take_take, Nat.min_eq_left]
          rw [← Nat.sub_mul]
          exact Nat.mul_le_mul_right _ (by omega)
        rw [e1]
        exact h3
      rw [hll] at h2
      exact ⟨_, _, _, μ, _, _, run_mark hs he hb, hK, h2, H1, Ext.refl _, st⟩
def convHK (P : Program) (src dst : TypeId) (x : AV) (h : List Ch) (K : AV → List Ch → Prop) : Prop :=
  match kdT P src, kdT P dst with
  | .slice el, .str => kdT P el = .int .u8 ∧ srcK .byte h x fun ys => K (.str ys) h
  | .str, .slice el => kdT P el = .int .u8 ∧ (match x with | .str s => (s.length ≤ maxBytes) ∧ K (.ro .byte s) h | _ => False)
  | .slice el, .slice _ => src = dst ∧ kdT P el = .int .u8 ∧ (match x with
    | .sl g .byte s n => 0 < n ∧ (match hth h g with
      | .rows .byte xs => s + n ≤ xs.length ∧ K (.ro .byte ((xs.drop s).take n)) (h.set g .gone)
      | _ => False)
    | _ => False)
  | ks, kd => ks ≠ .other ∧ convK ks kd x fun v => K v h

theorem run_b2s {src dst el : TypeId} (hs : P.underlying src = some (.slice el)) (he : P.underlying el = some (.int .u8)) (hd : P.underlying dst = some .string) {v : Value} {ys : List UInt8} {news : List Value} (hsrc : SrcR P R w .byte src v ys news) (hv : ∃ a n c, v = .slice a n c) :
    (convert src dst v).run P w = .ok (.string ⟨ys.toArray⟩) w := by
  obtain ⟨a, n, c, rfl⟩ := hv
  rw [run_convert_bytes_string w src dst el a n c hs he hd]
  have hl := hsrc.src.len w
  simp only [Builtin.lenOf, Sem.run_pure, Result.ok.injEq, and_true] at hl
  subst hl
  have hnews : news = (ys.map fun b => (b.toNat : Int)).map (Value.int .u8) := by
    have := hsrc.rel
    have key : ∀ (ys : List UInt8) (news : List Value), LRel R [] (ys.flatMap (Ety.enc .byte)) news → news = (ys.map fun b => (b.toNat : Int)).map (Value.int .u8) := by
      intro ys
      induction ys with
      | nil => intro news h; cases h; rfl
      | cons y ys ih =>
        intro news h
        cases h with
        | cons h1 h2 =>
          cases h1
          simp only [List.map_cons]
          rw [ih _ h2]
    exact key ys news this
  cases a with
  | none =>
    have h0 : ys = [] := by
      have h1 := hsrc.src.cells
      simp only [Builtin.firstCells, Sem.run_pure, Result.ok.injEq, and_true] at h1
      have h2 : news = [] := by
        have := congrArg Array.toList h1
        simpa using this.symm
      rw [h2] at hnews
      simpa using hnews.symm
    subst h0
    rfl
  | some a =>
    have hc := hsrc.src.cells
    simp only [Builtin.firstCells] at hc
    rw [show (Ety.byte.sz) = 1 from rfl, Nat.mul_one] at hc
    rw [hnews] at hc
    rw [run_bytesToString w a ys.length c _ hc]
    congr 2
    have key : ∀ (ys : List UInt8) (r : ByteArray), (ys.map fun b => (b.toNat : Int)).foldl (fun r n => r.push (UInt8.ofNat n.toNat)) r = ⟨(r.data.toList ++ ys).toArray⟩ := by
      intro ys
      induction ys with
      | nil => intro r; cases r; simp
      | cons y ys ih =>
        intro r
        simp only [List.map_cons, List.foldl_cons]
        rw [ih]
        cases r
        simp [ByteArray.push]
    rw [key]
    simp [ByteArray.empty, ByteArray.emptyWithCapacity]
    rfl

def s2bCells (s : List UInt8) (c : Nat) : Array Value := ((s.map fun (b : UInt8) => Value.int .u8 b.toNat) ++ List.replicate (c - s.length) (Value.int .u8 0)).toArray
theorem run_s2b {src dst el : TypeId} (hs : P.underlying src = some .string) (hd : P.underlying dst = some (.slice el)) (he : P.underlying el = some (.int .u8)) (s : List UInt8) (hlen : s.length ≤ maxBytes) :
    ∃ c w' fr, (convert src dst (.string ⟨s.toArray⟩)).run P w = .ok (.slice (some ⟨w.heap.size, 0, none⟩) s.length c) w' ∧ s.length ≤ c ∧ c ≤ maxLen ∧
      w'.heap[w.heap.size]? = some (.cells (s2bCells s c) el fr) ∧
      (∀ n, n < w.heap.size → w'.heap[n]? = w.heap[n]?) ∧ w.heap.size ≤ w'.heap.size ∧ w'.os = w.os ∧ w'.tape = w.tape ∧ w'.output = w.output ∧ w.drawn ≤ w'.drawn := by
  have hml : s.length ≤ maxLen := Nat.le_trans hlen (by decide)
  generalize hc : grownCap w s.length 0 el = c
  have hge : s.length ≤ c := by rw [← hc]; exact grownCap_ge _ _ _ _
  have hle : c ≤ maxLen := by rw [← hc]; exact grownCap_le_maxLen _ _ _ _ hml
  have hcut : (Question.appendCap s.length 0 el).cut (w.tape w.drawn (.appendCap s.length 0 el)) = c := hc
  have harr : ((⟨s.toArray⟩ : ByteArray).data.map fun b => (Value.int .u8 b.toNat : Value)) ++ Array.replicate (c - s.length) (.int .u8 0) = s2bCells s c := by
    apply Array.ext'; simp [s2bCells]
  have hsz : (s2bCells s c).size = c := by simp [s2bCells]; omega
  generalize hA : s2bCells s c = A at harr hsz ⊢
  have hshape : (w.drew.alloc (.cells A el)).shape? w.heap.size = some (el, c) := by
    unfold World.shape?
    rw [show (w.drew.alloc (.cells A el)).heap[w.heap.size]? = some (.cells A el) from heap_alloc_new w.drew _]
    simp [hsz]
  refine ⟨c, (w.drew.alloc (.cells A el)).freeze ⟨w.heap.size, c, none⟩ 1, (c, c + 1), ?_, hge, hle, ?_, ?_, ?_, rfl, rfl, rfl, Nat.le_succ _⟩
  · have hstep : (Conv.stringToBytes el ⟨s.toArray⟩).run P w = .ok (.slice (some ⟨w.heap.size, 0, none⟩) s.length c) ((w.drew.alloc (.cells A el)).freeze ⟨w.heap.size, c, none⟩ 1) := by
      unfold Conv.stringToBytes
      rw [Sem.run_bind, run_choose, size_str]
      simp only [Question.forced, Bool.false_eq_true, if_false, hcut, Result.andThen_ok, Sem.run_bind]
      rw [harr]
      simp only [newRow, Sem.run_bind, run_newObj, Result.andThen_ok, Sem.run_pure, markStringish, run_shape]
      rw [show ({ w with heap := w.heap.push (.cells A el), drawn := w.drawn + 1 } : World) = w.drew.alloc (.cells A el) from rfl]
      rw [hshape]
      simp only [run_freeze, Result.andThen_ok]
    simp only [convert, Sem.run_bind, run_underlying hs, run_underlying hd, run_underlying he, Result.andThen_ok, hstep]
  · unfold World.freeze
    simp only [Nat.one_ne_zero, if_false, Array.getElem?_modify, if_true]
    rw [show (w.drew.alloc (.cells A el)).heap[w.heap.size]? = some (.cells A el) from heap_alloc_new w.drew _]
    simp
    try exact hA.symm
  · intro n hn
    unfold World.freeze
    simp only [Nat.one_ne_zero, if_false, Array.getElem?_modify]
    rw [if_neg (by omega)]
    exact RowKit.Below.heap_alloc w.drew _ n hn
  · unfold World.freeze
    simp

theorem convHK_ok (H : HOk R μ h w) {src dst : TypeId} {x : AV} {vx : Value} {K : AV → List Ch → Prop} (hx : Rel R μ x vx) (hK : convHK P src dst x h K) : GivesH P R μ h w K (convert src dst vx) := by
  unfold convHK at hK
  split at hK
  · rename_i el hs hd
    obtain ⟨he, hK⟩ := hK
    obtain ⟨ys, news, hK', hsrc⟩ := srcK_ok H (tx := src) (kd_slice hs) hx hK
    have hv : ∃ a n c, vx = .slice a n c := by
      unfold srcK at hK
      split at hK
      · cases hx <;> exact ⟨_, _, _, rfl⟩
      · cases hx <;> exact ⟨_, _, _, rfl⟩
      · cases hx; exact ⟨_, _, _, rfl⟩
      · exact hK.elim
    exact ⟨_, _, R, μ, h, _, run_b2s (kd_slice hs) (kd_int he) (kd_str hd) hsrc hv, hK', .str, H, Ext.refl _, Step.refl _ _ _⟩
  · rename_i el hs hd
    obtain ⟨he, hK⟩ := hK
    split at hK
    · rename_i s
      obtain ⟨hlen, hK⟩ := hK
      cases hx
      obtain ⟨c, w', fr, hrun, hge, hle, hnew, hk, hz, h1, h2, h3, h4⟩ := run_s2b (w := w) (kd_str hs) (kd_slice hd) (kd_int he) s hlen
      obtain ⟨H', hst, hle'⟩ := H.lay (Nat.le_refl _) hnew hk hz h1 h2 h3 h4
      refine ⟨_, _, _, μ, h, _, hrun, hK, ?_, H', Ext.refl _, hst⟩
      refine .ro (R := R.put w.heap.size _) (by simp only [RO.put, if_true]; rfl) ?_ hge hle
      have e1 : (((s2bCells s c).toList.drop 0).take (s.length * Ety.byte.sz)) = s.map fun (b : UInt8) => Value.int .u8 b.toNat := by
        rw [s2bCells, List.toList_toArray, List.drop_zero, show s.length * Ety.byte.sz = (s.map fun (b : UInt8) => Value.int .u8 b.toNat).length from by simp [Ety.sz], List.take_left]
      rw [e1]
      have key : ∀ (R' : RO) (s : List UInt8), LRel R' [] (s.flatMap (Ety.enc .byte)) (s.map fun (b : UInt8) => Value.int .u8 b.toNat) := by
        intro R' s
        induction s with
        | nil => exact .nil
        | cons a s ih => exact .cons .int ih
      exact key _ s
    · exact hK.elim
  · rename_i el el2 hs hd
    obtain ⟨rfl, he, hK⟩ := hK
    split at hK
    · rename_i g s n
      obtain ⟨hn, hK⟩ := hK
      split at hK
      · rename_i xs hc
        exact conv_mark H (kd_slice hs) (kd_int he) hx hn (hth_get hc (by simp)) hK.1 hK.2
      · exact hK.elim
    · exact hK.elim
  · obtain ⟨hs, hK⟩ := hK
    obtain ⟨v, av, h1, h2, h3⟩ := convK_ok hs hx hK
    exact ⟨_, _, R, μ, h, _, h3 w, h1, h2, H, Ext.refl _, Step.refl _ _ _⟩
end Go.V
