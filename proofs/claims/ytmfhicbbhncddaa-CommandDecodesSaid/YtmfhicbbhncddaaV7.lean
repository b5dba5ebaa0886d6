/-
  Soundness of stores, new blocks, append.
-/
import Derived.Test.YtmfhicbbhncddaaV6
set_option linter.unusedVariables false
set_option linter.unusedSimpArgs false
namespace Go.V

variable {P : Program} {R : RO} {μ : List Bind} {h : List Ch} {w : World}

theorem setA_rel : ∀ (l : List AV) (vs : List AV) (off : Nat) (ws us : List Value), LRel R μ vs ws → LRel R μ l us → off + l.length ≤ vs.length → LRel R μ (setA vs off l) (ws.take off ++ us ++ ws.drop (off + us.length))
  | [], vs, off, ws, us, hv, hl, _ => by
    cases hl
    simp [setA]; exact hv
  | a :: l, vs, off, ws, us, hv, hl, hlen => by
    cases hl with
    | @cons _ _ u _ us ha hl =>
      have h1 := setA_rel l (vs.set off a) (off + 1) (ws.set off u) us (hv.set off ha) hl (by simp at hlen ⊢; omega)
      have hw := hv.len
      have hlt : off < ws.length := by simp at hlen; omega
      simp only [setA]
      have e : (ws.set off u).take (off + 1) ++ us ++ (ws.set off u).drop (off + 1 + us.length) = ws.take off ++ u :: us ++ ws.drop (off + (u :: us).length) := by
        rw [List.take_set, List.drop_set_of_lt (by omega)]
        have : (ws.take (off + 1)).set off u = ws.take off ++ [u] := by
          rw [List.take_succ_eq_append_getElem hlt, List.set_append_right _ _ (by simp; omega)]
          simp [Nat.min_eq_left (Nat.le_of_lt hlt)]
        rw [this]
        simp [Nat.add_assoc, Nat.add_comm 1]
      rw [← e]; exact h1
theorem setA_len : ∀ (l vs : List AV) (off : Nat), (setA vs off l).length = vs.length
  | [], _, _ => rfl
  | a :: l, vs, off => by rw [setA, setA_len l]; simp

theorem setA_left : ∀ (l A B : List AV) (off : Nat), off + l.length ≤ A.length → setA (A ++ B) off l = setA A off l ++ B
  | [], _, _, _, _ => rfl
  | a :: l, A, B, off, h => by
    simp only [setA]
    rw [List.set_append_left _ _ (by simp at h; omega), setA_left l (A.set off a) B (off + 1) (by simp at h ⊢; omega)]
theorem setA_right : ∀ (l A B : List AV) (k : Nat), setA (A ++ B) (A.length + k) l = A ++ setA B k l
  | [], _, _, _ => rfl
  | a :: l, A, B, k => by
    simp only [setA]
    rw [List.set_append_right _ _ (by omega), Nat.add_sub_cancel_left, Nat.add_assoc, setA_right l A (B.set k a) (k + 1)]
theorem setA_mem : ∀ (l A : List AV) (off : Nat), off + l.length ≤ A.length → ∀ a ∈ l, a ∈ setA A off l := by
  have keep : ∀ (l A : List AV) (k off : Nat) (a : AV), A[k]? = some a → k < off → (setA A off l)[k]? = some a := by
    intro l
    induction l with
    | nil => intro A k off a h _; exact h
    | cons b l ih =>
      intro A k off a h hk
      simp only [setA]
      exact ih _ k (off + 1) a (by rw [List.getElem?_set_ne (by omega)]; exact h) (by omega)
  intro l
  induction l with
  | nil => intro A off _ a ha; simp at ha
  | cons b l ih =>
    intro A off h a ha
    simp only [setA]
    rcases List.mem_cons.1 ha with rfl | ha
    · exact List.mem_of_getElem? (keep l (A.set off a) off (off + 1) a (by rw [List.getElem?_set_self (by simp at h; omega)]) (by omega))
    · exact ih _ _ (by simp at h ⊢; omega) a ha
theorem flat_at (e : Ety) (l : List AV) (off : Nat) : ∀ (xs : List e.T) (i : Nat), i < xs.length → off + l.length ≤ e.sz → setA (xs.flatMap e.enc) (i * e.sz + off) l = (xs.take i).flatMap e.enc ++ (setA (e.enc (e.get xs i)) off l ++ (xs.drop (i + 1)).flatMap e.enc)
  | [], i, h, _ => by simp at h
  | x :: xs, 0, _, h => by
    simp only [Nat.zero_mul, Nat.zero_add, List.flatMap_cons, List.take_zero, List.flatMap_nil, List.nil_append, List.drop_succ_cons, List.drop_zero]
    rw [setA_left _ _ _ _ (by rw [e.enc_len]; exact h)]
    rfl
  | x :: xs, i + 1, hi, h => by
    simp only [List.flatMap_cons, List.take_succ_cons, List.drop_succ_cons, List.append_assoc]
    have h1 : (i + 1) * e.sz + off = (e.enc x).length + (i * e.sz + off) := by rw [e.enc_len, Nat.succ_mul]; omega
    rw [h1, setA_right, flat_at e l off xs i (by simpa using hi) h]
    rfl
theorem set_flat (e : Ety) (y : e.T) : ∀ (xs : List e.T) (i : Nat), i < xs.length → (xs.set i y).flatMap e.enc = (xs.take i).flatMap e.enc ++ (e.enc y ++ (xs.drop (i + 1)).flatMap e.enc)
  | [], i, h => by simp at h
  | x :: xs, 0, _ => by simp
  | x :: xs, i + 1, hi => by
    simp only [List.set_cons_succ, List.flatMap_cons, List.take_succ_cons, List.drop_succ_cons, List.append_assoc]
    rw [set_flat e y xs i (by simpa using hi)]
theorem LRel.split {R : RO} {μ : List Bind} : ∀ {l l' : List AV} {vs : List Value}, LRel R μ (l ++ l') vs → ∃ us us', vs = us ++ us' ∧ LRel R μ l us ∧ LRel R μ l' us'
  | [], _, vs, h => ⟨[], vs, rfl, .nil, h⟩
  | a :: l, l', _, h => by
    cases h with
    | cons ha hl =>
      obtain ⟨us, us', h1, h2, h3⟩ := LRel.split hl
      exact ⟨_ :: us, us', by rw [h1]; rfl, .cons ha h2, h3⟩
theorem set_rel {R : RO} {μ : List Bind} (e : Ety) {l : List AV} {off : Nat} {y : e.T} {xs : List e.T} {i : Nat} (hi : i < xs.length) (hf : off + l.length ≤ e.sz) (hd : e.dec (setA (e.enc (e.get xs i)) off l) = some y) (ho : e.decOk (setA (e.enc (e.get xs i)) off l)) {vs : List Value} (h : LRel R μ (setA (xs.flatMap e.enc) (i * e.sz + off) l) vs) : LRel R μ ((xs.set i y).flatMap e.enc) vs := by
  rw [flat_at e l off xs i hi hf] at h
  rw [set_flat e y xs i hi]
  obtain ⟨u1, u2, rfl, h1, h2⟩ := h.split
  obtain ⟨u3, u4, rfl, h3, h4⟩ := h2.split
  exact h1.app ((e.dec_ok hd ho h3).app h4)
theorem Rel.free {R : RO} {μ : List Bind} {a : AV} {v : Value} (h : Rel R μ a v) (ht : a.tf = true) (μ' : List Bind) : Rel R μ' a v := by
  cases h <;> simp [AV.tf] at ht
  case int => exact .int
  case bool => exact .bool
  case str => exact .str
  case lit => exact .lit
  case ro h hl hc hm => exact .ro h hl hc hm
  case ro0 hm => exact .ro0 hm
theorem LRel.free {R : RO} {μ : List Bind} : ∀ {l : List AV} {vs : List Value}, LRel R μ l vs → (∀ a ∈ l, a.tf = true) → ∀ μ', LRel R μ' l vs
  | [], _, .nil, _, _ => .nil
  | _ :: _, _, .cons h hs, ht, μ' => .cons (h.free (ht _ (by simp)) μ') (LRel.free hs (fun a ha => ht a (by simp [ha])) μ')

theorem tfs_ok : ∀ {l : List AV}, tfs l → ∀ a ∈ l, a.tf = true
  | [], _, a, ha => by simp at ha
  | b :: l, h, a, ha => by
    rcases List.mem_cons.1 ha with rfl | ha
    · exact h.1
    · exact tfs_ok h.2 a ha
theorem run_storeVar {t : TypeId} {b off : Nat} {arr : Array Value} {ty : TypeId} {v : Value} (hz : szT P t ≠ 0) (hb : w.heap[b]? = some (.cells arr ty (0, 0))) (hs : v.cells.size = szT P t) (hfit : off + szT P t ≤ arr.size) (h1 : ∀ u ∈ v.cells.toList, u.oneCell' = true) :
    (Instr.storeAt t (.pointer (some ⟨b, off, none⟩)) v).run P w = .ok () (w.setRow b (arr.toList.take off ++ v.cells.toList ++ arr.toList.drop (off + v.cells.toList.length)).toArray) := by
  have hst := run_storeCells_at P b off ty v.cells.toList 0 arr w hb (by simp [hs]; omega) h1
  simp only [Nat.add_zero] at hst
  simp [Instr.storeAt, Instr.sureAddr, storeVar, run_sizeOf hz, hs, hst]

theorem storeK_ok (H : HOk R μ h w) {t : TypeId} {a x : AV} {va vx : Value} {K : List Ch → Prop} (ha : Rel R μ a va) (hx : Rel R μ x vx) (hK : storeK P t a x h K) :
    ∃ w' h', (Instr.storeAt t va vx).run P w = .ok () w' ∧ K h' ∧ HOk R μ h' w' ∧ Step (ownH h μ) R w (ownH h' μ) R w' := by
  unfold storeK at hK
  split at hK
  · rename_i b off
    split at hK
    · rename_i vs hc
      obtain ⟨⟨h1, h2, hz⟩, ho, hK⟩ := hK
      obtain ⟨B, hB, ⟨n, arr, ty, rfl, hb, hl⟩, _⟩ := H.rel.get (hth_get hc (by simp))
      obtain ⟨hxl, hx1⟩ := cells_rel hx ho
      have hlen := hxl.len
      have hlv := hl.len
      cases ha with
      | ptr h3 h4 =>
        rw [hB] at h3
        obtain rfl := Option.some.inj h3
        simp only [Bind.obj, Option.some.injEq] at h4
        subst h4
        have hrun := run_storeVar hz hb (by rw [← Array.length_toList, ← hlen, h1]) (off := off) (by rw [← Array.length_toList, ← hlv]; exact h2) hx1
        have hnew := setRow_heap w n arr (arr.toList.take off ++ vx.cells.toList ++ arr.toList.drop (off + vx.cells.toList.length)).toArray ty (0, 0) hb
        obtain ⟨H', hstep⟩ := H.set (c' := .cells (setA vs off (cellsA x))) (w' := w.setRow n (arr.toList.take off ++ vx.cells.toList ++ arr.toList.drop (off + vx.cells.toList.length)).toArray) (hth_get hc (by simp)) hB (by simp [ownC]) (fun m _ hm => setRow_other w n m _ (fun e => hm (by simp [ownC, e]))) (by simp)
          ⟨n, _, ty, rfl, hnew, by simpa using setA_rel _ _ _ _ _ hl hxl (by rw [h1]; exact h2)⟩ rfl rfl rfl
        exact ⟨_, _, hrun, hK, H', hstep⟩
    · exact hK.elim
  · rename_i b e i off
    split at hK
    · rename_i e' xs hc
      split at hK
      · rename_i ys hy
        obtain ⟨rfl, hy⟩ := asE_some hy
        change xs = ys at hy
        subst hy
        split at hK
        · rename_i y hdec
          obtain ⟨⟨hi, h1, h2, hz⟩, ho, htf, hok, hK⟩ := hK
          obtain ⟨B, hB, hr, _⟩ := H.rel.get (hth_get hc (by simp))
          obtain ⟨hxl, hx1⟩ := cells_rel hx ho
          have hlen := hxl.len
          rcases hr with ⟨rfl, rfl⟩ | ⟨n, cap, arr, ty, rfl, hb, hsz, hlx, hcap, hl⟩
          · simp at hi
          · cases ha with
            | ep h3 =>
              rw [hB] at h3
              simp only [Option.some.injEq, Bind.blk.injEq] at h3
              obtain ⟨rfl, rfl⟩ := h3
              have hrow : i * e'.sz + e'.sz ≤ xs.length * e'.sz := by rw [← Nat.succ_mul]; exact Nat.mul_le_mul_right _ hi
              have hfull : xs.length * e'.sz ≤ arr.size := by rw [hsz]; exact Nat.mul_le_mul_right _ hlx
              have hus : vx.cells.toList.length = szT P t := by rw [← hlen, h1]
              have hfit : i * e'.sz + off + szT P t ≤ arr.size := by omega
              have hrun := run_storeVar hz hb (by rw [← Array.length_toList]; exact hus) (off := i * e'.sz + off) hfit hx1
              have hnew := setRow_heap w n arr (arr.toList.take (i * e'.sz + off) ++ vx.cells.toList ++ arr.toList.drop (i * e'.sz + off + vx.cells.toList.length)).toArray ty (0, 0) hb
              have hrel := set_rel e' hi (by rw [h1]; exact h2) hdec hok (setA_rel (cellsA x) (xs.flatMap e'.enc) (i * e'.sz + off) _ _ hl (hxl.free (tfs_ok htf) []) (by rw [flat_len, h1]; omega))
              have hval : ((arr.toList.take (xs.length * e'.sz)).take (i * e'.sz + off) ++ vx.cells.toList ++ (arr.toList.take (xs.length * e'.sz)).drop (i * e'.sz + off + vx.cells.toList.length)) = (arr.toList.take (i * e'.sz + off) ++ vx.cells.toList ++ arr.toList.drop (i * e'.sz + off + vx.cells.toList.length)).take (xs.length * e'.sz) := by
                rw [List.take_take, Nat.min_eq_left (by omega), List.drop_take, List.take_append, List.take_of_length_le (l := arr.toList.take (i * e'.sz + off) ++ vx.cells.toList) (by simp only [List.length_append, List.length_take, Array.length_toList, hus]; omega)]
                congr 2
                simp only [List.length_append, List.length_take, Array.length_toList, hus]
                omega
              rw [hval] at hrel
              obtain ⟨H', hstep⟩ := H.set (c' := .rows e' (xs.set i y)) (w' := w.setRow n (arr.toList.take (i * e'.sz + off) ++ vx.cells.toList ++ arr.toList.drop (i * e'.sz + off + vx.cells.toList.length)).toArray) (hth_get hc (by simp)) hB (by simp [ownC]) (fun m _ hm => setRow_other w n m _ (fun e => hm (by simp [ownC, e]))) (by simp)
                (.inr ⟨n, cap, _, ty, rfl, hnew, by simp only [List.size_toArray, List.length_append, List.length_take, List.length_drop, Array.length_toList, hus]; omega, by simpa using hlx, hcap, by simpa using hrel⟩) rfl rfl rfl
              exact ⟨_, _, hrun, hK, H', hstep⟩
        · exact hK.elim
      · exact hK.elim
    · exact hK.elim
  · exact hK.elim

theorem newBlock (H : HOk R μ h w) {l : List AV} {vs : List Value} {ty : TypeId} (hl : LRel R μ l vs) :
    HOk R (μ ++ [.cel w.heap.size]) (h ++ [.cells l]) (w.alloc (.cells vs.toArray ty)) ∧ Step (ownH h μ) R w (ownH (h ++ [.cells l]) (μ ++ [.cel w.heap.size])) R (w.alloc (.cells vs.toArray ty)) :=
  H.push (fun n hn => RowKit.Below.heap_alloc w _ n hn) (by simp) (by simp [ownC]) (fun n hn => by simp [ownC] at hn; subst hn; simp)
    ⟨w.heap.size, vs.toArray, ty, rfl, heap_alloc_new w _, by have := hl.mono (RO.le.refl R) (Ext.app μ [.cel w.heap.size]); simpa only [List.toList_toArray] using this⟩ rfl rfl rfl
theorem ptr_new (H : HOk R μ h w) : Rel R (μ ++ [.cel w.heap.size]) (.ptr h.length 0) (.pointer (some ⟨w.heap.size, 0, none⟩)) :=
  .ptr (B := .cel w.heap.size) (by rw [H.rel.len]; simp) rfl
theorem allocK_ok (H : HOk R μ h w) {t : TypeId} {K : AV → List Ch → Prop} (hK : allocK P t h K) : GivesH P R μ h w K (Instr.alloc t true (.tuple #[])) := by
  unfold allocK at hK
  split at hK
  · rename_i zs hz
    unfold zeroT at hz
    split at hz
    · rename_i i hi
      split at hz
      · rename_i z hzz
        simp only [Option.some.injEq] at hz
        subst hz
        have hl := ofV_rels R μ z.cells.toList
        obtain ⟨H', hs⟩ := newBlock H (ty := t) hl
        exact ⟨_, _, R, _, _, _, by simp [Instr.alloc, zeroValue, typeInfo, hi, hzz, newVar, newRow], hK, ptr_new H, H', Ext.app _ _, hs⟩
      · simp at hz
    · simp at hz
  · exact hK.elim
theorem boxK_ok (H : HOk R μ h w) {t : TypeId} {x : AV} {vx : Value} {K : AV → List Ch → Prop} (hx : Rel R μ x vx) (hK : boxK x h K) : GivesH P R μ h w K (Instr.box t vx) := by
  obtain ⟨ho, hK⟩ := hK
  obtain ⟨hl, _⟩ := cells_rel hx ho
  obtain ⟨H', hs⟩ := newBlock H (ty := t) hl
  exact ⟨_, _, R, _, _, _, by simp [Instr.box, newVar, newRow], hK, ptr_new H, H', Ext.app _ _, hs⟩
end Go.V
