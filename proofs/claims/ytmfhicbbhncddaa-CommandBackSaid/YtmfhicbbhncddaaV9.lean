/-
  Literals of structs and slices, conversions, further builtins; rows that are frozen.
-/
import Derived.Test.YtmfhicbbhncddaaV8
set_option linter.unusedVariables false
set_option linter.unusedSimpArgs false
namespace Go.V

variable {P : Program} {R : RO} {μ : List Bind} {h : List Ch} {w : World}

/-! ### Struct and array literals -/
/-- offset and size of every field -/
def placesT (P : Program) (t : TypeId) : Option (List (Nat × Nat)) :=
  match P.underlying t with
  | some (.struct fs) => fs.toList.mapM fun f => (P.info? f.type).map fun i => (f.offset, i.size)
  | _ => none
def fillK (place : Nat → Option (Nat × Nat)) : List AV → List (Nat × AV) → (List AV → Prop) → Prop
  | zs, [], K => K zs
  | zs, (i, x) :: r, K => (match place i with
    | some (off, sz) => ((cellsA x).length = sz ∧ off + sz ≤ zs.length) ∧ okCells (cellsA x) ∧ fillK place (setA zs off (cellsA x)) r K
    | none => False)
def buildK (P : Program) (t : TypeId) (parts : List (Nat × AV)) (K : AV → Prop) : Prop :=
  match zeroT P t with
  | some zs => (match kdT P t with
    | .struct => (match placesT P t with
      | some l => fillK (fun i => l[i]?) zs parts fun zs => K (.agg zs)
      | none => False)
    | .array _ el => (szT P el ≠ 0) ∧ fillK (fun i => some (i * szT P el, szT P el)) zs parts fun zs => K (.agg zs)
    | _ => False)
  | none => False

theorem zip_foldl (off : Nat) : ∀ (us : List Value) (j : Nat) (cs : Array Value), ((us.zipIdx j).foldl (fun cs (p : Value × Nat) => cs.setIfInBounds (off + p.2) p.1) cs).toList = (List.range us.length).foldl (fun l i => l.set (off + j + i) (us.getD i undef)) cs.toList := by
  intro us
  induction us with
  | nil => intro j cs; rfl
  | cons u us ih =>
    intro j cs
    rw [List.zipIdx_cons, List.foldl_cons, ih]
    simp only [Array.toList_setIfInBounds, List.length_cons, List.range_succ_eq_map, List.foldl_cons, List.foldl_map]
    simp [Nat.add_assoc, Nat.add_comm 1]
theorem fold_setA (μ : List Bind) (R : RO) : ∀ (us : List Value) (l vs : List AV) (ws : List Value) (off : Nat), LRel R μ vs ws → LRel R μ l us → LRel R μ (setA vs off l) ((List.range us.length).foldl (fun w i => w.set (off + i) (us.getD i undef)) ws)
  | [], l, vs, ws, off, hv, hl => by cases hl; exact hv
  | u :: us, l, vs, ws, off, hv, hl => by
    cases hl with
    | @cons _ a _ l _ ha hl =>
      have ih := fold_setA μ R us l (vs.set off a) (ws.set off u) (off + 1) (hv.set off ha) hl
      simp only [setA, List.length_cons, List.range_succ_eq_map, List.foldl_cons, List.foldl_map, Nat.add_zero, List.getD_cons_zero, List.getD_cons_succ]
      have e : (fun (w : List Value) (i : Nat) => w.set (off + i.succ) (us.getD i undef)) = fun w i => w.set (off + 1 + i) (us.getD i undef) := by
        funext w i
        rw [show off + i.succ = off + 1 + i from by omega]
      rw [e]
      exact ih
/-- the parts' values -/
inductive PRel (R : RO) (μ : List Bind) : List (Nat × AV) → List (Nat × Value) → Prop
  | nil : PRel R μ [] []
  | cons {i a v l vs} (h : Rel R μ a v) (hs : PRel R μ l vs) : PRel R μ ((i, a) :: l) ((i, v) :: vs)
theorem fillK_ok {place : Nat → Option (Nat × Nat)} {K : List AV → Prop} : ∀ (parts : List (Nat × AV)) (vals : List (Nat × Value)) (zs : List AV) (cs : Array Value), PRel R μ parts vals → LRel R μ zs cs.toList → fillK place zs parts K →
    ∃ zs' cs', K zs' ∧ LRel R μ zs' cs'.toList ∧ Instr.fill place cs vals = some cs'
  | [], _, zs, cs, hp, hz, hK => by cases hp; exact ⟨zs, cs, hK, hz, rfl⟩
  | (i, x) :: r, _, zs, cs, hp, hz, hK => by
    cases hp with
    | @cons _ _ v _ vs hx hs =>
      simp only [fillK] at hK
      split at hK
      · rename_i off sz hpl
        obtain ⟨⟨h1, h2⟩, ho, hK⟩ := hK
        obtain ⟨hxl, _⟩ := cells_rel hx ho
        have hlen := hxl.len
        have hzl := hz.len
        have hsz : v.cells.size = sz := by rw [← Array.length_toList, ← hlen, h1]
        have hnew : LRel R μ (setA zs off (cellsA x)) (v.cells.zipIdx.foldl (fun cs (p : Value × Nat) => cs.setIfInBounds (off + p.2) p.1) cs).toList := by
          rw [← Array.foldl_toList, Array.toList_zipIdx, zip_foldl]
          simp only [Nat.add_zero]
          exact fold_setA μ R _ _ _ _ _ hz hxl
        obtain ⟨zs', cs', h3, h4, h5⟩ := fillK_ok r vs _ _ hs hnew hK
        refine ⟨zs', cs', h3, h4, ?_⟩
        rw [← h5]
        simp only [Instr.fill, hpl]
        have hzl' : zs.length = cs.size := by rw [hz.len]; exact Array.length_toList
        rw [if_neg (by rw [hsz]; simp; omega)]
      · exact hK.elim
theorem run_sizeOf' {t : TypeId} {i : TypeInfo} (hi : P.info? t = some i) (w : World) : (sizeOf t).run P w = .ok i.size w := by simp [sizeOf, typeInfo, hi]
theorem run_places {fs : List Field} {l : List (Nat × Nat)} (hl : fs.mapM (fun f => (P.info? f.type).map fun i => (f.offset, i.size)) = some l) (w : World) :
    (fs.mapM fun f => (do pure (f.offset, ← sizeOf f.type) : Sem (Nat × Nat))).run P w = .ok l w := by
  induction fs generalizing l with
  | nil => simp at hl; subst hl; simp
  | cons f fs ih =>
    simp only [List.mapM_cons, Option.bind_eq_bind] at hl
    cases hi : P.info? f.type with
    | none => simp [hi] at hl
    | some i =>
      simp only [hi, Option.map_some, Option.bind_some] at hl
      cases hm : fs.mapM (fun f => (P.info? f.type).map fun i => (f.offset, i.size)) with
      | none => simp [hm] at hl
      | some l' =>
        simp only [hm, Option.bind_some, Option.pure_def, Option.some.injEq] at hl
        subst hl
        simp only [List.mapM_cons, Sem.run_bind, run_sizeOf' hi, Result.andThen_ok, Sem.run_pure, ih hm]

theorem buildK_ok {t : TypeId} {parts : List (Nat × AV)} {vals : List (Nat × Value)} {K : AV → Prop} (hp : PRel R μ parts vals) (hK : buildK P t parts K) : Gives P R μ K (Instr.build t vals.toArray) := by
  unfold buildK at hK
  split at hK
  · rename_i zs hz
    unfold zeroT at hz
    split at hz
    · rename_i i hi
      split at hz
      · rename_i z hzz
        simp only [Option.some.injEq] at hz
        subst hz
        have hrel := ofV_rels R μ z.cells.toList
        have hzero : ∀ w, (zeroValue t).run P w = .ok z w := fun w => by simp [zeroValue, typeInfo, hi, hzz]
        split at hK
        · rename_i hk
          obtain ⟨fs, hu⟩ := kd_struct hk
          split at hK
          · rename_i l hl
            unfold placesT at hl
            rw [hu] at hl
            obtain ⟨zs', cs', h1, h2, h3⟩ := fillK_ok parts vals _ _ hp hrel hK
            refine .mk h1 (v := .agg cs') (by simpa using Rel.agg h2) fun w => ?_
            have hpl := run_places hl w
            have hm : (fs.mapM fun f => (do pure (f.offset, ← sizeOf f.type) : Sem (Nat × Nat))).run P w = .ok l.toArray w := by
              rw [← Array.toArray_toList (xs := fs), List.mapM_toArray, Sem.run_map, hpl]
              rfl
            simp only [Instr.build, Sem.run_bind, hzero, Result.andThen_ok, run_underlying hu, hm]
            have h4 : (fun (x : Nat) => l.toArray[x]?) = fun (i : Nat) => l[i]? := by funext i; simp
            simp only [h4, List.toList_toArray, h3, Sem.run_pure]
          · exact hK.elim
        · rename_i n el hk
          obtain ⟨hz, hK⟩ := hK
          obtain ⟨zs', cs', h1, h2, h3⟩ := fillK_ok parts vals _ _ hp hrel hK
          refine .mk h1 (v := .agg cs') (by simpa using Rel.agg h2) fun w => ?_
          simp only [Instr.build, Sem.run_bind, hzero, Result.andThen_ok, run_underlying (kd_array hk), run_sizeOf hz, List.toList_toArray, h3, Sem.run_pure]
        · exact hK.elim
      · simp at hz
    · simp at hz
  · exact hK.elim

/-! ### Conversions between strings and bytes -/
def convHK (P : Program) (src dst : TypeId) (x : AV) (h : List Ch) (K : AV → List Ch → Prop) : Prop :=
  match kdT P src, kdT P dst with
  | .slice el, .str => kdT P el = .int .u8 ∧ srcK .byte h x fun ys => K (.str ys) h
  | .str, .slice el => kdT P el = .int .u8 ∧ (match x with | .str s => (s.length ≤ maxBytes) ∧ K (.ro .byte s) h | _ => False)
  | ks, kd => ks ≠ .other ∧ convK ks kd x fun v => K v h

theorem run_b2s {src dst el : TypeId} (hs : P.underlying src = some (.slice el)) (he : P.underlying el = some (.int .u8)) (hd : P.underlying dst = some .string) {v : Value} {ys : List UInt8} {news : List Value} (hsrc : SrcR P R w .byte src v ys news) (hv : ∃ a n c, v = .slice a n c) :
    (convert src dst v).run P w = .ok (.string ⟨ys.toArray⟩) w := by
  obtain ⟨a, n, c, rfl⟩ := hv
  rw [run_convert_bytes_string w src dst el a n c hs he hd]
  have hl := hsrc.src.len w
  simp only [Builtin.lenOf, Sem.run_pure, Result.ok.injEq, and_true] at hl
  subst hl
  have hnews : news = (ys.map fun b => (b.toNat : Int)).map (Value.int .u8) := by
    have := hsrc.rel
    have key : ∀ (ys : List UInt8) (news : List Value), LRel R [] (ys.flatMap (Ety.enc .byte)) news → news = (ys.map fun b => (b.toNat : Int)).map (Value.int .u8) := by
      intro ys
      induction ys with
      | nil => intro news h; cases h; rfl
      | cons y ys ih =>
        intro news h
        cases h with
        | cons h1 h2 =>
          cases h1
          simp only [List.map_cons]
          rw [ih _ h2]
    exact key ys news this
  cases a with
  | none =>
    have h0 : ys = [] := by
      have h1 := hsrc.src.cells
      simp only [Builtin.firstCells, Sem.run_pure, Result.ok.injEq, and_true] at h1
      have h2 : news = [] := by
        have := congrArg Array.toList h1
        simpa using this.symm
      rw [h2] at hnews
      simpa using hnews.symm
    subst h0
    rfl
  | some a =>
    have hc := hsrc.src.cells
    simp only [Builtin.firstCells] at hc
    rw [show (Ety.byte.sz) = 1 from rfl, Nat.mul_one] at hc
    rw [hnews] at hc
    rw [run_bytesToString w a ys.length c _ hc]
    congr 2
    have key : ∀ (ys : List UInt8) (r : ByteArray), (ys.map fun b => (b.toNat : Int)).foldl (fun r n => r.push (UInt8.ofNat n.toNat)) r = ⟨(r.data.toList ++ ys).toArray⟩ := by
      intro ys
      induction ys with
      | nil => intro r; cases r; simp
      | cons y ys ih =>
        intro r
        simp only [List.map_cons, List.foldl_cons]
        rw [ih]
        cases r
        simp [ByteArray.push]
    rw [key]
    simp [ByteArray.empty, ByteArray.emptyWithCapacity]
    rfl

def s2bCells (s : List UInt8) (c : Nat) : Array Value := ((s.map fun (b : UInt8) => Value.int .u8 b.toNat) ++ List.replicate (c - s.length) (Value.int .u8 0)).toArray
theorem run_s2b {src dst el : TypeId} (hs : P.underlying src = some .string) (hd : P.underlying dst = some (.slice el)) (he : P.underlying el = some (.int .u8)) (s : List UInt8) (hlen : s.length ≤ maxBytes) :
    ∃ c w' fr, (convert src dst (.string ⟨s.toArray⟩)).run P w = .ok (.slice (some ⟨w.heap.size, 0, none⟩) s.length c) w' ∧ s.length ≤ c ∧ c ≤ maxLen ∧
      w'.heap[w.heap.size]? = some (.cells (s2bCells s c) el fr) ∧
      (∀ n, n < w.heap.size → w'.heap[n]? = w.heap[n]?) ∧ w.heap.size ≤ w'.heap.size ∧ w'.os = w.os ∧ w'.tape = w.tape ∧ w'.output = w.output := by
  have hml : s.length ≤ maxLen := Nat.le_trans hlen (by decide)
  generalize hc : grownCap w s.length 0 el = c
  have hge : s.length ≤ c := by rw [← hc]; exact grownCap_ge _ _ _ _
  have hle : c ≤ maxLen := by rw [← hc]; exact grownCap_le_maxLen _ _ _ _ hml
  have hcut : (Question.appendCap s.length 0 el).cut (w.tape w.drawn (.appendCap s.length 0 el)) = c := hc
  have harr : ((⟨s.toArray⟩ : ByteArray).data.map fun b => (Value.int .u8 b.toNat : Value)) ++ Array.replicate (c - s.length) (.int .u8 0) = s2bCells s c := by
    apply Array.ext'; simp [s2bCells]
  have hsz : (s2bCells s c).size = c := by simp [s2bCells]; omega
  generalize hA : s2bCells s c = A at harr hsz ⊢
  have hshape : (w.drew.alloc (.cells A el)).shape? w.heap.size = some (el, c) := by
    unfold World.shape?
    rw [show (w.drew.alloc (.cells A el)).heap[w.heap.size]? = some (.cells A el) from heap_alloc_new w.drew _]
    simp [hsz]
  refine ⟨c, (w.drew.alloc (.cells A el)).freeze ⟨w.heap.size, c, none⟩ 1, (c, c + 1), ?_, hge, hle, ?_, ?_, ?_, rfl, rfl, rfl⟩
  · have hstep : (Conv.stringToBytes el ⟨s.toArray⟩).run P w = .ok (.slice (some ⟨w.heap.size, 0, none⟩) s.length c) ((w.drew.alloc (.cells A el)).freeze ⟨w.heap.size, c, none⟩ 1) := by
      unfold Conv.stringToBytes
      rw [Sem.run_bind, run_choose, size_str]
      simp only [Question.forced, Bool.false_eq_true, if_false, hcut, Result.andThen_ok, Sem.run_bind]
      rw [harr]
      simp only [newRow, Sem.run_bind, run_newObj, Result.andThen_ok, Sem.run_pure, markStringish, run_shape]
      rw [show ({ w with heap := w.heap.push (.cells A el), drawn := w.drawn + 1 } : World) = w.drew.alloc (.cells A el) from rfl]
      rw [hshape]
      simp only [run_freeze, Result.andThen_ok]
    simp only [convert, Sem.run_bind, run_underlying hs, run_underlying hd, run_underlying he, Result.andThen_ok, hstep]
  · unfold World.freeze
    simp only [Nat.one_ne_zero, if_false, Array.getElem?_modify, if_true]
    rw [show (w.drew.alloc (.cells A el)).heap[w.heap.size]? = some (.cells A el) from heap_alloc_new w.drew _]
    simp
    try exact hA.symm
  · intro n hn
    unfold World.freeze
    simp only [Nat.one_ne_zero, if_false, Array.getElem?_modify]
    rw [if_neg (by omega)]
    exact RowKit.Below.heap_alloc w.drew _ n hn
  · unfold World.freeze
    simp

theorem convHK_ok (H : HOk R μ h w) {src dst : TypeId} {x : AV} {vx : Value} {K : AV → List Ch → Prop} (hx : Rel R μ x vx) (hK : convHK P src dst x h K) : GivesH P R μ h w K (convert src dst vx) := by
  unfold convHK at hK
  split at hK
  · rename_i el hs hd
    obtain ⟨he, hK⟩ := hK
    obtain ⟨ys, news, hK', hsrc⟩ := srcK_ok H (tx := src) (kd_slice hs) hx hK
    have hv : ∃ a n c, vx = .slice a n c := by
      unfold srcK at hK
      split at hK
      · cases hx <;> exact ⟨_, _, _, rfl⟩
      · cases hx <;> exact ⟨_, _, _, rfl⟩
      · cases hx; exact ⟨_, _, _, rfl⟩
      · exact hK.elim
    exact ⟨_, _, R, μ, h, _, run_b2s (kd_slice hs) (kd_int he) (kd_str hd) hsrc hv, hK', .str, H, Ext.refl _, Step.refl _ _ _⟩
  · rename_i el hs hd
    obtain ⟨he, hK⟩ := hK
    split at hK
    · rename_i s
      obtain ⟨hlen, hK⟩ := hK
      cases hx
      obtain ⟨c, w', fr, hrun, hge, hle, hnew, hk, hz, h1, h2, h3⟩ := run_s2b (w := w) (kd_str hs) (kd_slice hd) (kd_int he) s hlen
      obtain ⟨H', hst, hle'⟩ := H.lay (Nat.le_refl _) hnew hk hz h1 h2 h3
      refine ⟨_, _, _, μ, h, _, hrun, hK, ?_, H', Ext.refl _, hst⟩
      refine .ro (R := R.put w.heap.size _) (by simp only [RO.put, if_true]; rfl) ?_ hge hle
      have e1 : (((s2bCells s c).toList.drop 0).take (s.length * Ety.byte.sz)) = s.map fun (b : UInt8) => Value.int .u8 b.toNat := by
        rw [s2bCells, List.toList_toArray, List.drop_zero, show s.length * Ety.byte.sz = (s.map fun (b : UInt8) => Value.int .u8 b.toNat).length from by simp [Ety.sz], List.take_left]
      rw [e1]
      have key : ∀ (R' : RO) (s : List UInt8), LRel R' [] (s.flatMap (Ety.enc .byte)) (s.map fun (b : UInt8) => Value.int .u8 b.toNat) := by
        intro R' s
        induction s with
        | nil => exact .nil
        | cons a s ih => exact .cons .int ih
      exact key _ s
    · exact hK.elim
  · obtain ⟨hs, hK⟩ := hK
    obtain ⟨v, av, h1, h2, h3⟩ := convK_ok hs hx hK
    exact ⟨_, _, R, μ, h, _, h3 w, h1, h2, H, Ext.refl _, Step.refl _ _ _⟩
end Go.V
