/-
  Soundness of append.
-/
import Derived.Test.YtmfhicbbhncddaaV7
set_option linter.unusedVariables false
set_option linter.unusedSimpArgs false
namespace Go.V

variable {P : Program} {R : RO} {μ : List Bind} {h : List Ch} {w : World}

theorem lrel_one {l : List AV} {vs : List Value} (hl : LRel R μ l vs) (hc : ∀ a ∈ l, a.cell = true) : ∀ u ∈ vs, u.oneCell' = true := by
  intro u hu
  obtain ⟨i, hi, rfl⟩ := List.getElem_of_mem hu
  have h1 := hl.nth i (List.getElem?_eq_getElem hi)
  have hlen := hl.len
  have h2 : nthA l i ∈ l := by
    have : ∀ (l : List AV) (i : Nat), i < l.length → nthA l i ∈ l := by
      intro l
      induction l with
      | nil => intro i hi; simp at hi
      | cons a l ih =>
        intro i hi
        cases i with
        | zero => simp [nthA]
        | succ n => simp only [nthA]; exact List.mem_cons_of_mem _ (ih n (by simpa using hi))
    exact this l i (by omega)
  exact h1.one (hc _ h2)
theorem flat_cell (e : Ety) (xs : List e.T) : ∀ a ∈ xs.flatMap e.enc, a.cell = true := by
  intro a ha
  obtain ⟨x, _, hx⟩ := List.mem_flatMap.1 ha
  exact e.enc_cell x a hx

/-- what the value x yields to an append -/
structure SrcR (P : Program) (R : RO) (w : World) (e : Ety) (tx : TypeId) (v : Value) (ys : List e.T) (news : List Value) : Prop where
  src : Src P e.sz tx v ys.length news w
  rel : LRel R [] (ys.flatMap e.enc) news

theorem src_slice {e : Ety} {tx el : TypeId} (hk : P.underlying tx = some (.slice el)) {b o c : Nat} {ys : List e.T} {news : List Value} (hrel : LRel R [] (ys.flatMap e.enc) news) (hc : ∀ j u, news[j]? = some u → w.cell? ⟨b, o + j, none⟩ = some u) :
    SrcR P R w e tx (.slice (some ⟨b, o, none⟩) ys.length c) ys news :=
  ⟨Src.ofSlice w hk _ _ _ _ (by rw [← hrel.len, flat_len]) (fun j u hu => by rw [addr_add]; exact hc j u hu) (lrel_one hrel (flat_cell e ys)), hrel⟩
theorem src_empty {e : Ety} {tx el : TypeId} (hk : P.underlying tx = some (.slice el)) (a : Option Addr) (c : Nat) : SrcR P R w e tx (.slice a 0 c) ([] : List e.T) [] := by
  refine ⟨?_, by simp; exact .nil⟩
  cases a with
  | none => exact Src.ofNil w hk c
  | some a => exact Src.ofSlice w hk a 0 c [] (by simp) (by simp) (by simp)

theorem srcK_ok (H : HOk R μ h w) {e : Ety} {tx el : TypeId} (hk : P.underlying tx = some (.slice el)) {x : AV} {vx : Value} {F : List e.T → Prop} (hx : Rel R μ x vx) (hK : srcK e h x F) :
    ∃ ys news, F ys ∧ SrcR P R w e tx vx ys news := by
  unfold srcK at hK
  split at hK
  · rename_i e' zs
    split at hK
    · rename_i ys hy
      obtain ⟨rfl, hy⟩ := asE_some hy
      change zs = ys at hy
      subst hy
      cases hx with
      | @ro _ _ _ b o arr ty fr c hb hl hc hm =>
        have hb' := H.ro _ _ hb
        refine ⟨_, _, hK, src_slice hk hl fun j u hu => ?_⟩
        rw [cell_at hb', ← Array.getElem?_toList]
        rw [List.getElem?_take] at hu
        split at hu
        · rw [List.getElem?_drop] at hu; exact hu
        · simp at hu
      | ro0 => exact ⟨_, _, hK, src_empty hk _ _⟩
    · exact hK.elim
  · rename_i b e' s n
    split at hK
    · rename_i e'' zs hc
      split at hK
      · rename_i xs hy
        obtain ⟨rfl, hy⟩ := asE_some hy
        change zs = xs at hy
        subst hy
        obtain ⟨rfl, hle, hK⟩ := hK
        obtain ⟨B, hB, hr, _⟩ := H.rel.get (hth_get hc (by simp))
        have hll : ((zs.drop s).take n).length = n := by simp; omega
        cases hx with
        | @sl _ _ _ _ _ b' cap c h1 hc1 hl1 hm1 =>
          rw [hB] at h1
          obtain rfl := Option.some.inj h1
          rcases hr with ⟨h0, _⟩ | ⟨m, cap', arr, ty, heq, hb, hsz, hlx, hcap, hl⟩
          · simp at h0
          · simp only [Bind.blk.injEq] at heq
            obtain ⟨rfl, rfl⟩ := heq
            have h2 := ((hl.drop (s * e'.sz)).take (n * e'.sz))
            rw [← flat_drop, ← flat_take] at h2
            have h3 := src_slice (w := w) (b := b') (o := s * e'.sz) (c := c) hk h2 fun j u hu => by
              rw [cell_at hb, ← Array.getElem?_toList]
              rw [List.getElem?_take] at hu
              split at hu
              · rw [List.getElem?_drop, List.getElem?_take] at hu
                split at hu
                · exact hu
                · simp at hu
              · simp at hu
            rw [hll] at h3
            exact ⟨_, _, hK, h3⟩
        | sl0 =>
          have : (zs.drop s).take 0 = [] := by simp
          rw [this] at hK
          exact ⟨_, _, hK, src_empty hk _ _⟩
      · exact hK.elim
    · exact hK.elim
  · cases hx
    exact ⟨_, _, hK, src_empty hk _ _⟩
  · exact hK.elim

theorem appSrcK_ok (H : HOk R μ h w) {e : Ety} {tx : TypeId} {x : AV} {vx : Value} {F : List e.T → Prop} (hx : Rel R μ x vx) (hK : appSrcK (kdT P tx) e h x F) :
    ∃ ys news, F ys ∧ SrcR P R w e tx vx ys news := by
  unfold appSrcK at hK
  split at hK
  · rename_i s hk
    split at hK
    · rename_i ys hy
      obtain ⟨rfl, hy⟩ := asE_some hy
      change s = ys at hy
      subst hy
      cases hx
      refine ⟨s, s.map fun b => .int .u8 b.toNat, hK, ⟨?_, ?_⟩⟩
      · have h1 := Src.ofString w (kd_str hk) ⟨s.toArray⟩
        rw [size_str] at h1
        exact h1
      · clear hK hy
        induction s with
        | nil => simp; exact .nil
        | cons a s ih => simp only [List.flatMap_cons, List.map_cons]; exact LRel.app (.cons .int .nil) ih
    · exact hK.elim
  · rename_i hk; exact srcK_ok H (kd_slice hk) hx hK
  · exact hK.elim

theorem bytes_info {t : TypeId} (h : szT P t ≠ 0) : ∃ i, P.info? t = some i ∧ i.size = szT P t ∧ i.bytes = bytesT P t := by
  obtain ⟨i, hi, hs⟩ := sz_info h
  exact ⟨i, hi, hs, by simp [bytesT, hi]⟩

/-- append where nothing is there and nothing comes -/
theorem run_app_stay {t tx ty el : TypeId} (hk : P.underlying t = some (.slice el)) {i : TypeInfo} (hi : P.info? el = some i) {a : Option Addr} {x : Value} (hs : Src P i.size tx x 0 [] w) :
    (Builtin.append_ #[t, tx] ty #[.slice a 0 0, x]).run P w = .ok (.slice a 0 0) w := by
  rcases hs.kind with ⟨e', hk'⟩ | hk' <;> cases a <;> simp [Builtin.append_, run_underlying hk, run_underlying hk', sizeOf, typeInfo, hi, hs.len, hs.cells, storeCells]
/-- append where there is room -/
theorem run_app_room {t tx ty el : TypeId} (hk : P.underlying t = some (.slice el)) {i : TypeInfo} (hi : P.info? el = some i) {b n c m : Nat} {arr : Array Value} {tb : TypeId} {x : Value} {news : List Value} (hs : Src P i.size tx x m news w)
    (hb : w.heap[b]? = some (.cells arr tb (0, 0))) (hroom : n + m ≤ c) (hfit : n * i.size + news.length ≤ arr.size) :
    (Builtin.append_ #[t, tx] ty #[.slice (some ⟨b, 0, none⟩) n c, x]).run P w = .ok (.slice (some ⟨b, 0, none⟩) (n + m) c) (w.setRow b (arr.toList.take (n * i.size) ++ news ++ arr.toList.drop (n * i.size + news.length)).toArray) := by
  have hst := run_storeCells_at P b (n * i.size) tb news 0 arr w hb (by simpa using hfit) hs.one
  simp only [Nat.add_zero] at hst
  rcases hs.kind with ⟨e', hk'⟩ | hk' <;> simp [Builtin.append_, run_underlying hk, run_underlying hk', sizeOf, typeInfo, hi, hs.len, hroom, hs.cells, addr_add, hst]
/-- append where there is none -/
theorem run_app_grow {t tx ty el : TypeId} (hk : P.underlying t = some (.slice el)) {i : TypeInfo} (hi : P.info? el = some i) {z : Value} (hz : i.zero = some z) {a : Option Addr} {n c m : Nat} {olds : List Value} {x : Value} {news : List Value} (hs : Src P i.size tx x m news w)
    (hold : (Builtin.firstCells i.size n (.slice a n c)).run P w.drew = .ok olds.toArray w.drew) (hg : c < n + m) (hbytes : (n + m) * i.bytes ≤ maxBytes) (hlen : n + m ≤ maxBytes) :
    (Builtin.append_ #[t, tx] ty #[.slice a n c, x]).run P w = .ok (.slice (some ⟨w.heap.size, 0, none⟩) (n + m) (grownCap w (n + m) c el))
        (w.drew.alloc (.cells ((olds ++ news).toArray ++ Builtin.zeroCells z.cells (grownCap w (n + m) c el - (n + m))) el)) := by
  have h2 : maxBytes = 140737488355328 := rfl
  exact run_append_grow_src (P := P) w t tx ty el i z hk hi hz a n c olds hold x m news hs hg (by omega) (growslice_fits (by omega) (by rw [h2] at hbytes; exact hbytes))

/-- the type of the elements -/
theorem el_info {el : TypeId} {e : Ety} (hs : szT P el = e.sz) : ∃ i, P.info? el = some i ∧ i.size = e.sz ∧ i.bytes = bytesT P el := by
  obtain ⟨i, hi, h1, h2⟩ := bytes_info (P := P) (t := el) (by rw [hs]; exact Nat.pos_iff_ne_zero.1 e.sz_pos)
  exact ⟨i, hi, h1.trans hs, h2⟩

/-- a new row behind a draw -/
theorem grown_row {e : Ety} {el : TypeId} {ys : List e.T} {vals : List Value} {z : Array Value} (H : HOk R μ h w) (hl : LRel R [] (ys.flatMap e.enc) vals) (hzs : z.size = e.sz) {c : Nat} (hge : ys.length ≤ c) (hcm : c ≤ maxLen) :
    HOk R (μ ++ [.blk w.heap.size c]) (h ++ [.rows e ys]) (w.drew.alloc (.cells (vals.toArray ++ Builtin.zeroCells z (c - ys.length)) el)) ∧
    Step (ownH h μ) R w (ownH (h ++ [.rows e ys]) (μ ++ [.blk w.heap.size c])) R (w.drew.alloc (.cells (vals.toArray ++ Builtin.zeroCells z (c - ys.length)) el)) ∧
    Rel R (μ ++ [.blk w.heap.size c]) (.sl h.length e 0 ys.length) (.slice (some ⟨w.heap.size, 0, none⟩) ys.length c) := by
  have hvl : vals.length = ys.length * e.sz := by rw [← hl.len, flat_len]
  have hp := H.push (w' := w.drew.alloc (.cells (vals.toArray ++ Builtin.zeroCells z (c - ys.length)) el)) (c := .rows e ys) (B := .blk w.heap.size c) (fun n hn => RowKit.Below.heap_alloc w.drew _ n hn) (by simp) (by simp [ownC]) (fun n hn => by simp [ownC] at hn; subst hn; simp)
    (.inr ⟨w.heap.size, c, _, el, rfl, heap_alloc_new w.drew _, by
      simp only [Array.size_append, List.size_toArray, size_zeroCells, hzs, hvl, ← Nat.add_mul]
      congr 1; omega, hge, hcm, by
      simp only [Array.toList_append, List.toList_toArray]
      rw [← hvl, List.take_left]; exact hl⟩) rfl rfl rfl
  refine ⟨hp.1, hp.2, ?_⟩
  have := Rel.sl (R := R) (μ := μ ++ [.blk w.heap.size c]) (t := h.length) (e := e) (start := 0) (len := ys.length) (b := w.heap.size) (cap := c) (c := c) (by rw [H.rel.len]; simp) (by omega) hge hcm
  simpa using this

theorem zero_info {el : TypeId} {e : Ety} (h : zlenT P el = e.sz) : ∃ i z, P.info? el = some i ∧ i.zero = some z ∧ z.cells.size = e.sz := by
  unfold zlenT zeroT at h
  have hp := e.sz_pos
  split at h
  · rename_i zs hz
    split at hz
    · rename_i i hi
      split at hz
      · rename_i z hzz
        simp only [Option.some.injEq] at hz
        subst hz
        exact ⟨i, z, hi, hzz, by simpa using h⟩
      · simp at hz
    · simp at hz
  · omega
variable [ETab]
theorem appK_ok (H : HOk R μ h w) {t tx ty : TypeId} {s x : AV} {vs vx : Value} {K : AV → List Ch → Prop} (hs : Rel R μ s vs) (hx : Rel R μ x vx) (hK : appK P t tx s x h K) : GivesH P R μ h w K (Builtin.append_ #[t, tx] ty #[vs, vx]) := by
  unfold appK at hK
  split at hK
  · rename_i el hk
    have hk := kd_slice hk
    split at hK
    · rename_i b e n
      split at hK
      · rename_i e' zs hc
        split at hK
        · rename_i xs hy
          obtain ⟨rfl, hy⟩ := asE_some hy
          change zs = xs at hy
          subst hy
          obtain ⟨⟨hsz, hzl⟩, hn, hK⟩ := hK
          obtain ⟨ys, news, ⟨⟨hb1, hb2⟩, hK⟩, hsrc⟩ := appSrcK_ok H hx hK
          obtain ⟨i, hi, hisz, hib⟩ := el_info hsz
          obtain ⟨i', z, hi', hz, hzs⟩ := zero_info hzl
          obtain rfl : i' = i := by rw [hi] at hi'; exact (Option.some.inj hi').symm
          have hsr := hsrc.src
          rw [← hisz] at hsr
          rw [← hib] at hb1
          have hct : h[b]? = some (.rows e' zs) := hth_get hc (by simp)
          clear hc
          obtain ⟨B, hB, hr, hown⟩ := H.rel.get hct
          have hgone := H.set (c' := .gone) (w' := w) hct hB (gone_sub _ _) (fun _ _ _ => rfl) (Nat.le_refl _) trivial rfl rfl rfl
          have hlg : (h.set b Ch.gone).length = h.length := List.length_set
          have hfl := hsrc.rel
          cases hs with
          | @sl _ _ _ _ _ b' cap c h1 hc1 hl1 hm1 =>
            subst hn
            rw [hB] at h1
            obtain rfl := Option.some.inj h1
            rcases hr with ⟨h0, _⟩ | ⟨m, cap', arr, ty', heq, hb, hsza, hlx, hcap, hl⟩
            · simp at h0
            · simp only [Bind.blk.injEq] at heq
              obtain ⟨rfl, rfl⟩ := heq
              have hcc : c = cap := by omega
              subst hcc
              have hfull := hl.app hfl
              rw [← List.flatMap_append] at hfull
              have hnl : news.length = ys.length * e'.sz := by rw [← hfl.len, flat_len]
              have hxfit : zs.length * e'.sz ≤ arr.size := by rw [hsza]; exact Nat.mul_le_mul_right _ hlx
              rw [Nat.zero_mul]
              by_cases hroom : zs.length + ys.length ≤ c
              · have hfit : zs.length * i'.size + news.length ≤ arr.size := by
                  rw [hisz, hnl, hsza, ← Nat.add_mul]; exact Nat.mul_le_mul_right _ hroom
                have hrun := run_app_room (ty := ty) hk hi hsr hb hroom hfit
                have hnew := setRow_heap w b' arr (arr.toList.take (zs.length * i'.size) ++ news ++ arr.toList.drop (zs.length * i'.size + news.length)).toArray ty' (0, 0) hb
                rw [hisz] at hrun hnew hfit
                obtain ⟨H', hstep⟩ := H.move (c' := .rows e' (zs ++ ys)) (B' := .blk b' c) (w' := w.setRow b' (arr.toList.take (zs.length * e'.sz) ++ news ++ arr.toList.drop (zs.length * e'.sz + news.length)).toArray) hct hB (by simp [ownC]) (fun m _ hm => setRow_other w b' m _ (fun e => hm (by simp [ownC, e]))) (by simp)
                  (.inr ⟨b', c, _, ty', rfl, hnew, by
                    simp only [List.size_toArray, List.length_append, List.length_take, List.length_drop, Array.length_toList]
                    omega, by simpa using hroom, hcap, by
                    have e1 : (zs ++ ys).length * e'.sz = (arr.toList.take (zs.length * e'.sz) ++ news).length := by
                      simp only [List.length_append, List.length_take, Array.length_toList, hnl, Nat.add_mul]; omega
                    rw [List.toList_toArray, e1, List.take_left]
                    exact hfull⟩) rfl rfl rfl
                refine ⟨_, _, R, _, _, _, hrun, hK, ?_, H', Ext.app _ _, hstep⟩
                have h5 := Rel.sl (R := R) (μ := μ ++ [.blk b' c]) (t := h.length) (e := e') (start := 0) (len := zs.length + ys.length) (b := b') (cap := c) (c := c) (by rw [H.rel.len]; simp) (by omega) hroom hcap
                simpa using h5
              · have hold : (Builtin.firstCells i'.size zs.length (.slice (some ⟨b', 0, none⟩) zs.length c)).run P w.drew = .ok (arr.toList.take (zs.length * e'.sz)).toArray w.drew := by
                  rw [hisz]
                  refine run_firstCells_some w.drew e'.sz zs.length _ zs.length c (arr.toList.take (zs.length * e'.sz)) (by rw [List.length_take, Array.length_toList]; exact Nat.min_eq_left hxfit) fun j v hj => ?_
                  rw [addr_add, Nat.zero_add]
                  show w.cell? _ = _
                  rw [cell_at hb, ← Array.getElem?_toList]
                  rw [List.getElem?_take] at hj
                  split at hj
                  · exact hj
                  · simp at hj
                have hrun := run_app_grow (ty := ty) hk hi hz (a := some ⟨b', 0, none⟩) (n := zs.length) (c := c) hsr hold (by omega) hb1 hb2
                have hml : zs.length + ys.length ≤ maxLen := Nat.le_trans hb2 (by decide)
                obtain ⟨H', hstep, hrel⟩ := grown_row (el := el) (ys := zs ++ ys) hgone.1 hfull hzs (c := grownCap w (zs.length + ys.length) c el) (by rw [List.length_append]; exact grownCap_ge _ _ _ _) (grownCap_le_maxLen _ _ _ _ hml)
                rw [List.length_append] at H' hstep hrel
                rw [hlg] at hrel
                exact ⟨_, _, R, _, _, _, hrun, hK, hrel, H', Ext.app _ _, hgone.2.trans hstep⟩
          | @sl0 _ _ _ _ a ht =>
            have hz0 : zs = [] := List.eq_nil_of_length_eq_zero hn.symm
            subst hz0
            rw [List.length_nil, Nat.zero_add] at hb1 hb2 hK
            rw [List.nil_append] at hK
            cases hys : ys with
            | nil =>
              subst hys
              have hn0 : news = [] := by cases hfl; rfl
              subst hn0
              obtain ⟨H', hstep⟩ := H.move (c' := .rows e' []) (B' := .none) (w' := w) hct hB (List.nil_sublist _) (fun _ _ _ => rfl) (Nat.le_refl _) (.inl ⟨rfl, rfl⟩) rfl rfl rfl
              exact ⟨_, _, R, _, _, _, run_app_stay hk hi hsr, hK, .sl0 (by rw [H.rel.len]; simp), H', Ext.app _ _, hstep⟩
            | cons y ys' =>
              have hold : (Builtin.firstCells i'.size 0 (.slice a 0 0)).run P w.drew = .ok ([] : List Value).toArray w.drew := by
                cases a <;> simp [Builtin.firstCells, loadCells, loadCellsFrom]
              have hrun := run_app_grow (ty := ty) hk hi hz (a := a) (n := 0) (c := 0) hsr hold (by rw [hys]; simp) (by rw [Nat.zero_add]; exact hb1) (by rw [Nat.zero_add]; exact hb2)
              have hml : ys.length ≤ maxLen := Nat.le_trans hb2 (by decide)
              rw [Nat.zero_add] at hrun
              obtain ⟨H', hstep, hrel⟩ := grown_row (el := el) (ys := ys) hgone.1 hfl hzs (c := grownCap w ys.length 0 el) (grownCap_ge _ _ _ _) (grownCap_le_maxLen _ _ _ _ hml)
              rw [hlg] at hrel
              exact ⟨_, _, R, _, _, _, hrun, hK, hrel, H', Ext.app _ _, hgone.2.trans hstep⟩
        · exact hK.elim
      · exact hK.elim
    · split at hK
      · rename_i e he
        obtain ⟨⟨hsz, hzl⟩, hK⟩ := hK
        obtain ⟨ys, news, ⟨⟨hb1, hb2⟩, hK⟩, hsrc⟩ := appSrcK_ok H hx hK
        obtain ⟨i, hi, hisz, hib⟩ := el_info hsz
        obtain ⟨i', z, hi', hz, hzs⟩ := zero_info hzl
        obtain rfl : i' = i := by rw [hi] at hi'; exact (Option.some.inj hi').symm
        have hsr := hsrc.src
        rw [← hisz] at hsr
        rw [← hib] at hb1
        have hfl := hsrc.rel
        cases hs
        cases hys : ys with
        | nil =>
          subst hys
          have hn0 : news = [] := by cases hfl; rfl
          subst hn0
          obtain ⟨H', hstep⟩ := H.push (c := .rows e []) (B := .none) (w' := w) (fun _ _ => rfl) (Nat.le_refl _) (by simp [ownC]) (by simp [ownC]) (.inl ⟨rfl, rfl⟩) rfl rfl rfl
          exact ⟨_, _, R, _, _, _, run_app_stay hk hi hsr, hK, .sl0 (by rw [H.rel.len]; simp), H', Ext.app _ _, hstep⟩
        | cons y ys' =>
          have hold : (Builtin.firstCells i'.size 0 (.slice none 0 0)).run P w.drew = .ok ([] : List Value).toArray w.drew := by simp [Builtin.firstCells]
          have hrun := run_app_grow (ty := ty) hk hi hz (a := none) (n := 0) (c := 0) hsr hold (by rw [hys]; simp) (by rw [Nat.zero_add]; exact hb1) (by rw [Nat.zero_add]; exact hb2)
          have hml : ys.length ≤ maxLen := Nat.le_trans hb2 (by decide)
          rw [Nat.zero_add] at hrun
          obtain ⟨H', hstep, hrel⟩ := grown_row (el := el) (ys := ys) H hfl hzs (c := grownCap w ys.length 0 el) (grownCap_ge _ _ _ _) (grownCap_le_maxLen _ _ _ _ hml)
          exact ⟨_, _, R, _, _, _, hrun, hK, hrel, H', Ext.app _ _, hstep⟩
      · exact hK.elim
    · exact hK.elim
  · exact hK.elim
end Go.V
