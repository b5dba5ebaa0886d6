/-
  Further builtins: slices cut to nothing without room, clear of a slice's end, append into the slice's own block.
  Maps: made, looked up, updated, shortened; how many entries.
-/
import Derived.Test.YtlfhggpgcpjhhaaPart03
import Derived.MapKept
set_option linter.unusedVariables false
set_option linter.unusedSimpArgs false
namespace Go.V
variable {P : Program} {R : RO} {μ : List Bind} {h : List Ch} {w : World}

/-- the elements that a slice may be cut to: those of its row, where it begins with it -/
def capM (l n : Nat) : Nat := max n l
theorem capM_self (n : Nat) : capM n n = n := Nat.max_self n
def capN : Ch → Nat → Nat → Nat
  | .rows _ xs, 0, n => capM xs.length n
  | _, _, n => n
/-- 's[lo:hi]' -/
def sliceHK (P : Program) (k : Kd) (x : AV) (lo hi : Option AV) (h : List Ch) (K : AV → Prop) : Prop :=
  match k, x, hi with
  | .slice el, .sl t e s n, some (.int _ u) => (szT P el = e.sz) ∧ loK lo 0 fun l => (0 ≤ l ∧ l ≤ u ∧ u ≤ (capN (hth h t) s n : Nat)) ∧ K (.sl t e (s + l.toNat) (u.toNat - l.toNat))
  | k, x, hi => sliceK P k x lo hi K
theorem capN_le (H : HOk R μ h w) {t s n b cap c : Nat} (hb : μ[t]? = some (.blk b cap)) (hc : s + c = cap) (hn : n ≤ c) : capN (hth h t) s n ≤ c := by
  cases hh : hth h t with
  | rows e' xs =>
    cases s with
    | zero =>
      obtain ⟨B, hB, hr, _⟩ := H.rel.get (hth_get hh (by simp))
      rw [hb] at hB
      obtain rfl := Option.some.inj hB
      rcases hr with ⟨h0, _⟩ | ⟨m, cap', arr, ty, heq, _, _, hlx, _, _⟩
      · simp at h0
      · simp only [Bind.blk.injEq] at heq
        obtain ⟨rfl, rfl⟩ := heq
        show capM xs.length n ≤ c
        unfold capM
        omega
    | succ s => exact hn
  | _ => exact hn
theorem capN_0 (H : HOk R μ h w) {t s : Nat} (ht : μ[t]? = some .none ∨ (0 < s ∧ t < μ.length)) : capN (hth h t) s 0 = 0 := by
  cases hh : hth h t with
  | rows e' xs =>
    cases s with
    | zero =>
      obtain ⟨B, hB, hr, _⟩ := H.rel.get (hth_get hh (by simp))
      rcases ht with ht | ht
      · rw [ht] at hB
        obtain rfl := Option.some.inj hB
        rcases hr with ⟨_, hx⟩ | ⟨m, cap', arr, ty, heq, _⟩
        · rw [hx]; rfl
        · simp at heq
      · exact absurd ht.1 (by decide)
    | succ s => rfl
  | _ => rfl
theorem sliceHK_ok (H : HOk R μ h w) {t : TypeId} {x : AV} {vx : Value} {lo hi : Option AV} {vlo vhi : Option Value} {K : AV → Prop} (hx : Rel R μ x vx) (hlo : ∀ a, lo = some a → ∃ u, vlo = some u ∧ Rel R μ a u) (hlo' : lo = none → vlo = none) (hhi : ∀ a, hi = some a → ∃ u, vhi = some u ∧ Rel R μ a u) (hhi' : hi = none → vhi = none)
    (hK : sliceHK P (kdT P t) x lo hi h K) : Gives P R μ K (Instr.sliceAt t vx vlo vhi none) := by
  unfold sliceHK at hK
  split at hK
  · rename_i el t' e s n kk u hk
    obtain ⟨hs, hK⟩ := hK
    have hz : szT P el ≠ 0 := by rw [hs]; exact Nat.pos_iff_ne_zero.1 e.sz_pos
    obtain ⟨l, ⟨⟨h0, h1, h2⟩, hK⟩, hl⟩ := loK_ok hK hlo hlo'
    obtain ⟨vu, rfl, hru⟩ := hhi _ rfl
    cases hru
    have hm : (some (Value.int kk u) = none ∧ u = (0 : Int)) ∨ ∃ k, some (Value.int kk u) = some (.int k u) := .inr ⟨kk, rfl⟩
    have hu := kd_slice hk
    have hcap : ∀ b cap c, μ[t']? = some (.blk b cap) → s + c = cap → n ≤ c → u ≤ (c : Int) := by
      intro b cap c hb hc hn
      have hcn : capN (hth h t') s n ≤ c := capN_le H hb hc hn
      omega
    cases hx with
    | @sl _ _ _ _ _ b cap c hb hc hcl hcm =>
      have huc := hcap b cap c hb hc hcl
      have hbd := fun w => run_sliceBounds (P := P) (isS := true) (len := n) (cap := c) hl (.inr ⟨kk, rfl⟩ : (some (Value.int kk u) = none ∧ u = (n : Int)) ∨ ∃ k, some (Value.int kk u) = some (.int k u)) h0 h1 huc w
      have hrun : ∀ w, (Instr.sliceAt t (.slice (some ⟨b, s * e.sz, none⟩) n c) vlo (some (.int kk u)) none).run P w = .ok (.slice (if c = l.toNat then some ⟨b, s * e.sz, none⟩ else some ⟨b, (s + l.toNat) * e.sz, none⟩) (u.toNat - l.toNat) (c - l.toNat)) w := by
        intro w
        simp [Instr.sliceAt, Instr.slice, run_underlying hu, hbd, run_sizeOf hz, addr_add, hs, Nat.add_mul]
      by_cases he : c = l.toNat
      · refine .mk hK (v := .slice (some ⟨b, s * e.sz, none⟩) (u.toNat - l.toNat) (c - l.toNat)) ?_ fun w => by rw [hrun, if_pos he]
        by_cases h00 : s + l.toNat = 0
        · have hs0 : s = 0 := by omega
          have hl0 : l.toNat = 0 := by omega
          subst hs0
          rw [hl0]
          exact .sl hb (by omega) (by omega) hcm
        · rw [show u.toNat - l.toNat = 0 from by omega, show c - l.toNat = 0 from by omega]
          exact .sl0 (.inr ⟨by omega, (List.getElem?_eq_some_iff.1 hb).1⟩)
      · exact .mk hK (v := .slice (some ⟨b, (s + l.toNat) * e.sz, none⟩) (u.toNat - l.toNat) (c - l.toNat)) (.sl hb (by omega) (by omega) hcm) fun w => by rw [hrun, if_neg he]
    | @sl0 _ _ _ _ a ht =>
      have hc0 : capN (hth h t') s 0 = 0 := capN_0 H ht
      rw [hc0] at h2
      have hl0 : l = 0 := by omega
      have hu0 : u = 0 := by omega
      subst hl0; subst hu0
      have hbd := fun w => run_sliceBounds (P := P) (isS := true) (len := 0) (cap := 0) hl (.inr ⟨kk, rfl⟩ : (some (Value.int kk 0) = none ∧ (0 : Int) = ((0 : Nat) : Int)) ∨ ∃ k, some (Value.int kk 0) = some (.int k 0)) h0 h1 (by omega) w
      refine .mk hK (v := .slice a 0 0) (by simp; exact .sl0 ht) fun w => ?_
      simp [Instr.sliceAt, Instr.slice, run_underlying hu, hbd, run_sizeOf hz]
  · exact sliceK_ok hx hlo hlo' hhi hhi' hK
/-- a bound that the code works out -/
def isTmp : Operand → Bool
  | .tmp _ => true
  | _ => false
/-- the whole of what lies for good, with no room behind it -/
def clipA (e : Ety) (xs : List e.T) (l u q : Int) : AV := if l = 0 ∧ u = xs.length ∧ q = xs.length then .rc e xs else .any
theorem clipA_full {e : Ety} {xs : List e.T} : clipA e xs 0 xs.length xs.length = .rc e xs := if_pos ⟨rfl, rfl, rfl⟩
/-- what a cut with a limit is -/
def slR : Bool → (e : Ety) → (xs : List e.T) → Int → Int → Int → AV
  | true, e, xs, l, u, q => clipA e xs l u q
  | false, _, _, _, _, _ => .any
/-- 's[lo:hi:max]': what comes of it is not used, or it is the whole, clipped -/
def slice3K (P : Program) (t : TypeId) (x : AV) (lo hi m : Option AV) (b : Bool) (K : AV → Prop) : Prop :=
  match kdT P t, x with
  | .slice el, .ro e xs => loK lo 0 fun l => loK hi xs.length fun u => loK m xs.length fun q => (szT P el = e.sz ∧ 0 ≤ l ∧ l ≤ u ∧ u ≤ q ∧ q ≤ xs.length) ∧ K (slR b e xs l u q)
  | .slice el, .sl _ e _ n => loK lo 0 fun l => loK hi n fun u => loK m n fun q => (szT P el = e.sz ∧ 0 ≤ l ∧ l ≤ u ∧ u ≤ q ∧ q ≤ n) ∧ K .any
  | _, _ => False
theorem run_bounds3 {len cap : Nat} {lo : Option Value} {k1 k2 : IntKind} {l u q : Int} (hl : (lo = none ∧ l = 0) ∨ ∃ k, lo = some (.int k l)) (h0 : 0 ≤ l) (h1 : l ≤ u) (h2 : u ≤ q) (h3 : q ≤ cap) (w : World) :
    (Instr.sliceBounds true len cap lo (some (.int k1 u)) (some (.int k2 q))).run P w = .ok (l.toNat, u.toNat, q.toNat) w := by
  have hq0 : 0 ≤ q := by omega
  have hu0 : 0 ≤ u := by omega
  have e1 : ((q.toNat : Nat) : Int) = q := by omega
  have e2 : ((u.toNat : Nat) : Int) = u := by omega
  rcases hl with ⟨rfl, rfl⟩ | ⟨k, rfl⟩ <;> simp [Instr.sliceBounds, Instr.sliceBound, asIntOf, h0, h1, h2, h3, hq0, hu0, e1, e2]
theorem addr_add0 (a : Addr) : a.add 0 = a := by cases a; simp [Addr.add]
theorem slice3K_ok {t : TypeId} {x : AV} {vx : Value} {lo : Option AV} {vlo : Option Value} {ah am : AV} {vh vm : Value} {b : Bool} {K : AV → Prop} (hx : Rel R μ x vx)
    (hlo : ∀ a, lo = some a → ∃ u, vlo = some u ∧ Rel R μ a u) (hlo' : lo = none → vlo = none) (hh : Rel R μ ah vh) (hm : Rel R μ am vm)
    (hK : slice3K P t x lo (some ah) (some am) b K) : Gives P R μ K (Instr.sliceAt t vx vlo (some vh) (some vm)) := by
  unfold slice3K at hK
  have fin : ∀ (e : Ety) (el : TypeId) (n : Nat) (a : Option Addr) (cap : Nat) (r : Int → Int → Int → AV), vx = .slice a n cap → n ≤ cap → P.underlying t = some (.slice el) →
      (∀ l u q, szT P el = e.sz → 0 ≤ l → l ≤ u → u ≤ q → q ≤ (n : Int) → (l = 0 ∧ Rel R μ (r l u q) (.slice a u.toNat q.toNat)) ∨ r l u q = .any) →
      (loK lo 0 fun l => loK (some ah) n fun u => loK (some am) n fun q => (szT P el = e.sz ∧ 0 ≤ l ∧ l ≤ u ∧ u ≤ q ∧ q ≤ n) ∧ K (r l u q)) → Gives P R μ K (Instr.sliceAt t vx vlo (some vh) (some vm)) := by
    rintro e el n a cap r rfl hnc hu hr hK
    obtain ⟨l, hK, hl⟩ := loK_ok hK hlo hlo'
    obtain ⟨u, hK, hh'⟩ := loK_ok hK (v := some vh) (fun a h => by cases h; exact ⟨_, rfl, hh⟩) (fun h => by cases h)
    obtain ⟨q, ⟨⟨hs, h0, h1, h2, h3⟩, hK⟩, hm'⟩ := loK_ok hK (v := some vm) (fun a h => by cases h; exact ⟨_, rfl, hm⟩) (fun h => by cases h)
    have hz : szT P el ≠ 0 := by rw [hs]; exact Nat.pos_iff_ne_zero.1 e.sz_pos
    rcases hh' with ⟨h, _⟩ | ⟨k1, hh'⟩
    · cases h
    rcases hm' with ⟨h, _⟩ | ⟨k2, hm'⟩
    · cases h
    cases hh'; cases hm'
    have hbd := fun w => run_bounds3 (P := P) (len := n) (cap := cap) (k1 := k1) (k2 := k2) hl h0 h1 h2 (show q ≤ (cap : Int) by omega) w
    rcases hr l u q hs h0 h1 h2 h3 with ⟨rfl, hr⟩ | hr
    · refine .mk hK hr fun w => ?_
      cases a <;> simp [Instr.sliceAt, Instr.slice, run_underlying hu, hbd, run_sizeOf hz, addr_add, addr_add0]
    · rw [hr] at hK
      exact .mk hK (v := _) .any fun w => by simp [Instr.sliceAt, Instr.slice, run_underlying hu, hbd, run_sizeOf hz]; rfl
  split at hK
  · rename_i el e xs hk
    have hk := kd_slice hk
    have hany : ∀ (a : Option Addr) (l u q : Int), (b = true → u = xs.length → q = xs.length → Rel R μ (.rc e xs) (.slice a u.toNat q.toNat)) → (l = 0 ∧ Rel R μ (slR b e xs l u q) (.slice a u.toNat q.toNat)) ∨ slR b e xs l u q = .any := by
      intro a l u q hf
      cases b with
      | false => exact .inr rfl
      | true =>
        show (l = 0 ∧ Rel R μ (clipA e xs l u q) _) ∨ clipA e xs l u q = .any
        unfold clipA
        split
        · rename_i h
          exact .inl ⟨h.1, hf rfl h.2.1 h.2.2⟩
        · exact .inr rfl
    cases hx with
    | @ro _ _ _ b' o arr ty fr c hb hr hc hcm =>
      refine fin e el _ _ _ (slR b e xs) rfl hc hk (fun l u q hs h0 h1 h2 h3 => hany _ l u q fun _ e2 e3 => ?_) hK
      subst e2 e3
      have := Rel.rc (μ := μ) hb hr (Nat.le_trans hc hcm)
      simpa using this
    | ro0 hcm =>
      refine fin e el 0 _ _ (slR b e []) rfl (Nat.zero_le _) hk (fun l u q hs h0 h1 h2 h3 => hany _ l u q fun _ e2 e3 => ?_) hK
      subst e2 e3
      simpa using Rel.rc0
  · rename_i el t' e s n hk
    have hk := kd_slice hk
    cases hx with
    | sl hb hc hcl hcm => exact fin e el _ _ _ (fun _ _ _ => .any) rfl hcl hk (fun _ _ _ _ _ _ _ _ => .inr rfl) hK
    | sl0 => exact fin e el 0 _ _ (fun _ _ _ => .any) rfl (Nat.le_refl _) hk (fun _ _ _ _ _ _ _ _ => .inr rfl) hK
  · exact hK.elim
/-- append into the slice's own block -/
def appInK (P : Program) (t tx : TypeId) (b : Nat) (e : Ety) (n : Nat) (x : AV) (h : List Ch) (K : AV → List Ch → Prop) : Prop :=
  match kdT P t with
  | .slice el => (match hth h b with
    | .rows e' xs => (match asE e e' xs with
      | some xs => (szT P el = e.sz ∧ zlenT P el = e.sz) ∧ appSrcK (kdT P tx) e h x fun ys => (n + ys.length ≤ xs.length) ∧ K (.sl b e 0 (n + ys.length)) (h.set b (.rows e (xs.take n ++ ys ++ xs.drop (n + ys.length))))
      | none => False)
    | _ => False)
  | _ => False
/-- append behind what lies for good and has no room: a new block -/
def appRcK (P : Program) (t tx : TypeId) (e : Ety) (xs : List e.T) (x : AV) (h : List Ch) (K : AV → List Ch → Prop) : Prop :=
  match kdT P t with
  | .slice el => (szT P el = e.sz ∧ zlenT P el = e.sz) ∧ appSrcK (kdT P tx) e h x fun ys => (0 < ys.length ∧ (xs.length + ys.length) * bytesT P el ≤ maxBytes ∧ xs.length + ys.length ≤ maxBytes) ∧ K (.sl h.length e 0 (xs.length + ys.length)) (h ++ [.rows e (xs ++ ys)])
  | _ => False
theorem appRcK_ok (H : HOk R μ h w) {t tx ty : TypeId} {e : Ety} {xs : List e.T} {x : AV} {vs vx : Value} {K : AV → List Ch → Prop} (hs : Rel R μ (.rc e xs) vs) (hx : Rel R μ x vx) (hK : appRcK P t tx e xs x h K) : GivesH P R μ h w K (Builtin.append_ #[t, tx] ty #[vs, vx]) := by
  unfold appRcK at hK
  split at hK
  · rename_i el hk
    have hk := kd_slice hk
    obtain ⟨⟨hsz, hzl⟩, hK⟩ := hK
    obtain ⟨ys, news, ⟨⟨h0, hb1, hb2⟩, hK⟩, hsrc⟩ := appSrcK_ok H hx hK
    obtain ⟨i, hi, hisz, hib⟩ := el_info hsz
    obtain ⟨i', z, hi', hz, hzs⟩ := zero_info hzl
    obtain rfl : i' = i := by rw [hi] at hi'; exact (Option.some.inj hi').symm
    have hsr := hsrc.src
    rw [← hisz] at hsr
    rw [← hib] at hb1
    have hfl := hsrc.rel
    have hml : xs.length + ys.length ≤ maxLen := Nat.le_trans hb2 (by decide)
    cases hs with
    | @rc _ _ _ b o arr ty fr hb hl hm =>
      have hb' := H.ro _ _ hb
      have hfull := hl.app hfl
      rw [← List.flatMap_append] at hfull
      have hold : (Builtin.firstCells i'.size xs.length (.slice (some ⟨b, o, none⟩) xs.length xs.length)).run P w.drew = .ok ((arr.toList.drop o).take (xs.length * e.sz)).toArray w.drew := by
        rw [hisz]
        refine run_firstCells_some w.drew e.sz xs.length _ xs.length xs.length ((arr.toList.drop o).take (xs.length * e.sz)) (by rw [← hl.len, flat_len]) fun j u hu => ?_
        rw [addr_add]
        show w.cell? _ = _
        rw [cell_at hb', ← Array.getElem?_toList]
        rw [List.getElem?_take] at hu
        split at hu
        · rw [List.getElem?_drop] at hu; exact hu
        · simp at hu
      have hrun := run_app_grow (ty := ty) hk hi hz (a := some ⟨b, o, none⟩) (n := xs.length) (c := xs.length) hsr hold (by omega) hb1 hb2
      obtain ⟨H', hstep, hrel⟩ := grown_row (el := el) (ys := xs ++ ys) H hfull hzs (c := grownCap w (xs.length + ys.length) xs.length el) (by rw [List.length_append]; exact grownCap_ge _ _ _ _) (grownCap_le_maxLen _ _ _ _ hml)
      rw [List.length_append] at H' hstep hrel
      exact ⟨_, _, R, _, _, _, hrun, hK, hrel, H', Ext.app _ _, hstep⟩
    | @rc0 _ _ a =>
      rw [List.length_nil, Nat.zero_add] at hb1 hb2 hK
      rw [List.nil_append] at hK
      have hold : (Builtin.firstCells i'.size 0 (.slice a 0 0)).run P w.drew = .ok ([] : List Value).toArray w.drew := by
        cases a <;> simp [Builtin.firstCells, loadCells, loadCellsFrom]
      have hrun := run_app_grow (ty := ty) hk hi hz (a := a) (n := 0) (c := 0) hsr hold (by omega) (by rw [Nat.zero_add]; exact hb1) (by rw [Nat.zero_add]; exact hb2)
      have hml : ys.length ≤ maxLen := Nat.le_trans hb2 (by decide)
      rw [Nat.zero_add] at hrun
      obtain ⟨H', hstep, hrel⟩ := grown_row (el := el) (ys := ys) H hfl hzs (c := grownCap w ys.length 0 el) (grownCap_ge _ _ _ _) (grownCap_le_maxLen _ _ _ _ hml)
      exact ⟨_, _, R, _, _, _, hrun, hK, hrel, H', Ext.app _ _, hstep⟩
  · exact hK.elim
/-- append: into the own block, or on -/
def app2K [ETab] (P : Program) (t tx : TypeId) (s x : AV) (h : List Ch) (K : AV → List Ch → Prop) : Prop :=
  match s, x with
  | .rc e xs, x => appRcK P t tx e xs x h K
  | .sl b e 0 n, .sl b' e' s' m => if b = b' then appInK P t tx b e n (.sl b' e' s' m) h K else appK P t tx (.sl b e 0 n) (.sl b' e' s' m) h K
  | s, x => appK P t tx s x h K
theorem appInK_ok (H : HOk R μ h w) {t tx ty : TypeId} {b n : Nat} {e : Ety} {x : AV} {vs vx : Value} {K : AV → List Ch → Prop} (hs : Rel R μ (.sl b e 0 n) vs) (hx : Rel R μ x vx) (hK : appInK P t tx b e n x h K) : GivesH P R μ h w K (Builtin.append_ #[t, tx] ty #[vs, vx]) := by
  unfold appInK at hK
  split at hK
  · rename_i el hk
    have hk := kd_slice hk
    split at hK
    · rename_i e' zs hc
      split at hK
      · rename_i xs hy
        obtain ⟨rfl, hy⟩ := asE_some hy
        change zs = xs at hy
        subst hy
        obtain ⟨⟨hsz, hzl⟩, hK⟩ := hK
        obtain ⟨ys, news, ⟨hlen, hK⟩, hsrc⟩ := appSrcK_ok H hx hK
        obtain ⟨i, hi, hisz, hib⟩ := el_info hsz
        have hsr := hsrc.src
        rw [← hisz] at hsr
        have hct : h[b]? = some (.rows e' zs) := hth_get hc (by simp)
        obtain ⟨B, hB, hr, hown⟩ := H.rel.get hct
        have hfl := hsrc.rel
        have hnl : news.length = ys.length * e'.sz := by rw [← hfl.len, flat_len]
        cases hs with
        | @sl _ _ _ _ _ b' cap c h1 hc1 hl1 hm1 =>
          rw [hB] at h1
          obtain rfl := Option.some.inj h1
          rcases hr with ⟨h0, _⟩ | ⟨m, cap', arr, ty', heq, hb, hsza, hlx, hcap, hl⟩
          · simp at h0
          · simp only [Bind.blk.injEq] at heq
            obtain ⟨rfl, rfl⟩ := heq
            have hcc : c = cap := by omega
            subst hcc
            rw [Nat.zero_mul]
            have hroom : n + ys.length ≤ c := by omega
            have hfit : n * i.size + news.length ≤ arr.size := by
              rw [hisz, hnl, hsza, ← Nat.add_mul]; exact Nat.mul_le_mul_right _ hroom
            have hrun := run_app_room (ty := ty) hk hi hsr hb hroom hfit
            have hnew := setRow_heap w b' arr (arr.toList.take (n * i.size) ++ news ++ arr.toList.drop (n * i.size + news.length)).toArray ty' (0, 0) hb
            rw [hisz] at hrun hnew hfit
            obtain ⟨H', hstep⟩ := H.set (c' := .rows e' (zs.take n ++ ys ++ zs.drop (n + ys.length))) (w' := w.setRow b' (arr.toList.take (n * e'.sz) ++ news ++ arr.toList.drop (n * e'.sz + news.length)).toArray) hct hB (by simp [ownC]) (fun m _ hm => setRow_other w b' m _ (fun e => hm (by simp [ownC, e]))) (by simp)
              (.inr ⟨b', c, _, ty', rfl, hnew, by
                simp only [List.size_toArray, List.length_append, List.length_take, List.length_drop, Array.length_toList]
                omega, by
                simp only [List.length_append, List.length_take, List.length_drop]
                omega, hcap, by
                have hL : (zs.take n ++ ys ++ zs.drop (n + ys.length)).length = zs.length := by
                  simp only [List.length_append, List.length_take, List.length_drop]
                  omega
                have hnz : n ≤ zs.length := by omega
                have q1 := hl.take (n * e'.sz)
                rw [← flat_take, List.take_take, Nat.min_eq_left (Nat.mul_le_mul_right _ hnz)] at q1
                have q3 := hl.drop ((n + ys.length) * e'.sz)
                rw [← flat_drop, List.drop_take] at q3
                have hA : (arr.toList.take (n * e'.sz)).length = n * e'.sz := by
                  rw [List.length_take, Array.length_toList]; omega
                have q := (q1.app hfl).app q3
                rw [← List.flatMap_append, ← List.flatMap_append] at q
                rw [hL, List.toList_toArray]
                have e1 : n * e'.sz + news.length = (n + ys.length) * e'.sz := by rw [hnl, Nat.add_mul]
                have e2 : (n + ys.length) * e'.sz ≤ zs.length * e'.sz := Nat.mul_le_mul_right _ hlen
                have e3 : (arr.toList.take (n * e'.sz) ++ news).length = (n + ys.length) * e'.sz := by rw [List.length_append, hA, e1]
                rw [List.take_append, e3, List.take_of_length_le (l := arr.toList.take (n * e'.sz) ++ news) (by omega), e1]
                exact q⟩) rfl rfl rfl
            refine ⟨_, _, R, _, _, _, hrun, hK, ?_, H', Ext.refl _, hstep⟩
            have h5 := Rel.sl (R := R) (μ := μ) (t := b) (e := e') (start := 0) (len := n + ys.length) (b := b') (cap := c) (c := c) hB (by omega) hroom hcap
            simpa using h5
        | @sl0 _ _ _ _ a ht =>
          rcases ht with ht | ht
          · rw [ht] at hB
            obtain rfl := Option.some.inj hB
            rcases hr with ⟨_, hz0⟩ | ⟨m, cap', arr, ty', heq, _⟩
            · subst hz0
              have hy0 : ys = [] := List.eq_nil_of_length_eq_zero (by simpa using hlen)
              subst hy0
              have hn0 : news = [] := by cases hfl; rfl
              subst hn0
              refine ⟨.slice a 0 0, w, R, μ, h, .sl b e' 0 0, run_app_stay hk hi hsr, ?_, .sl0 (.inl ht), H, Ext.refl _, Step.refl _ _ _⟩
              have e1 : h.set b (.rows e' (([] : List e'.T).take 0 ++ [] ++ ([] : List e'.T).drop (0 + ([] : List e'.T).length))) = h := by
                obtain ⟨hlt, he⟩ := List.getElem?_eq_some_iff.1 hct
                simp only [List.take_nil, List.drop_nil, List.append_nil]
                rw [← he]
                exact List.set_getElem_self hlt
              rw [e1] at hK
              exact hK
            · simp at heq
          · exact absurd ht.1 (by decide)
      · exact hK.elim
    · exact hK.elim
  · exact hK.elim
theorem app2K_ok [ETab] (H : HOk R μ h w) {t tx ty : TypeId} {s x : AV} {vs vx : Value} {K : AV → List Ch → Prop} (hs : Rel R μ s vs) (hx : Rel R μ x vx) (hK : app2K P t tx s x h K) : GivesH P R μ h w K (Builtin.append_ #[t, tx] ty #[vs, vx]) := by
  unfold app2K at hK
  split at hK
  · exact appRcK_ok H hs hx hK
  · split at hK
    · rename_i hb
      exact appInK_ok H hs hx hK
    · exact appK_ok H hs hx hK
  · exact appK_ok H hs hx hK

section
variable {k : Kd} {lo hi : Option AV} {K : AV → Prop} {el : TypeId} {t s n : Nat} {e : Ety}
theorem sliceHK_sl {kk : IntKind} {u : Int} : sliceHK P (.slice el) (.sl t e s n) lo (some (.int kk u)) h K = ((szT P el = e.sz) ∧ loK lo 0 fun l => (0 ≤ l ∧ l ≤ u ∧ u ≤ (capN (hth h t) s n : Nat)) ∧ K (.sl t e (s + l.toNat) (u.toNat - l.toNat))) := rfl
theorem sliceHK_none {x : AV} : sliceHK P k x lo none h K = sliceK P k x lo none K := by cases k <;> cases x <;> rfl
theorem sliceHK_ro {xs : List e.T} : sliceHK P k (.ro e xs) lo hi h K = sliceK P k (.ro e xs) lo hi K := by cases k <;> rfl
theorem sliceHK_str {xs : List UInt8} : sliceHK P k (.str xs) lo hi h K = sliceK P k (.str xs) lo hi K := by cases k <;> rfl
theorem sliceHK_lit {v : Value} : sliceHK P k (.lit v) lo hi h K = sliceK P k (.lit v) lo hi K := by cases k <;> rfl
theorem capN_rows {xs : List e.T} : capN (.rows e xs) 0 n = capM xs.length n := rfl
theorem capN_succ {c : Ch} : capN c (s + 1) n = n := by cases c <;> rfl
end
section
variable [ETab] {tt tx : TypeId} {K : AV → List Ch → Prop} {b n b' s' m : Nat} {e e' : Ety}
theorem app2K_sl : app2K P tt tx (.sl b e 0 n) (.sl b' e' s' m) h K = if b = b' then appInK P tt tx b e n (.sl b' e' s' m) h K else appK P tt tx (.sl b e 0 n) (.sl b' e' s' m) h K := rfl
theorem app2K_rc {x : AV} {xs : List e.T} : app2K P tt tx (.rc e xs) x h K = appRcK P tt tx e xs x h K := rfl
theorem app2K_ro {xs : List e.T} : app2K P tt tx (.sl b e' 0 n) (.ro e xs) h K = appK P tt tx (.sl b e' 0 n) (.ro e xs) h K := rfl
theorem app2K_str {xs : List UInt8} : app2K P tt tx (.sl b e' 0 n) (.str xs) h K = appK P tt tx (.sl b e' 0 n) (.str xs) h K := rfl
theorem app2K_lit {v : Value} : app2K P tt tx (.sl b e' 0 n) (.lit v) h K = appK P tt tx (.sl b e' 0 n) (.lit v) h K := rfl
theorem app2K_nil {x : AV} {v : Value} : app2K P tt tx (.lit v) x h K = appK P tt tx (.lit v) x h K := rfl
end
/-- the zero value's cells are single ones -/
def zoneT (P : Program) (t : TypeId) : Prop := match zeroT P t with | some zs => okCells zs | none => False
/-- 'clear' of a slice's end: the row is cut -/
def clearK (P : Program) (t : TypeId) (x : AV) (h : List Ch) (K : List Ch → Prop) : Prop :=
  match kdT P t, x with
  | .slice el, .sl b e s n => (match hth h b with
    | .rows e' xs => (match asE e e' xs with
      | some xs => ((szT P el = e.sz ∧ zlenT P el = e.sz) ∧ zoneT P el ∧ s + n = xs.length) ∧ K (h.set b (.rows e (xs.take s)))
      | none => False)
    | _ => False)
  | _, _ => False
theorem zone_ok {el : TypeId} {i : TypeInfo} {z : Value} (hi : P.info? el = some i) (hz : i.zero = some z) (h : zoneT P el) : ∀ v ∈ z.cells.toList, v.oneCell' = true := by
  unfold zoneT zeroT at h
  rw [hi] at h
  simp only [hz] at h
  have key : ∀ l : List Value, okCells (l.map ofV) → ∀ v ∈ l, v.oneCell' = true := by
    intro l
    induction l with
    | nil => intro _ v hv; cases hv
    | cons a l ih =>
      intro ho v hv
      rcases List.mem_cons.1 hv with rfl | hv
      · exact (ofV_rel (fun _ => none) [] v).one ho.1
      · exact ih ho.2 v hv
  exact key _ h
theorem zeroCells_one {z : Array Value} (h : ∀ v ∈ z.toList, v.oneCell' = true) (hs : 0 < z.size) (n : Nat) : ∀ v ∈ (Builtin.zeroCells z n).toList, v.oneCell' = true := by
  intro v hv
  unfold Builtin.zeroCells at hv
  simp only [Array.toList_map, List.mem_map] at hv
  obtain ⟨i, _, rfl⟩ := hv
  have hlt : i % z.size < z.size := Nat.mod_lt _ hs
  rw [getElem!_pos z _ hlt]
  exact h _ (by simp)
theorem clearK_ok (H : HOk R μ h w) {t ty : TypeId} {x : AV} {vx : Value} {K : List Ch → Prop} (hx : Rel R μ x vx) (hK : clearK P t x h K) :
    ∃ w' h', (Builtin.clear_ #[t] ty #[vx]).run P w = .ok (.tuple #[]) w' ∧ K h' ∧ HOk R μ h' w' ∧ Step (ownH h μ) R w (ownH h' μ) R w' := by
  unfold clearK at hK
  split at hK
  · rename_i el b e s n hk
    have hk := kd_slice hk
    split at hK
    · rename_i e' zs hc
      split at hK
      · rename_i xs hy
        obtain ⟨rfl, hy⟩ := asE_some hy
        change zs = xs at hy
        subst hy
        obtain ⟨⟨⟨hsz, hzl⟩, hone, hn⟩, hK⟩ := hK
        obtain ⟨i, z, hi, hz, hzs⟩ := zero_info hzl
        have hct : h[b]? = some (.rows e' zs) := hth_get hc (by simp)
        obtain ⟨B, hB, hr, hown⟩ := H.rel.get hct
        have cut : ∀ (w' : World), CRel R w' μ (.rows e' zs) B → CRel R w' μ (.rows e' (zs.take s)) B := by
          intro w' hr
          rcases hr with ⟨h0, h1⟩ | ⟨m, cap, arr, ty', heq, hb, hsza, hlx, hcap, hl⟩
          · exact .inl ⟨h0, by rw [h1]; exact List.take_nil⟩
          · refine .inr ⟨m, cap, arr, ty', heq, hb, hsza, by rw [List.length_take]; omega, hcap, ?_⟩
            rw [flat_take, List.length_take]
            have := hl.take (s * e'.sz)
            rw [List.take_take] at this
            have e1 : min (s * e'.sz) (zs.length * e'.sz) = min s zs.length * e'.sz := by
              rcases Nat.le_total s zs.length with h | h
              · rw [Nat.min_eq_left h, Nat.min_eq_left (Nat.mul_le_mul_right _ h)]
              · rw [Nat.min_eq_right h, Nat.min_eq_right (Nat.mul_le_mul_right _ h)]
            rw [e1] at this
            exact this
        have hsub : (ownC (.rows e' (zs.take s)) B).Sublist (ownC (.rows e' zs) B) := by cases B <;> simp [ownC]
        by_cases h0 : n = 0
        · subst h0
          obtain ⟨H', hst⟩ := H.set (c' := .rows e' (zs.take s)) (w' := w) hct hB hsub (fun _ _ _ => rfl) (Nat.le_refl _) (cut w hr) rfl rfl rfl
          refine ⟨w, _, ?_, hK, H', hst⟩
          cases hx with
          | sl => simp [Builtin.clear_, run_underlying hk]
          | sl0 => rename_i a _; cases a <;> simp [Builtin.clear_, run_underlying hk]
        · obtain ⟨n', rfl⟩ : ∃ n', n = n' + 1 := ⟨n - 1, by omega⟩
          cases hx with
          | @sl _ _ _ _ _ b' cap c h1 hc1 hl1 hm1 =>
            rcases hr with ⟨hr0, hr1⟩ | ⟨m, cap', arr, ty', heq, hb, hsza, hlx, hcap, hl⟩
            · rw [hr1] at hn; simp at hn
            · rw [hB] at h1
              obtain rfl := Option.some.inj h1
              simp only [Bind.blk.injEq] at heq
              obtain ⟨rfl, rfl⟩ := heq
              have hsz0 := e'.sz_pos
              have hzc : (Builtin.zeroCells z.cells (n' + 1)).size = (n' + 1) * e'.sz := by rw [size_zeroCells, hzs]
              have hfit : s * e'.sz + (Builtin.zeroCells z.cells (n' + 1)).toList.length ≤ arr.size := by
                rw [Array.length_toList, hzc, ← Nat.add_mul, hsza]
                exact Nat.mul_le_mul_right _ (by omega)
              have hst := run_storeCells_at P b' (s * e'.sz) ty' (Builtin.zeroCells z.cells (n' + 1)).toList 0 arr w hb (by simpa using hfit) (zeroCells_one (zone_ok hi hz hone) (by omega) _)
              simp only [Nat.add_zero] at hst
              have hrun : (Builtin.clear_ #[t] ty #[.slice (some ⟨b', s * e'.sz, none⟩) (n' + 1) c]).run P w = .ok (.tuple #[]) (w.setRow b' (arr.toList.take (s * e'.sz) ++ (Builtin.zeroCells z.cells (n' + 1)).toList ++ arr.toList.drop (s * e'.sz + (Builtin.zeroCells z.cells (n' + 1)).toList.length)).toArray) := by
                simp [Builtin.clear_, run_underlying hk, zeroValue, typeInfo, hi, hz, hst]
              have hnew := setRow_heap w b' arr (arr.toList.take (s * e'.sz) ++ (Builtin.zeroCells z.cells (n' + 1)).toList ++ arr.toList.drop (s * e'.sz + (Builtin.zeroCells z.cells (n' + 1)).toList.length)).toArray ty' (0, 0) hb
              obtain ⟨H', hstep⟩ := H.set (c' := .rows e' (zs.take s)) (w' := w.setRow b' (arr.toList.take (s * e'.sz) ++ (Builtin.zeroCells z.cells (n' + 1)).toList ++ arr.toList.drop (s * e'.sz + (Builtin.zeroCells z.cells (n' + 1)).toList.length)).toArray) hct hB hsub
                (fun m _ hm => setRow_other w b' m _ (fun e => hm (by simp [ownC, e]))) (by simp)
                (.inr ⟨b', cap, _, ty', rfl, hnew, by
                  rw [Array.length_toList, hzc] at hfit
                  simp only [List.size_toArray, List.length_append, List.length_take, List.length_drop, Array.length_toList, hzc]
                  omega, by rw [List.length_take]; omega, hcap, by
                  have hsl : (zs.take s).length = s := by rw [List.length_take]; omega
                  rw [flat_take, hsl, List.toList_toArray, List.append_assoc, List.take_append_of_le_length (by rw [List.length_take, Array.length_toList]; rw [Array.length_toList] at hfit; omega), List.take_take, Nat.min_self]
                  have := hl.take (s * e'.sz)
                  rw [List.take_take, Nat.min_eq_left (Nat.mul_le_mul_right _ (by omega))] at this
                  exact this⟩) rfl rfl rfl
              exact ⟨_, _, hrun, hK, H', hstep⟩
      · exact hK.elim
    · exact hK.elim
  · exact hK.elim
end Go.V

namespace Go.V
open Go.MapKept

variable {P : Program} {R : RO} {μ : List Bind} {h : List Ch} {w : World}

def KTy.of : (k : KTy) → AV → Option k.T
  | .int, .int .i64 n => some n
  | .str, .str s => some s
  | _, _ => none
def KTy.kd : KTy → Kd
  | .int => .int .i64
  | .str => .str
def KTy.val : (k : KTy) → k.T → Value
  | .int, n => .int .i64 n
  | .str, s => .string ⟨s.toArray⟩
def KTy.desc : KTy → TypeDesc
  | .int => .int .i64
  | .str => .string
theorem KTy.av_val {k : KTy} {x : k.T} {v : Value} (h : Rel R μ (k.av x) v) : v = k.val x := by
  cases k <;> cases h <;> rfl
theorem KTy.of_av {k : KTy} {a : AV} {x : k.T} (h : k.of a = some x) : a = k.av x := by
  unfold KTy.of at h
  split at h <;> simp at h <;> subst h <;> rfl
theorem KTy.und {k : KTy} {t : TypeId} (h : kdT P t = k.kd) : P.underlying t = some k.desc := by
  unfold kdT at h
  cases k <;> simp only [KTy.kd] at h <;> split at h <;> simp_all [KTy.desc]
theorem KTy.isKey {k : KTy} (x : k.T) : IsKey k.desc (k.val x) := by
  cases k
  · rfl
  · trivial
theorem KTy.same {k : KTy} (x y : k.T) : Instr.sameNow k.desc (k.val x) (k.val y) = some (decide (x = y)) := by
  cases k
  · simp [KTy.desc, KTy.val, Instr.sameNow]
    rfl
  · simp only [KTy.desc, KTy.val, Instr.sameNow, Option.some.injEq]
    rw [Bool.eq_iff_iff, bytes_beq]
    simp
theorem valA_one {e : Ety} {y : e.T} {a : AV} (h : e.enc y = [a]) : valA e y = a := by
  unfold valA
  rw [h]
theorem valA_agg {e : Ety} {y : e.T} (h : e.sz ≠ 1) : valA e y = .agg (e.enc y) := by
  have hl := e.enc_len y
  unfold valA
  split
  · rename_i a ha
    rw [ha] at hl
    simp at hl
    omega
  · rfl
/-- an element out of one value -/
def decV (e : Ety) : AV → Option e.T
  | .agg l => if e.sz = 1 then none else e.dec l
  | a => e.dec [a]
def okV (e : Ety) (a : AV) : Prop := e.decOk (cellsA a)
theorem decV_ok {e : Ety} {a : AV} {y : e.T} {v : Value} (hr : Rel R μ a v) (h : decV e a = some y) (ho : okV e a) : Rel R [] (valA e y) v := by
  unfold decV at h
  split at h
  · rename_i l
    split at h
    · simp at h
    · rename_i hz
      cases hr with
      | agg hl =>
        have h1 := (e.dec_ok h ho hl).free (e.enc_tf y) []
        rw [valA_agg hz]
        exact .agg h1
  · rename_i hna
    have ho' : e.decOk [a] := by
      unfold okV cellsA at ho
      split at ho
      · rename_i l; exact (hna l rfl).elim
      · exact ho
    have h1 := (e.dec_ok h ho' (.cons hr .nil)).free (e.enc_tf y) []
    have hl := dec_len e [a] y h
    have h2 : ∃ b, e.enc y = [b] := by
      have := e.enc_len y
      match hb : e.enc y, this with
      | [b], _ => exact ⟨b, rfl⟩
      | [], h3 => simp at h3; simp at hl; omega
      | _ :: _ :: _, h3 => simp at h3; simp at hl; omega
    obtain ⟨b, hb⟩ := h2
    rw [hb] at h1
    rw [valA_one hb]
    cases h1 with
    | cons h3 _ => exact h3
/-- the entries that lie there, and those that are said -/
def MRel (R : RO) (k : KTy) (e : Ety) (kv : List (k.T × e.T)) (es : List MapEntry) : Prop :=
  LRel R [] (kv.map fun p => k.av p.1) (es.map (·.key)) ∧ LRel R [] (kv.map fun p => valA e p.2) (es.map (·.val))
theorem MRel.nil_inv {k : KTy} {e : Ety} {es : List MapEntry} (h : MRel R k e [] es) : es = [] := by
  have h1 := h.1.len
  simpa using h1.symm
theorem MRel.cons_inv {k : KTy} {e : Ety} {p : k.T × e.T} {kv : List (k.T × e.T)} {es : List MapEntry} (h : MRel R k e (p :: kv) es) : ∃ x r, es = x :: r ∧ x.key = k.val p.1 ∧ Rel R [] (valA e p.2) x.val ∧ MRel R k e kv r := by
  obtain ⟨h1, h2⟩ := h
  cases es with
  | nil => cases h1
  | cons x r =>
    simp only [List.map_cons] at h1 h2
    cases h1 with
    | cons a1 a2 =>
      cases h2 with
      | cons b1 b2 => exact ⟨x, r, rfl, KTy.av_val a1, b1, a2, b2⟩
theorem MRel.cons {k : KTy} {e : Ety} {p : k.T × e.T} {kv : List (k.T × e.T)} {x : MapEntry} {es : List MapEntry} (h1 : x.key = k.val p.1) (h2 : Rel R [] (valA e p.2) x.val) (h : MRel R k e kv es) : MRel R k e (p :: kv) (x :: es) := by
  refine ⟨?_, .cons h2 h.2⟩
  simp only [List.map_cons, h1]
  refine .cons ?_ h.1
  cases k
  · exact .int
  · exact .str
theorem MRel.mono {R' : RO} (hR : R.le R') {k : KTy} {e : Ety} {kv : List (k.T × e.T)} {es : List MapEntry} (h : MRel R k e kv es) : MRel R' k e kv es := ⟨h.1.mono hR (Ext.refl _), h.2.mono hR (Ext.refl _)⟩
theorem MRel.find {k : KTy} {e : Ety} (x : k.T) : ∀ {kv : List (k.T × e.T)} {es : List MapEntry} (i : Nat), MRel R k e kv es →
    (mget kv x = none ∧ Instr.findNow k.desc (k.val x) es i = some none ∧ (∀ y, mset kv x y = kv ++ [(x, y)]) ∧ mdel kv x = kv) ∨
    ∃ (j : Nat) (y : e.T) (v : Value) (n : MapEntry), mget kv x = some y ∧ Instr.findNow k.desc (k.val x) es i = some (some (i + j, v)) ∧ es[j]? = some n ∧ n.key = k.val x ∧ Rel R [] (valA e y) v ∧
      (∀ (y' : e.T) (v' : Value), Rel R [] (valA e y') v' → MRel R k e (mset kv x y') (es.modify j fun n => { n with key := k.val x, val := v' })) ∧ MRel R k e (mdel kv x) (es.eraseIdx j)
  | [], es, i, h => by
    rw [h.nil_inv]
    exact .inl ⟨rfl, rfl, fun _ => rfl, rfl⟩
  | p :: kv, es, i, h => by
    obtain ⟨n, r, rfl, h1, h2, h3⟩ := h.cons_inv
    have hs := KTy.same (k := k) x p.1
    by_cases e1 : p.1 = x
    · refine .inr ⟨0, p.2, n.val, n, by simp [mget, e1], ?_, rfl, by rw [h1, e1], h2, fun y' v' hv => ?_, ?_⟩
      · rw [Instr.findNow, h1, hs]
        simp [e1]
      · simp only [mset, e1, if_true, List.modify_zero_cons]
        exact .cons rfl hv h3
      · simp only [mdel, e1, if_true, List.eraseIdx_cons_zero]
        exact h3
    · have e2 : ¬ x = p.1 := fun q => e1 q.symm
      rcases MRel.find x (i + 1) h3 with ⟨a1, a2, a3, a4⟩ | ⟨j, y, v, m, a1, a2, a3, a4, a5, a6, a7⟩
      · refine .inl ⟨by simp [mget, e1, a1], ?_, fun y => by simp [mset, e1, a3], by simp [mdel, e1, a4]⟩
        simp only [Instr.findNow, h1, hs, e2, decide_false, a2]
      · refine .inr ⟨j + 1, y, v, m, by simp [mget, e1, a1], ?_, by simpa using a3, a4, a5, fun y' v' hv => ?_, ?_⟩
        · simp only [Instr.findNow, h1, hs, e2, decide_false, a2]
          simp
          omega
        · simp only [mset, e1, if_false, List.modify_succ_cons]
          exact .cons h1 h2 (a6 y' v' hv)
        · simp only [mdel, e1, if_false, List.eraseIdx_cons_succ]
          exact .cons h1 h2 a7
/-- the zero value as one -/
def zeroV (P : Program) (t : TypeId) : Option AV := match P.info? t with
  | some i => (match i.zero with
    | some (.agg cs) => some (.agg (cs.toList.map ofV))
    | some v => some (ofV v)
    | none => none)
  | none => none
def zokV (P : Program) (e : Ety) (t : TypeId) : Prop := match zeroV P t with
  | some z => decV e z = some e.dflt ∧ okV e z
  | none => False
theorem zokV_ok {e : Ety} {t : TypeId} (h : zokV P e t) : ∃ z, Rel R [] (valA e e.dflt) z ∧ ∀ w, (zeroValue t).run P w = .ok z w := by
  unfold zokV at h
  split at h
  · rename_i a ha
    unfold zeroV at ha
    split at ha
    · rename_i i hi
      split at ha
      · rename_i cs hz
        simp only [Option.some.injEq] at ha
        subst ha
        exact ⟨.agg cs, decV_ok (μ := []) (.agg (vs := cs.toList) (ofV_rels R [] cs.toList)) h.1 h.2, fun w => by simp [zeroValue, typeInfo, hi, hz]⟩
      · rename_i v _ hz
        simp only [Option.some.injEq] at ha
        subst ha
        exact ⟨_, decV_ok (μ := []) (ofV_rel R [] v) h.1 h.2, fun w => by simp [zeroValue, typeInfo, hi, hz]⟩
      · simp at ha
    · simp at ha
  · exact h.elim
section
variable {k : KTy} {e : Ety}
theorem mget_mem : ∀ {l : List (k.T × e.T)} {x : k.T} {y : e.T}, (l.map (·.1)).Nodup → (mget l x = some y ↔ (x, y) ∈ l)
  | [], x, y, _ => by simp [mget]
  | p :: l, x, y, h => by
    simp only [List.map_cons, List.nodup_cons] at h
    by_cases hp : p.1 = x
    · subst hp
      simp only [mget, if_true, Option.some.injEq, List.mem_cons]
      constructor
      · intro q; left; rw [← q]
      · rintro (q | q)
        · rw [← q]
        · exact absurd (List.mem_map.2 ⟨_, q, rfl⟩) h.1
    · simp only [mget, if_neg hp, List.mem_cons]
      rw [mget_mem h.2]
      constructor
      · exact .inr
      · rintro (q | q)
        · exact absurd (by rw [← q]) hp
        · exact q
theorem mget_same {l m : List (k.T × e.T)} (h : Same l m) (x : k.T) : mget l x = mget m x := by
  have h2 : (m.map (·.1)).Nodup := (h.1.map _).nodup_iff.1 h.2
  apply Option.ext
  intro y
  rw [mget_mem h.2, mget_mem h2, h.1.mem_iff]
theorem mset_keys : ∀ (l : List (k.T × e.T)) (x : k.T) (y : e.T), (mset l x y).map (·.1) = if x ∈ l.map (·.1) then l.map (·.1) else l.map (·.1) ++ [x]
  | [], x, y => by simp [mset]
  | p :: l, x, y => by
    by_cases hp : p.1 = x
    · simp [mset, hp]
    · have hp' : ¬ x = p.1 := fun q => hp q.symm
      simp only [mset, if_neg hp, List.map_cons, mset_keys l x y, List.mem_cons, hp', false_or]
      split <;> rfl
theorem mset_perm : ∀ {l : List (k.T × e.T)} {x : k.T} {y : e.T}, (l.map (·.1)).Nodup → (mset l x y).Perm ((x, y) :: l.filter fun p => !decide (p.1 = x))
  | [], x, y, _ => by simp [mset]
  | p :: l, x, y, h => by
    simp only [List.map_cons, List.nodup_cons] at h
    by_cases hp : p.1 = x
    · have : l.filter (fun p => !decide (p.1 = x)) = l := by
        rw [List.filter_eq_self]
        intro q hq
        simp only [Bool.not_eq_true', decide_eq_false_iff_not]
        intro e'
        exact h.1 (by rw [hp, ← e']; exact List.mem_map.2 ⟨q, hq, rfl⟩)
      rw [mset, if_pos hp, List.filter_cons, if_neg (by simp [hp]), this]
    · rw [mset, if_neg hp, List.filter_cons, if_pos (by simp [hp])]
      exact ((mset_perm h.2).cons p).trans (List.Perm.swap _ _ _)
theorem mdel_filter : ∀ {l : List (k.T × e.T)} {x : k.T}, (l.map (·.1)).Nodup → mdel l x = l.filter fun p => !decide (p.1 = x)
  | [], x, _ => rfl
  | p :: l, x, h => by
    simp only [List.map_cons, List.nodup_cons] at h
    by_cases hp : p.1 = x
    · have : l.filter (fun p => !decide (p.1 = x)) = l := by
        rw [List.filter_eq_self]
        intro q hq
        simp only [Bool.not_eq_true', decide_eq_false_iff_not]
        intro e'
        exact h.1 (by rw [hp, ← e']; exact List.mem_map.2 ⟨q, hq, rfl⟩)
      rw [mdel, if_pos hp, List.filter_cons, if_neg (by simp [hp]), this]
    · rw [mdel, if_neg hp, List.filter_cons, if_pos (by simp [hp]), mdel_filter h.2]
theorem same_set {l m : List (k.T × e.T)} (h : Same l m) (x : k.T) (y : e.T) : Same (mset l x y) (mset m x y) := by
  have h2 : (m.map (·.1)).Nodup := (h.1.map _).nodup_iff.1 h.2
  refine ⟨(mset_perm h.2).trans (((h.1.filter _).cons _).trans (mset_perm h2).symm), ?_⟩
  rw [mset_keys]
  split
  · exact h.2
  · rename_i hx
    rw [List.nodup_append]
    exact ⟨h.2, by simp, fun a ha b hb e' => by rw [List.mem_singleton] at hb; subst hb; subst e'; exact hx ha⟩
theorem same_del {l m : List (k.T × e.T)} (h : Same l m) (x : k.T) : Same (mdel l x) (mdel m x) := by
  have h2 : (m.map (·.1)).Nodup := (h.1.map _).nodup_iff.1 h.2
  rw [mdel_filter h.2, mdel_filter h2]
  exact ⟨h.1.filter _, h.2.sublist (List.Sublist.map _ List.filter_sublist)⟩
end
/-- the result of looking up -/
def lookR (c : Bool) (a : AV) (b : Bool) : AV := if c then .tup [a, .bool b] else a
def lookupK (P : Program) (t : TypeId) (x i : AV) (c : Bool) (h : List Ch) (K : AV → Prop) : Prop :=
  match kdT P t, x with
  | .map kt et, .mp g => (match hth h g with
    | .map k e kv => (match k.of i with
      | some n => (kdT P kt = k.kd ∧ zokV P e et) ∧ K (lookR c (valA e ((mget kv n).getD e.dflt)) (mget kv n).isSome)
      | none => False)
    | _ => False)
  | _, _ => False
theorem kd_map {t kt et : TypeId} (h : kdT P t = .map kt et) : P.underlying t = some (.map kt et) := by
  unfold kdT at h
  split at h <;> simp_all
theorem map_at {g n : Nat} {k : KTy} {e : Ety} {kv : List (k.T × e.T)} (H : HOk R μ h w) (hg : μ[g]? = some (.mp n)) (hc : h[g]? = some (.map k e kv)) : ∃ es clock kv0, w.heap[n]? = some (.map es clock) ∧ MRel R k e kv0 es.toList ∧ Born es clock ∧ Same kv0 kv := by
  obtain ⟨B, h1, h2, _⟩ := H.rel.get hc
  rw [hg] at h1
  cases h1
  obtain ⟨m, es, clock, kv0, h3, h4, h5, h6, h7, h8⟩ := h2
  cases h3
  exact ⟨es, clock, kv0, h4, ⟨h5, h6⟩, h7, h8⟩
theorem lookupK_ok (H : HOk R μ h w) {t : TypeId} {x i : AV} {vx vi : Value} {c : Bool} {K : AV → Prop} (hx : Rel R μ x vx) (hi : Rel R μ i vi) (hK : lookupK P t x i c h K) : ∃ v a, (Instr.lookup t vx vi c).run P w = .ok v w ∧ K a ∧ Rel R μ a v := by
  unfold lookupK at hK
  split at hK
  · rename_i kt et g hk
    split at hK
    · rename_i k e kv hc
      split at hK
      · rename_i n hn
        obtain ⟨⟨h1, h2⟩, hK⟩ := hK
        have hof := KTy.of_av hn
        subst hof
        have hv := KTy.av_val hi
        subst hv
        cases hx with
        | mp hm =>
          rename_i b
          obtain ⟨es, clock, kv0, h3, h4, _, hsm⟩ := map_at H hm (hth_get hc (by simp))
          rw [← mget_same hsm n] at hK
          obtain ⟨z, h5, h6⟩ := zokV_ok (R := R) h2
          have hu := KTy.und h1
          have hck := run_checkKey (w := w) hu (KTy.isKey n) es.isEmpty 9999
          rcases MRel.find n 0 h4 with ⟨a1, a2, _, _⟩ | ⟨j, y, v, m, a1, a2, a3, a4, a5, _, _⟩
          · have hf := run_findKey (w := w) hu a2
            refine ⟨if c then .tuple #[z, .bool false] else z, _, ?_, hK, ?_⟩
            · unfold Instr.lookup
              simp [run_underlying (kd_map hk), Go.MapKept.run_getObj_map h3, hck, hf, h6, Result.andThen]
            · rw [a1]
              cases c
              · exact h5.mono (RO.le.refl R) (Ext.nil μ)
              · exact .tup (.cons (h5.mono (RO.le.refl R) (Ext.nil μ)) (.cons .bool .nil))
          · have hf := run_findKey (w := w) hu a2
            refine ⟨if c then .tuple #[v, .bool true] else v, _, ?_, hK, ?_⟩
            · unfold Instr.lookup
              simp [run_underlying (kd_map hk), Go.MapKept.run_getObj_map h3, hck, hf, Result.andThen]
            · rw [a1]
              cases c
              · exact a5.mono (RO.le.refl R) (Ext.nil μ)
              · exact .tup (.cons (a5.mono (RO.le.refl R) (Ext.nil μ)) (.cons .bool .nil))
      · exact hK.elim
    · exact hK.elim
  · exact hK.elim
def mupdK (P : Program) (t : TypeId) (m i x : AV) (h : List Ch) (K : List Ch → Prop) : Prop :=
  match kdT P t, m with
  | .map kt _, .mp g => (match hth h g with
    | .map k e kv => (match k.of i, decV e x with
      | some n, some y => (kdT P kt = k.kd ∧ okV e x) ∧ K (h.set g (.map k e (mset kv n y)))
      | _, _ => False)
    | _ => False)
  | _, _ => False
theorem born_push {es : Array MapEntry} {clock : Nat} {x v : Value} (h : Born es clock) : Born (es.push { key := x, val := v, born := clock }) (clock + 1) := by
  refine ⟨fun y hy => ?_, ?_⟩
  · rw [Array.toList_push, List.mem_append, List.mem_singleton] at hy
    rcases hy with hy | rfl
    · have := h.1 y hy; omega
    · exact Nat.lt_succ_self _
  · rw [Array.toList_push, List.map_append, List.nodup_append]
    refine ⟨h.2, by simp, fun a ha b hb e => ?_⟩
    simp only [List.map_cons, List.map_nil, List.mem_singleton] at hb
    obtain ⟨y, hy, rfl⟩ := List.mem_map.1 ha
    have := h.1 y hy
    omega
theorem born_map {j : Nat} {f : MapEntry → MapEntry} (hf : ∀ x, (f x).born = x.born) : ∀ l : List MapEntry, (l.modify j f).map (·.born) = l.map (·.born) := by
  induction j with
  | zero =>
    intro l
    cases l with
    | nil => rfl
    | cons a l => simp [hf]
  | succ j ih =>
    intro l
    cases l with
    | nil => rfl
    | cons a l => simp only [List.modify_succ_cons, List.map_cons, ih]
theorem born_modify {es : Array MapEntry} {clock j : Nat} {x v : Value} (h : Born es clock) : Born (es.modify j fun q => { q with key := x, val := v }) clock := by
  have e := born_map (j := j) (f := fun q => { q with key := x, val := v }) (fun _ => rfl) es.toList
  refine ⟨fun y hy => ?_, ?_⟩
  · have : y.born ∈ es.toList.map (·.born) := by rw [← e, ← Array.toList_modify]; exact List.mem_map.2 ⟨y, hy, rfl⟩
    obtain ⟨z, hz, hzy⟩ := List.mem_map.1 this
    have := h.1 z hz
    omega
  · rw [Array.toList_modify, e]; exact h.2
theorem born_eraseIdx {es : Array MapEntry} {clock j : Nat} (h : Born es clock) : Born (es.eraseIdxIfInBounds j) clock := by
  rw [Array.eraseIdxIfInBounds]
  split
  · refine ⟨fun y hy => h.1 y ?_, ?_⟩
    · rw [Array.toList_eraseIdx] at hy
      exact (List.eraseIdx_sublist _ _).subset hy
    · rw [Array.toList_eraseIdx]
      exact h.2.sublist ((List.eraseIdx_sublist _ _).map _)
  · exact h
/-- a map's block is written anew -/
theorem map_put {g b : Nat} {k : KTy} {e : Ety} {kv kv' kv0' : List (k.T × e.T)} {es es' : Array MapEntry} {clock clock' : Nat} (H : HOk R μ h w) (hm : μ[g]? = some (.mp b)) (hc : h[g]? = some (.map k e kv)) (hb : w.heap[b]? = some (.map es clock)) (hr : MRel R k e kv0' es'.toList) (hbn : Born es' clock') (hsm : Same kv0' kv') :
    HOk R μ (h.set g (.map k e kv')) { w with heap := w.heap.setIfInBounds b (.map es' clock') } ∧ Step (ownH h μ) R w (ownH (h.set g (.map k e kv')) μ) R { w with heap := w.heap.setIfInBounds b (.map es' clock') } := by
  obtain ⟨k1, k2⟩ := heap_set (o' := .map es' clock') hb
  exact H.set hc hm (List.Sublist.refl _) (fun n _ hn => k2 n fun q => hn (by simp [ownC, q])) (by simp) ⟨b, es', clock', kv0', rfl, k1, hr.1, hr.2, hbn, hsm⟩ rfl rfl rfl
theorem MRel.snoc {k : KTy} {e : Ety} {n : k.T} {y : e.T} {v : Value} {c : Nat} (hv : Rel R [] (valA e y) v) : ∀ {kv : List (k.T × e.T)} {es : List MapEntry}, MRel R k e kv es → MRel R k e (kv ++ [(n, y)]) (es ++ [{ key := k.val n, val := v, born := c }])
  | [], es, h => by
    rw [h.nil_inv]
    exact .cons rfl hv ⟨.nil, .nil⟩
  | p :: kv, es, h => by
    obtain ⟨x, r, rfl, h1, h2, h3⟩ := h.cons_inv
    exact .cons h1 h2 (MRel.snoc hv h3)
theorem mupdK_ok (H : HOk R μ h w) {t : TypeId} {m i x : AV} {vm vi vx : Value} {K : List Ch → Prop} (hm : Rel R μ m vm) (hi : Rel R μ i vi) (hx : Rel R μ x vx) (hK : mupdK P t m i x h K) : ∃ w' h', (Instr.mapUpdate t vm vi vx).run P w = .ok () w' ∧ K h' ∧ HOk R μ h' w' ∧ Step (ownH h μ) R w (ownH h' μ) R w' := by
  unfold mupdK at hK
  split at hK
  · rename_i kt et g hk
    split at hK
    · rename_i k e kv hc
      split at hK
      · rename_i n y hn hy
        obtain ⟨⟨h1, h2⟩, hK⟩ := hK
        have hof := KTy.of_av hn
        subst hof
        have hv := KTy.av_val hi
        subst hv
        cases hm with
        | mp hm =>
          rename_i b
          have hcg := hth_get hc (by simp)
          obtain ⟨es, clock, kv0, h3, h4, hbn, hsm⟩ := map_at H hm hcg
          have hsm' := same_set hsm n y
          have hu := KTy.und h1
          have hck := run_checkKey (w := w) hu (KTy.isKey n) false 9999
          have hyv := decV_ok hx hy h2
          rcases MRel.find n 0 h4 with ⟨a1, a2, a3, _⟩ | ⟨j, y', v, q, a1, a2, a3, a4, a5, a6, _⟩
          · have hf := run_findKey (w := w) hu a2
            have hr : MRel R k e (mset kv0 n y) (es.push { key := k.val n, val := vx, born := clock }).toList := by
              rw [a3, Array.toList_push]
              exact .snoc hyv h4
            obtain ⟨H', hs⟩ := map_put (clock' := clock + 1) H hm hcg h3 hr (born_push hbn) hsm'
            refine ⟨_, _, ?_, hK, H', hs⟩
            unfold Instr.mapUpdate
            simp [run_underlying (kd_map hk), Go.MapKept.run_getObj_map h3, hck, hf, run_setObj_map _ h3, Result.andThen]
          · have hf := run_findKey (w := w) hu a2
            have hr : MRel R k e (mset kv0 n y) (es.modify j fun q => { q with key := k.val n, val := vx }).toList := by
              rw [Array.toList_modify]
              exact a6 y vx hyv
            obtain ⟨H', hs⟩ := map_put (clock' := clock) H hm hcg h3 hr (born_modify hbn) hsm'
            refine ⟨_, _, ?_, hK, H', hs⟩
            have hst := run_keyThatStays (P := P) (w := w) (KTy.isKey n)
            have hq : (es[j]?.map (·.key)).getD (k.val n) = k.val n := by
              have : es[j]? = some q := by simpa using a3
              rw [this]
              simp [a4]
            unfold Instr.mapUpdate
            simp only [Sem.run_bind, run_underlying (kd_map hk), Result.andThen_ok, Go.MapKept.run_getObj_map h3, hck, hf, Nat.zero_add, hq, hst, run_setObj_map _ h3]
      · exact hK.elim
    · exact hK.elim
  · exact hK.elim
/-- a new map -/
def mmapK [ETab] (P : Program) (t : TypeId) (r : Option AV) (h : List Ch) (K : AV → List Ch → Prop) : Prop :=
  match kdT P t, ETab.mof t, r with
  | .map _ _, some (k, e), none => K (.mp h.length) (h ++ [.map k e []])
  | .map _ _, some (k, e), some (.int _ _) => K (.mp h.length) (h ++ [.map k e []])
  | _, _, _ => False
theorem newMap (H : HOk R μ h w) {k : KTy} {e : Ety} :
    HOk R (μ ++ [.mp w.heap.size]) (h ++ [.map k e []]) (w.alloc (.map #[] 0)) ∧ Step (ownH h μ) R w (ownH (h ++ [.map k e []]) (μ ++ [.mp w.heap.size])) R (w.alloc (.map #[] 0)) :=
  H.push (fun n hn => RowKit.Below.heap_alloc w _ n hn) (by simp) (by simp [ownC]) (fun n hn => by simp [ownC] at hn; subst hn; simp)
    ⟨w.heap.size, #[], 0, [], rfl, heap_alloc_new w _, .nil, .nil, ⟨fun x hx => by simp at hx, by simp⟩, List.Perm.refl _, by simp⟩ rfl rfl rfl
theorem mp_new (H : HOk R μ h w) : Rel R (μ ++ [.mp w.heap.size]) (.mp h.length) (.map (some w.heap.size)) :=
  .mp (by rw [H.rel.len]; simp)
theorem mmapK_ok [ETab] (H : HOk R μ h w) {t : TypeId} {r : Option AV} {vr : Option Value} {K : AV → List Ch → Prop} (hr : match r, vr with | none, none => True | some a, some v => Rel R μ a v | _, _ => False) (hK : mmapK P t r h K) : GivesH P R μ h w K (Instr.makeMap t vr) := by
  unfold mmapK at hK
  split at hK
  · rename_i kt et k e hk _
    obtain ⟨H', hs⟩ := newMap H (k := k) (e := e)
    cases vr with
    | none => exact ⟨_, _, R, _, _, _, rfl, hK, mp_new H, H', Ext.app _ _, hs⟩
    | some v => exact hr.elim
  · rename_i kt et k e _ _ hk _
    obtain ⟨H', hs⟩ := newMap H (k := k) (e := e)
    cases vr with
    | none => exact hr.elim
    | some v =>
      replace hr : Rel R μ (.int _ _) v := hr
      cases hr
      exact ⟨_, _, R, _, _, _, (by
        have e1 : (newObj (.map #[] 0)).run P w = .ok w.heap.size (w.alloc (.map #[] 0)) := rfl
        simp only [Instr.makeMap, Sem.run_bind, run_underlying (kd_map hk), Result.andThen_ok, asInt, asIntOf, Sem.run_pure, e1]), hK, mp_new H, H', Ext.app _ _, hs⟩
  · exact hK.elim
def mdelK (P : Program) (t : TypeId) (m i : AV) (h : List Ch) (K : List Ch → Prop) : Prop :=
  match kdT P t, m with
  | .map kt _, .mp g => (match hth h g with
    | .map k e kv => (match k.of i with
      | some n => (kdT P kt = k.kd) ∧ K (h.set g (.map k e (mdel kv n)))
      | none => False)
    | _ => False)
  | _, _ => False
theorem mdelK_ok (H : HOk R μ h w) {t : TypeId} {m i : AV} {vm vi : Value} {ts : Array TypeId} {ty : TypeId} {K : List Ch → Prop} (ht : ts[0]? = some t) (hm : Rel R μ m vm) (hi : Rel R μ i vi) (hK : mdelK P t m i h K) : ∃ w' h', (Builtin.delete_ ts ty #[vm, vi]).run P w = .ok (.tuple #[]) w' ∧ K h' ∧ HOk R μ h' w' ∧ Step (ownH h μ) R w (ownH h' μ) R w' := by
  unfold mdelK at hK
  split at hK
  · rename_i kt et g hk
    split at hK
    · rename_i k e kv hc
      split at hK
      · rename_i n hn
        obtain ⟨h1, hK⟩ := hK
        have hof := KTy.of_av hn
        subst hof
        have hv := KTy.av_val hi
        subst hv
        cases hm with
        | mp hm =>
          rename_i b
          have hcg := hth_get hc (by simp)
          obtain ⟨es, clock, kv0, h3, h4, hbn, hsm⟩ := map_at H hm hcg
          have hsm' := same_del hsm n
          have hu := KTy.und h1
          have hck := run_checkKey (w := w) hu (KTy.isKey n) es.isEmpty 9999
          rcases MRel.find n 0 h4 with ⟨a1, a2, _, a3⟩ | ⟨j, y', v, q, a1, a2, a3, a4, a5, _, a6⟩
          · have hf := run_findKey (w := w) hu a2
            have hr : MRel R k e (mdel kv0 n) es.toList := by rw [a3]; exact h4
            obtain ⟨H', hs⟩ := map_put (clock' := clock) H hm hcg h3 hr hbn hsm'
            refine ⟨_, _, ?_, hK, H', hs⟩
            unfold Builtin.delete_
            simp [ht, run_underlying (kd_map hk), Go.MapKept.run_getObj_map h3, hck, hf, run_setObj_map _ h3, Result.andThen]
          · have hf := run_findKey (w := w) hu a2
            have hr : MRel R k e (mdel kv0 n) (es.eraseIdxIfInBounds j).toList := by
              have : j < es.size := by have := (List.getElem?_eq_some_iff.1 a3).1; simpa using this
              rw [Array.eraseIdxIfInBounds, dif_pos this, Array.toList_eraseIdx]
              exact a6
            obtain ⟨H', hs⟩ := map_put (clock' := clock) H hm hcg h3 hr (born_eraseIdx hbn) hsm'
            refine ⟨_, _, ?_, hK, H', hs⟩
            unfold Builtin.delete_
            simp [ht, run_underlying (kd_map hk), Go.MapKept.run_getObj_map h3, hck, hf, run_setObj_map _ h3, Result.andThen]
      · exact hK.elim
    · exact hK.elim
  · exact hK.elim
def mlenK (P : Program) (t : TypeId) (m : AV) (h : List Ch) (K : AV → Prop) : Prop :=
  match kdT P t, m with
  | .map _ _, .mp g => (match hth h g with
    | .map _ _ kv => K (.int .i64 kv.length)
    | _ => False)
  | _, _ => False
theorem mlenK_ok (H : HOk R μ h w) {t : TypeId} {m : AV} {vm : Value} {ts : Array TypeId} {ty : TypeId} {K : AV → Prop} (ht : ts[0]? = some t) (hm : Rel R μ m vm) (hK : mlenK P t m h K) : ∃ n, (Builtin.len_ ts ty #[vm]).run P w = .ok (.int .i64 n) w ∧ K (.int .i64 n) := by
  unfold mlenK at hK
  split at hK
  · rename_i kt et g hk
    split at hK
    · rename_i k e kv hc
      cases hm with
      | mp hm =>
        rename_i b
        obtain ⟨es, clock, kv0, h3, h4, _, hsm⟩ := map_at H hm (hth_get hc (by simp))
        have hl := h4.1.len
        simp only [List.length_map, Array.length_toList] at hl
        rw [hsm.1.length_eq] at hl
        refine ⟨_, ?_, hK⟩
        unfold Builtin.len_
        simp [ht, run_underlying (kd_map hk), Go.MapKept.run_getObj_map h3, hl, goInt, Result.andThen]
    · exact hK.elim
  · exact hK.elim
def len2K (P : Program) (t : TypeId) (kd : Kd) (x : AV) (h : List Ch) (K : AV → Prop) : Prop :=
  match kd with
  | .map _ _ => mlenK P t x h K
  | kd => lenTK kd x K
end Go.V
