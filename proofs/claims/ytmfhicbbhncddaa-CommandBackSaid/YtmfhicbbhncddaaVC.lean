/-
  Objects are closed.
-/
import Derived.Test.YtmfhicbbhncddaaV12
set_option linter.unusedVariables false
set_option linter.unusedSimpArgs false
namespace Go.V

variable {P : Program} {R : RO} {μ : List Bind} {h : List Ch} {w : World}

theorem hth_set_ne {h : List Ch} {t s : Nat} {c : Ch} (hne : t ≠ s) : hth (h.set t c) s = hth h s := by
  induction h generalizing t s with
  | nil => simp
  | cons a l ih =>
    cases t with
    | zero => cases s with
      | zero => exact absurd rfl hne
      | succ s => rfl
    | succ t => cases s with
      | zero => rfl
      | succ s => simpa [hth] using ih (t := t) (s := s) (by omega)
theorem hth_set_eq {h : List Ch} {t : Nat} {c : Ch} (ht : t < h.length) : hth (h.set t c) t = c := by
  induction h generalizing t with
  | nil => simp at ht
  | cons a l ih =>
    cases t with
    | zero => rfl
    | succ t => simpa [hth] using ih (t := t) (by simpa using ht)
theorem hth_lt {h : List Ch} {t : Nat} (hc : hth h t ≠ .gone) : t < h.length := by
  have := hth_get (h := h) (t := t) rfl hc
  exact (List.getElem?_eq_some_iff.1 this).1
theorem hth_app {h l : List Ch} {t : Nat} (ht : t < h.length) : hth (h ++ l) t = hth h t := by
  induction h generalizing t with
  | nil => simp at ht
  | cons a h ih =>
    cases t with
    | zero => rfl
    | succ t => simpa [hth] using ih (t := t) (by simpa using ht)
theorem hth_app_r {h l : List Ch} {j : Nat} : hth (h ++ l) (h.length + j) = hth l j := by
  induction h with
  | nil => simp
  | cons a h ih => rw [List.length_cons, show h.length + 1 + j = (h.length + j) + 1 from by omega]; simpa [hth] using ih

/-! ### Chunks that go -/
def goneH (h : List Ch) : List Nat → List Ch
  | [] => h
  | t :: ts => goneH (h.set t .gone) ts
theorem goneH_len (h : List Ch) : ∀ ts : List Nat, (goneH h ts).length = h.length := by
  intro ts
  induction ts generalizing h with
  | nil => rfl
  | cons t ts ih => simp [goneH, ih]
theorem goneH_hth {h : List Ch} {t : Nat} : ∀ {ts : List Nat}, t ∉ ts → hth (goneH h ts) t = hth h t := by
  intro ts
  induction ts generalizing h with
  | nil => intro _; rfl
  | cons s ts ih =>
    intro hn
    simp only [List.mem_cons, not_or] at hn
    rw [goneH, ih hn.2, hth_set_ne (Ne.symm hn.1)]
theorem gone_own {c : Ch} {B : Bind} : ∀ {h : List Ch} {m : List Bind} {t : Nat}, (ownH h m).Nodup → h[t]? = some c → m[t]? = some B → ∀ b ∈ ownH (h.set t .gone) m, b ∈ ownH h m ∧ b ∉ ownC c B := by
  intro h m t hn e1 e2 b hb
  refine ⟨?_, fun hx => own_gone hn e1 e2 b hx hb⟩
  exact (ownH_set_sub (c' := .gone) fun c0 B0 _ _ => by simp [ownC]).subset hb
theorem HOk.goneH {h : List Ch} (H : HOk R μ h w) : ∀ ts : List Nat, HOk R μ (goneH h ts) w ∧ (∀ b ∈ ownH (V.goneH h ts) μ, b ∈ ownH h μ) ∧ ∀ t ∈ ts, ∀ c B, h[t]? = some c → μ[t]? = some B → ∀ b ∈ ownC c B, b ∉ ownH (V.goneH h ts) μ := by
  intro ts
  induction ts generalizing h with
  | nil => exact ⟨H, fun b hb => hb, fun t ht => by cases ht⟩
  | cons t ts ih =>
    simp only [V.goneH]
    have H1 : HOk R μ (h.set t .gone) w ∧ (∀ b ∈ ownH (h.set t .gone) μ, b ∈ ownH h μ) := by
      cases hc : h[t]? with
      | none =>
        rw [List.set_eq_of_length_le (by simpa using hc)]
        exact ⟨H, fun b hb => hb⟩
      | some c =>
        obtain ⟨B, hB, _, _⟩ := H.rel.get hc
        exact ⟨(H.set (c' := .gone) (w' := w) hc hB (gone_sub _ _) (fun _ _ _ => rfl) (Nat.le_refl _) trivial rfl rfl rfl).1, fun b hb => (gone_own H.nodup hc hB b hb).1⟩
    obtain ⟨a1, a2, a3⟩ := ih H1.1
    refine ⟨a1, fun b hb => H1.2 b (a2 b hb), fun s hs c B hc hB b hb hx => ?_⟩
    have hx' := a2 b hx
    by_cases e : s = t
    · subst e
      exact own_gone H.nodup hc hB b hb hx'
    · rcases List.mem_cons.1 hs with e' | hs'
      · exact e e'
      · exact a3 s hs' c B (by rw [List.getElem?_set_ne (Ne.symm e)]; exact hc) hB b hb hx

/-- the object at t, with what lies at ts, is closed to l -/
def closeH (h : List Ch) (t : Nat) (ts : List Nat) (l : List Ch) : List Ch := (goneH h ts).set t (.pack l)
theorem close_ok (H : HOk R μ h w) {t : Nat} {ts : List Nat} {vs : List AV} {l : List Ch} (hf : fitHs (t :: ts) h (.cells vs :: l) (t :: ts)) (hn : (t :: ts).Nodup) :
    ∃ μ', HOk R μ' (closeH h t ts (.cells vs :: l)) w ∧ Ext μ μ' ∧ Step (ownH h μ) R w (ownH (closeH h t ts (.cells vs :: l)) μ') R w := by
  obtain ⟨h1, h2, h3⟩ := fitH_ok H hf hn
  have hlt : t < h.length := hf.1
  have hct := hth_some hlt
  obtain ⟨B, hB, hr, _⟩ := H.rel.get hct
  have hp : pickB (t :: ts) μ = B :: pickB ts μ := by simp [pickB, hB]
  rw [hp] at h1 h2 h3
  have hB2 : ∃ n, B = .cel n := by obtain ⟨n, _, _, e, _⟩ := h1.1; exact ⟨n, e⟩
  obtain ⟨n, rfl⟩ := hB2
  obtain ⟨G1, G2, G3⟩ := H.goneH ts
  have htn : t ∉ ts := (List.nodup_cons.1 hn).1
  have hgt : (goneH h ts)[t]? = some (hth h t) := by
    have := hth_some (h := goneH h ts) (t := t) (by rw [goneH_len]; exact hlt)
    rw [goneH_hth htn] at this
    exact this
  have hext : Ext μ (μ.set t (.pack (.cel n :: pickB ts μ))) := Ext.set hB (.inr ⟨n, rfl, rfl⟩)
  have hown : ownC (.pack (.cells vs :: l)) (.pack (.cel n :: pickB ts μ)) = ownH (.cells vs :: l) (.cel n :: pickB ts μ) := by simp [ownC]
  have hrel : HRel R w (μ.set t (.pack (.cel n :: pickB ts μ))) (closeH h t ts (.cells vs :: l)) (μ.set t (.pack (.cel n :: pickB ts μ))) :=
    HRel.swap (RO.le.refl R) hext (c' := .pack (.cells vs :: l)) ⟨_, rfl, h1⟩ G1.rel G1.nodup hgt hB fun _ _ _ => rfl
  have hin : ∀ b ∈ ownH (.cells vs :: l) (.cel n :: pickB ts μ), b ∈ ownH h μ := fun b hb => by
    obtain ⟨s, _, c, C, e1, e2, e3⟩ := h3 b hb
    exact own_mem e1 e2 b e3
  have hsub : ∀ b ∈ ownH (closeH h t ts (.cells vs :: l)) (μ.set t (.pack (.cel n :: pickB ts μ))), b ∈ ownH h μ := fun b hb => by
    rcases own_swap G1.nodup hgt hB b hb with hb | hb
    · rw [hown] at hb; exact hin b hb
    · exact G2 b hb.1
  refine ⟨_, ⟨hrel, ?_, fun b hb => H.own b (hsub b hb), H.ro⟩, hext, ⟨RO.le.refl R, Nat.le_refl _, fun _ _ _ => rfl, fun b hb => .inl (hsub b hb), fun _ _ hb => .inl hb, rfl, rfl, rfl⟩⟩
  refine own_swap_nodup (by rw [hown]; exact h2) G1.nodup hgt hB fun b hb hg => ?_
  rw [hown] at hb
  obtain ⟨s, hs, c, C, e1, e2, e3⟩ := h3 b hb
  rcases List.mem_cons.1 hs with rfl | hs
  · rw [hct] at e1
    rw [hB] at e2
    cases e1; cases e2
    exact e3
  · exact absurd hg (G3 s hs c C e1 e2 b e3)

/-- the object at t is closed: what lies there, and at ts, is what l describes, tags read through -/
def Shut (h : List Ch) (t : Nat) (ts : List Nat) (l : List Ch) : Prop := (∃ vs l', l = .cells vs :: l') ∧ fitHs (t :: ts) h l (t :: ts) ∧ (t :: ts).Nodup
def isNil : AV → Prop
  | .lit (.slice none 0 0) => True
  | _ => False
theorem adopt_ok (H : HOk R μ h w) (e : Ety) : HOk R (μ ++ [.none]) (h ++ [.rows e []]) w ∧ Step (ownH h μ) R w (ownH (h ++ [.rows e []]) (μ ++ [.none])) R w ∧ Rel R (μ ++ [.none]) (.sl h.length e 0 0) (.slice none 0 0) := by
  obtain ⟨H', hst⟩ := H.push (c := .rows e []) (B := .none) (w' := w) (fun _ _ => rfl) (Nat.le_refl _) (by simp [ownC]) (by simp [ownC]) (.inl ⟨rfl, rfl⟩) rfl rfl rfl
  exact ⟨H', hst, .sl0 (by rw [H.rel.len]; simp)⟩
theorem isNil_eq {a : AV} (h : isNil a) : a = .lit (.slice none 0 0) := by
  unfold isNil at h
  split at h
  · rfl
  · exact h.elim
theorem lset_rel {tm : List AV} {vs : List Value} (h1 : LRel R μ tm vs) {t : Nat} {x y : AV} (hx : nthA tm t = x) (hf : ∀ v, Rel R μ x v → Rel R μ y v) : LRel R μ (tm.set t y) vs := by
  induction tm generalizing t vs with
  | nil => simpa using h1
  | cons a l ih =>
    cases h1 with
    | cons ha hl =>
      cases t with
      | zero => simp only [nthA] at hx; subst hx; exact .cons (hf _ ha) hl
      | succ n => exact .cons ha (ih hl (by simpa [nthA] using hx))

theorem adoptC_ok (H : HOk R μ h w) {t i : Nat} {vs : List AV} (e : Ety) (hc : hth h t = .cells vs) (hn : isNil (nthA vs i)) :
    ∃ μ', HOk R μ' (h.set t (.cells (vs.set i (.sl h.length e 0 0))) ++ [.rows e []]) w ∧ Ext μ μ' ∧ Step (ownH h μ) R w (ownH (h.set t (.cells (vs.set i (.sl h.length e 0 0))) ++ [.rows e []]) μ') R w := by
  have hct := hth_get hc (by simp)
  obtain ⟨H', hst, hr⟩ := adopt_ok H e
  have hlt : t < h.length := (List.getElem?_eq_some_iff.1 hct).1
  have hct' : (h ++ [Ch.rows e []])[t]? = some (.cells vs) := by rw [List.getElem?_append_left hlt]; exact hct
  obtain ⟨B, hB, ⟨n, arr, ty, rfl, h1, h2⟩, _⟩ := H'.rel.get hct'
  obtain ⟨H2, hst2⟩ := H'.set (c' := .cells (vs.set i (.sl h.length e 0 0))) (w' := w) hct' hB (by simp [ownC]) (fun _ _ _ => rfl) (Nat.le_refl _)
    ⟨n, arr, ty, rfl, h1, lset_rel h2 (isNil_eq hn) (fun v hv => by cases hv; exact hr)⟩ rfl rfl rfl
  rw [List.set_append_left _ _ hlt] at H2 hst2
  exact ⟨_, H2, Ext.app _ _, hst.trans hst2⟩
/-! ### Steps that the machine does not see -/
mutual
def frA (t : Nat) (e : Ety) (xs : List e.T) : AV → AV
  | .sl t' e' s n => if t' = t then .ro e ((xs.drop s).take n) else .sl t' e' s n
  | .agg l => .agg (frL t e xs l)
  | .tup l => .tup (frL t e xs l)
  | .ep t' e' i off => if t' = t then .any else .ep t' e' i off
  | a => a
def frL (t : Nat) (e : Ety) (xs : List e.T) : List AV → List AV
  | [] => []
  | a :: l => frA t e xs a :: frL t e xs l
end
mutual
def frOb (t : Nat) (e : Ety) (m : Nat) : AV → Prop
  | .sl t' e' s n => t' = t → (e' = e ∧ s + n ≤ m)
  | .agg l => frObL t e m l
  | .tup l => frObL t e m l
  | _ => True
def frObL (t : Nat) (e : Ety) (m : Nat) : List AV → Prop
  | [] => True
  | a :: l => frOb t e m a ∧ frObL t e m l
end
def frC (t : Nat) (e : Ety) (xs : List e.T) : Ch → Ch
  | .cells vs => .cells (frL t e xs vs)
  | c => c
def frHs (t : Nat) (e : Ety) (xs : List e.T) : List Ch → List Ch
  | [] => []
  | c :: l => frC t e xs c :: frHs t e xs l
def frObC (t : Nat) (e : Ety) (m : Nat) : Ch → Prop
  | .cells vs => frObL t e m vs
  | _ => True
def frObH (t : Nat) (e : Ety) (m : Nat) : List Ch → Prop
  | [] => True
  | c :: l => frObC t e m c ∧ frObH t e m l

mutual
theorem frA_ok {R' : RO} (hR : R.le R') {t : Nat} {e : Ety} {xs : List e.T} (hf : ∀ (s n : Nat) (v : Value), Rel R μ (.sl t e s n) v → s + n ≤ xs.length → Rel R' μ (.ro e ((xs.drop s).take n)) v) : ∀ {a : AV} {v : Value}, frOb t e xs.length a → Rel R μ a v → Rel R' μ (frA t e xs a) v
  | .sl t' e' s n, v, ho, hr => by
    simp only [frA]
    split
    · rename_i ht
      have ho2 : t' = t → (e' = e ∧ s + n ≤ xs.length) := ho
      obtain ⟨he, hl⟩ := ho2 ht
      subst ht
      subst he
      exact hf s n v hr hl
    · exact hr.mono hR (Ext.refl μ)
  | .agg l, v, ho, hr => by
    simp only [frA]
    cases hr with | agg hl => exact .agg (frL_ok hR hf ho hl)
  | .tup l, v, ho, hr => by
    simp only [frA]
    cases hr with | tup hl => exact .tup (frL_ok hR hf ho hl)
  | .ep t' e' i off, v, _, hr => by
    simp only [frA]
    split
    · exact .any
    · exact hr.mono hR (Ext.refl μ)
  | .int .., _, _, hr => hr.mono hR (Ext.refl μ)
  | .bool .., _, _, hr => hr.mono hR (Ext.refl μ)
  | .str .., _, _, hr => hr.mono hR (Ext.refl μ)
  | .lit .., _, _, hr => hr.mono hR (Ext.refl μ)
  | .ptr .., _, _, hr => hr.mono hR (Ext.refl μ)
  | .ro .., _, _, hr => hr.mono hR (Ext.refl μ)
  | .rp .., _, _, hr => hr.mono hR (Ext.refl μ)
  | .fn .., _, _, hr => hr.mono hR (Ext.refl μ)
  | .ifc .., _, _, hr => hr.mono hR (Ext.refl μ)
  | .mp .., _, _, hr => hr.mono hR (Ext.refl μ)
  | .any, _, _, hr => hr.mono hR (Ext.refl μ)
theorem frL_ok {R' : RO} (hR : R.le R') {t : Nat} {e : Ety} {xs : List e.T} (hf : ∀ (s n : Nat) (v : Value), Rel R μ (.sl t e s n) v → s + n ≤ xs.length → Rel R' μ (.ro e ((xs.drop s).take n)) v) : ∀ {l : List AV} {vs : List Value}, frObL t e xs.length l → LRel R μ l vs → LRel R' μ (frL t e xs l) vs
  | [], _, _, hr => by cases hr; exact .nil
  | a :: l, _, ho, hr => by
    cases hr with | cons ha hl => exact .cons (frA_ok hR hf ho.1 ha) (frL_ok hR hf ho.2 hl)
end
theorem frHs_own {t : Nat} {e : Ety} {xs : List e.T} : ∀ (h : List Ch) (m : List Bind), ownH (frHs t e xs h) m = ownH h m
  | [], m => rfl
  | c :: l, [] => by simp [frHs, ownH]
  | c :: l, b :: m => by
    simp only [frHs, ownH, frHs_own l m]
    congr 1
    cases c <;> cases b <;> rfl
theorem frHs_rel {R' : RO} (hR : R.le R') {t : Nat} {e : Ety} {xs : List e.T} (hf : ∀ (s n : Nat) (v : Value), Rel R μ (.sl t e s n) v → s + n ≤ xs.length → Rel R' μ (.ro e ((xs.drop s).take n)) v) : ∀ {h : List Ch} {m : List Bind}, frObH t e xs.length h → HRel R w μ h m → HRel R' w μ (frHs t e xs h) m
  | [], [], _, _ => trivial
  | c :: l, b :: m, ho, hr => by
    refine ⟨?_, frHs_rel hR hf ho.2 hr.2⟩
    cases c with
    | cells vs =>
      obtain ⟨n, arr, ty, rfl, h1, h2⟩ := hr.1
      exact ⟨n, arr, ty, rfl, h1, frL_ok hR hf ho.1 h2⟩
    | rows e' ys => exact CRel.keep hR (Ext.refl μ) _ _ hr.1 fun _ _ => rfl
    | gone => trivial
    | pack l => exact CRel.keep hR (Ext.refl μ) _ _ hr.1 fun _ _ => rfl
    | map l => exact CRel.keep hR (Ext.refl μ) _ _ hr.1 fun _ _ => rfl
  | [], _ :: _, _, h => h.elim
  | _ :: _, [], _, h => h.elim

/-- steps that the machine does not see -/
def GhostT (R : RO) (μ : List Bind) (tm : List AV) (h : List Ch) (w : World) (tm' : List AV) (h' : List Ch) : Prop :=
  ∃ R' μ', HOk R' μ' h' w ∧ Step (ownH h μ) R w (ownH h' μ') R' w ∧ Ext μ μ' ∧ (∀ vs, LRel R μ tm vs → LRel R' μ' tm' vs)
/-- from these slots and this memory to those, the machine standing still -/
def Gh (tm : List AV) (h : List Ch) (tm' : List AV) (h' : List Ch) : Prop := ∀ (R : RO) (μ : List Bind) (w : World) (vs : List Value), HOk R μ h w → LRel R μ tm vs → GhostT R μ tm h w tm' h'
theorem Gh.refl {tm : List AV} {h : List Ch} : Gh tm h tm h := fun R μ _ _ H _ => ⟨R, μ, H, Step.refl _ _ _, Ext.refl μ, fun _ hv => hv⟩
theorem Gh.trans {tm tm1 tm2 : List AV} {h h1 h2 : List Ch} (a : Gh tm h tm1 h1) (b : Gh tm1 h1 tm2 h2) : Gh tm h tm2 h2 := fun R μ w vs H hv => by
  obtain ⟨R1, μ1, H1, st1, e1, f1⟩ := a R μ w vs H hv
  obtain ⟨R2, μ2, H2, st2, e2, f2⟩ := b R1 μ1 w vs H1 (f1 vs hv)
  exact ⟨R2, μ2, H2, st1.trans st2, e1.trans e2, fun us hu => f2 us (f1 us hu)⟩
theorem gh_close {tm : List AV} {t : Nat} {ts : List Nat} {l : List Ch} (hs : Shut h t ts l) : Gh tm h tm (closeH h t ts l) := by
  intro R μ w vs H _
  obtain ⟨⟨cs, l', rfl⟩, hf, hn⟩ := hs
  obtain ⟨μ', h1, h2, h3⟩ := close_ok H hf hn
  exact ⟨R, μ', h1, h3, h2, fun _ hv => hv.mono (RO.le.refl R) h2⟩
theorem gh_open {tm : List AV} {t : Nat} {vs : List AV} {rest : List Ch} (hc : hth h t = .pack (.cells vs :: rest)) : Gh tm h tm (openH h t vs rest) := by
  intro R μ w us H _
  obtain ⟨μ', h1, h2, h3⟩ := open_ok H hc
  exact ⟨R, μ', h1, h3, h2, fun _ hv => hv.mono (RO.le.refl R) h2⟩
theorem gh_frz {tm : List AV} {t : Nat} {e : Ety} {xs : List e.T} (hc : hth h t = .rows e xs) (ho : frObL t e xs.length tm) (ho2 : frObH t e xs.length h) : Gh tm h (frL t e xs tm) (frHs t e xs (h.set t .gone)) := by
  intro R μ w us H _
  obtain ⟨R1, H1, st1, le1, hf⟩ := H.freeze (hth_get hc (by simp))
  have hrel : HRel R1 w μ (frHs t e xs (h.set t .gone)) μ := by
    have hob : frObH t e xs.length (h.set t .gone) := by
      have key : ∀ (h : List Ch) (t' : Nat), frObH t e xs.length h → frObH t e xs.length (h.set t' .gone) := by
        intro h
        induction h with
        | nil => intro t' ho; simpa using ho
        | cons c l ih =>
          intro t' ho
          cases t' with
          | zero => exact ⟨trivial, ho.2⟩
          | succ n => exact ⟨ho.1, ih n ho.2⟩
      exact key h t ho2
    have h0 : HRel R w μ (h.set t .gone) μ := by
      obtain ⟨B, hB, _, _⟩ := H.rel.get (hth_get hc (by simp))
      exact HRel.set (RO.le.refl R) H.rel H.nodup (hth_get hc (by simp)) hB (fun _ _ _ => rfl) trivial
    exact frHs_rel le1 hf hob h0
  have hown := frHs_own (t := t) (e := e) (xs := xs) (h.set t .gone) μ
  have H2 : HOk R1 μ (frHs t e xs (h.set t .gone)) w := ⟨hrel, by rw [hown]; exact H1.nodup, fun b hb => by rw [hown] at hb; exact H1.own b hb, H1.ro⟩
  refine ⟨R1, μ, H2, ?_, Ext.refl μ, fun vs hv => frL_ok le1 hf ho hv⟩
  rw [hown]
  exact st1
/-- a nil slice in a slot becomes an empty row -/
theorem gh_adopt {tm : List AV} {s : Nat} (e : Ety) (hn : isNil (nthA tm s)) : Gh tm h (tm.set s (.sl h.length e 0 0)) (h ++ [.rows e []]) := by
  intro R μ w us H _
  obtain ⟨H', hst, hr⟩ := adopt_ok H e
  exact ⟨R, _, H', hst, Ext.app _ _, fun vs hv => lset_rel (hv.mono (RO.le.refl R) (Ext.app _ _)) (isNil_eq hn) (fun v hv => by cases hv; exact hr)⟩
/-- a nil slice in a cell becomes an empty row -/
theorem gh_adoptC {tm : List AV} {t i : Nat} {vs : List AV} (e : Ety) (hc : hth h t = .cells vs) (hn : isNil (nthA vs i)) : Gh tm h tm (h.set t (.cells (vs.set i (.sl h.length e 0 0))) ++ [.rows e []]) := by
  intro R μ w us H _
  obtain ⟨μ', h1, h2, h3⟩ := adoptC_ok H e hc hn
  exact ⟨R, _, h1, h3, h2, fun vs hv => hv.mono (RO.le.refl R) h2⟩
/-- a nil slice lies for good -/
theorem gh_nil {tm : List AV} {s : Nat} (e : Ety) (hn : isNil (nthA tm s)) : Gh tm h (tm.set s (.ro e [])) h := by
  intro R μ w us H _
  exact ⟨R, μ, H, Step.refl _ _ _, Ext.refl _, fun vs hv => lset_rel hv (isNil_eq hn) (fun v hv => by cases hv; exact .ro0 (Nat.zero_le _))⟩
end Go.V
