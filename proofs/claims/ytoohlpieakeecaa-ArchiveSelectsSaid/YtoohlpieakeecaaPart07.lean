/-
  Objects are closed.
  The code of a function: what it means that it does what is asked; freezing.
  Jumps: goto, label, scope.
  The rules of a walk: one operation a step.
  A region whose order is drawn: the order of the text serves every order.
-/
import Derived.Test.YtoohlpieakeecaaPart06
import Derived.ScopeJumps
set_option linter.unusedVariables false
set_option linter.unusedSimpArgs false
namespace Go.V

variable {P : Program} {R : RO} {μ : List Bind} {h : List Ch} {w : World}

theorem hth_set_ne {h : List Ch} {t s : Nat} {c : Ch} (hne : t ≠ s) : hth (h.set t c) s = hth h s := by
  induction h generalizing t s with
  | nil => simp
  | cons a l ih =>
    cases t with
    | zero => cases s with
      | zero => exact absurd rfl hne
      | succ s => rfl
    | succ t => cases s with
      | zero => rfl
      | succ s => simpa [hth] using ih (t := t) (s := s) (by omega)
theorem hth_set_eq {h : List Ch} {t : Nat} {c : Ch} (ht : t < h.length) : hth (h.set t c) t = c := by
  induction h generalizing t with
  | nil => simp at ht
  | cons a l ih =>
    cases t with
    | zero => rfl
    | succ t => simpa [hth] using ih (t := t) (by simpa using ht)
theorem hth_lt {h : List Ch} {t : Nat} (hc : hth h t ≠ .gone) : t < h.length := by
  have := hth_get (h := h) (t := t) rfl hc
  exact (List.getElem?_eq_some_iff.1 this).1
theorem hth_app {h l : List Ch} {t : Nat} (ht : t < h.length) : hth (h ++ l) t = hth h t := by
  induction h generalizing t with
  | nil => simp at ht
  | cons a h ih =>
    cases t with
    | zero => rfl
    | succ t => simpa [hth] using ih (t := t) (by simpa using ht)
theorem hth_app_r {h l : List Ch} {j : Nat} : hth (h ++ l) (h.length + j) = hth l j := by
  induction h with
  | nil => simp
  | cons a h ih => rw [List.length_cons, show h.length + 1 + j = (h.length + j) + 1 from by omega]; simpa [hth] using ih

/-! ### Chunks that go -/
def goneH (h : List Ch) : List Nat → List Ch
  | [] => h
  | t :: ts => goneH (h.set t .gone) ts
theorem goneH_len (h : List Ch) : ∀ ts : List Nat, (goneH h ts).length = h.length := by
  intro ts
  induction ts generalizing h with
  | nil => rfl
  | cons t ts ih => simp [goneH, ih]
theorem goneH_hth {h : List Ch} {t : Nat} : ∀ {ts : List Nat}, t ∉ ts → hth (goneH h ts) t = hth h t := by
  intro ts
  induction ts generalizing h with
  | nil => intro _; rfl
  | cons s ts ih =>
    intro hn
    simp only [List.mem_cons, not_or] at hn
    rw [goneH, ih hn.2, hth_set_ne (Ne.symm hn.1)]
theorem gone_own {c : Ch} {B : Bind} : ∀ {h : List Ch} {m : List Bind} {t : Nat}, (ownH h m).Nodup → h[t]? = some c → m[t]? = some B → ∀ b ∈ ownH (h.set t .gone) m, b ∈ ownH h m ∧ b ∉ ownC c B := by
  intro h m t hn e1 e2 b hb
  refine ⟨?_, fun hx => own_gone hn e1 e2 b hx hb⟩
  exact (ownH_set_sub (c' := .gone) fun c0 B0 _ _ => by simp [ownC]).subset hb
theorem HOk.goneH {h : List Ch} (H : HOk R μ h w) : ∀ ts : List Nat, HOk R μ (goneH h ts) w ∧ (∀ b ∈ ownH (V.goneH h ts) μ, b ∈ ownH h μ) ∧ ∀ t ∈ ts, ∀ c B, h[t]? = some c → μ[t]? = some B → ∀ b ∈ ownC c B, b ∉ ownH (V.goneH h ts) μ := by
  intro ts
  induction ts generalizing h with
  | nil => exact ⟨H, fun b hb => hb, fun t ht => by cases ht⟩
  | cons t ts ih =>
    simp only [V.goneH]
    have H1 : HOk R μ (h.set t .gone) w ∧ (∀ b ∈ ownH (h.set t .gone) μ, b ∈ ownH h μ) := by
      cases hc : h[t]? with
      | none =>
        rw [List.set_eq_of_length_le (by simpa using hc)]
        exact ⟨H, fun b hb => hb⟩
      | some c =>
        obtain ⟨B, hB, _, _⟩ := H.rel.get hc
        exact ⟨(H.set (c' := .gone) (w' := w) hc hB (gone_sub _ _) (fun _ _ _ => rfl) (Nat.le_refl _) trivial rfl rfl rfl).1, fun b hb => (gone_own H.nodup hc hB b hb).1⟩
    obtain ⟨a1, a2, a3⟩ := ih H1.1
    refine ⟨a1, fun b hb => H1.2 b (a2 b hb), fun s hs c B hc hB b hb hx => ?_⟩
    have hx' := a2 b hx
    by_cases e : s = t
    · subst e
      exact own_gone H.nodup hc hB b hb hx'
    · rcases List.mem_cons.1 hs with e' | hs'
      · exact e e'
      · exact a3 s hs' c B (by rw [List.getElem?_set_ne (Ne.symm e)]; exact hc) hB b hb hx

/-- the object at t, with what lies at ts, is closed to l -/
def closeH (h : List Ch) (t : Nat) (ts : List Nat) (l : List Ch) : List Ch := (goneH h ts).set t (.pack l)
theorem close_ok (H : HOk R μ h w) {t : Nat} {ts : List Nat} {vs : List AV} {l : List Ch} (hf : fitHs (t :: ts) h (.cells vs :: l) (t :: ts)) (hn : (t :: ts).Nodup) :
    ∃ μ', HOk R μ' (closeH h t ts (.cells vs :: l)) w ∧ Ext μ μ' ∧ Step (ownH h μ) R w (ownH (closeH h t ts (.cells vs :: l)) μ') R w := by
  obtain ⟨h1, h2, h3⟩ := fitH_ok H hf hn
  have hlt : t < h.length := hf.1
  have hct := hth_some hlt
  obtain ⟨B, hB, hr, _⟩ := H.rel.get hct
  have hp : pickB (t :: ts) μ = B :: pickB ts μ := by simp [pickB, hB]
  rw [hp] at h1 h2 h3
  have hB2 : ∃ n, B = .cel n := by obtain ⟨n, _, _, e, _⟩ := h1.1; exact ⟨n, e⟩
  obtain ⟨n, rfl⟩ := hB2
  obtain ⟨G1, G2, G3⟩ := H.goneH ts
  have htn : t ∉ ts := (List.nodup_cons.1 hn).1
  have hgt : (goneH h ts)[t]? = some (hth h t) := by
    have := hth_some (h := goneH h ts) (t := t) (by rw [goneH_len]; exact hlt)
    rw [goneH_hth htn] at this
    exact this
  have hext : Ext μ (μ.set t (.pack (.cel n :: pickB ts μ))) := Ext.set hB (.inr ⟨n, rfl, rfl, fun _ _ h => by cases h⟩)
  have hown : ownC (.pack (.cells vs :: l)) (.pack (.cel n :: pickB ts μ)) = ownH (.cells vs :: l) (.cel n :: pickB ts μ) := by simp [ownC]
  have hrel : HRel R w (μ.set t (.pack (.cel n :: pickB ts μ))) (closeH h t ts (.cells vs :: l)) (μ.set t (.pack (.cel n :: pickB ts μ))) :=
    HRel.swap (RO.le.refl R) hext (c' := .pack (.cells vs :: l)) ⟨_, rfl, h1⟩ G1.rel G1.nodup hgt hB fun _ _ _ => rfl
  have hin : ∀ b ∈ ownH (.cells vs :: l) (.cel n :: pickB ts μ), b ∈ ownH h μ := fun b hb => by
    obtain ⟨s, _, c, C, e1, e2, e3⟩ := h3 b hb
    exact own_mem e1 e2 b e3
  have hsub : ∀ b ∈ ownH (closeH h t ts (.cells vs :: l)) (μ.set t (.pack (.cel n :: pickB ts μ))), b ∈ ownH h μ := fun b hb => by
    rcases own_swap G1.nodup hgt hB b hb with hb | hb
    · rw [hown] at hb; exact hin b hb
    · exact G2 b hb.1
  refine ⟨_, ⟨hrel, ?_, fun b hb => H.own b (hsub b hb), H.ro⟩, hext, ⟨RO.le.refl R, Nat.le_refl _, fun _ _ _ => rfl, fun b hb => .inl (hsub b hb), fun _ _ hb => .inl hb, rfl, rfl, rfl, Nat.le_refl _⟩⟩
  refine own_swap_nodup (by rw [hown]; exact h2) G1.nodup hgt hB fun b hb hg => ?_
  rw [hown] at hb
  obtain ⟨s, hs, c, C, e1, e2, e3⟩ := h3 b hb
  rcases List.mem_cons.1 hs with rfl | hs
  · rw [hct] at e1
    rw [hB] at e2
    cases e1; cases e2
    exact e3
  · exact absurd hg (G3 s hs c C e1 e2 b e3)

/-- the object at t is closed: what lies there, and at ts, is what l describes, tags read through -/
def Shut (h : List Ch) (t : Nat) (ts : List Nat) (l : List Ch) : Prop := (∃ vs l', l = .cells vs :: l') ∧ fitHs (t :: ts) h l (t :: ts) ∧ (t :: ts).Nodup
def isNil : AV → Prop
  | .lit (.slice none 0 0) => True
  | _ => False
theorem adopt_ok (H : HOk R μ h w) (e : Ety) : HOk R (μ ++ [.none]) (h ++ [.rows e []]) w ∧ Step (ownH h μ) R w (ownH (h ++ [.rows e []]) (μ ++ [.none])) R w ∧ Rel R (μ ++ [.none]) (.sl h.length e 0 0) (.slice none 0 0) := by
  obtain ⟨H', hst⟩ := H.push (c := .rows e []) (B := .none) (w' := w) (fun _ _ => rfl) (Nat.le_refl _) (by simp [ownC]) (by simp [ownC]) (.inl ⟨rfl, rfl⟩) rfl rfl rfl
  exact ⟨H', hst, .sl0 (.inl (by rw [H.rel.len]; simp))⟩
theorem isNil_eq {a : AV} (h : isNil a) : a = .lit (.slice none 0 0) := by
  unfold isNil at h
  split at h
  · rfl
  · exact h.elim
theorem lset_rel {tm : List AV} {vs : List Value} (h1 : LRel R μ tm vs) {t : Nat} {x y : AV} (hx : nthA tm t = x) (hf : ∀ v, Rel R μ x v → Rel R μ y v) : LRel R μ (tm.set t y) vs := by
  induction tm generalizing t vs with
  | nil => simpa using h1
  | cons a l ih =>
    cases h1 with
    | cons ha hl =>
      cases t with
      | zero => simp only [nthA] at hx; subst hx; exact .cons (hf _ ha) hl
      | succ n => exact .cons ha (ih hl (by simpa [nthA] using hx))

/-! ### Steps that the machine does not see -/
mutual
def frA (t : Nat) (e : Ety) (xs : List e.T) : AV → AV
  | .sl t' e' s n => if t' = t then .ro e ((xs.drop s).take n) else .sl t' e' s n
  | .agg l => .agg (frL t e xs l)
  | .tup l => .tup (frL t e xs l)
  | .ep t' e' i off => if t' = t then .any else .ep t' e' i off
  | a => a
def frL (t : Nat) (e : Ety) (xs : List e.T) : List AV → List AV
  | [] => []
  | a :: l => frA t e xs a :: frL t e xs l
end
mutual
def frOb (t : Nat) (e : Ety) (m : Nat) : AV → Prop
  | .sl t' e' s n => t' = t → (e' = e ∧ s + n ≤ m)
  | .agg l => frObL t e m l
  | .tup l => frObL t e m l
  | _ => True
def frObL (t : Nat) (e : Ety) (m : Nat) : List AV → Prop
  | [] => True
  | a :: l => frOb t e m a ∧ frObL t e m l
end
def frC (t : Nat) (e : Ety) (xs : List e.T) : Ch → Ch
  | .cells vs => .cells (frL t e xs vs)
  | .crow vs => .crow (frL t e xs vs)
  | c => c
def frHs (t : Nat) (e : Ety) (xs : List e.T) : List Ch → List Ch
  | [] => []
  | c :: l => frC t e xs c :: frHs t e xs l
def frObC (t : Nat) (e : Ety) (m : Nat) : Ch → Prop
  | .cells vs => frObL t e m vs
  | .crow vs => frObL t e m vs
  | _ => True
def frObH (t : Nat) (e : Ety) (m : Nat) : List Ch → Prop
  | [] => True
  | c :: l => frObC t e m c ∧ frObH t e m l

mutual
theorem frA_ok {R' : RO} (hR : R.le R') {t : Nat} {e : Ety} {xs : List e.T} (hf : ∀ (s n : Nat) (v : Value), Rel R μ (.sl t e s n) v → s + n ≤ xs.length → Rel R' μ (.ro e ((xs.drop s).take n)) v) : ∀ {a : AV} {v : Value}, frOb t e xs.length a → Rel R μ a v → Rel R' μ (frA t e xs a) v
  | .sl t' e' s n, v, ho, hr => by
    simp only [frA]
    split
    · rename_i ht
      have ho2 : t' = t → (e' = e ∧ s + n ≤ xs.length) := ho
      obtain ⟨he, hl⟩ := ho2 ht
      subst ht
      subst he
      exact hf s n v hr hl
    · exact hr.mono hR (Ext.refl μ)
  | .agg l, v, ho, hr => by
    simp only [frA]
    cases hr with | agg hl => exact .agg (frL_ok hR hf ho hl)
  | .tup l, v, ho, hr => by
    simp only [frA]
    cases hr with | tup hl => exact .tup (frL_ok hR hf ho hl)
  | .ep t' e' i off, v, _, hr => by
    simp only [frA]
    split
    · exact .any
    · exact hr.mono hR (Ext.refl μ)
  | .int .., _, _, hr => hr.mono hR (Ext.refl μ)
  | .bool .., _, _, hr => hr.mono hR (Ext.refl μ)
  | .str .., _, _, hr => hr.mono hR (Ext.refl μ)
  | .lit .., _, _, hr => hr.mono hR (Ext.refl μ)
  | .ptr .., _, _, hr => hr.mono hR (Ext.refl μ)
  | .csl .., _, _, hr => hr.mono hR (Ext.refl μ)
  | .ro .., _, _, hr => hr.mono hR (Ext.refl μ)
  | .rp .., _, _, hr => hr.mono hR (Ext.refl μ)
  | .rc .., _, _, hr => hr.mono hR (Ext.refl μ)
  | .fn .., _, _, hr => hr.mono hR (Ext.refl μ)
  | .ifc .., _, _, hr => hr.mono hR (Ext.refl μ)
  | .mp .., _, _, hr => hr.mono hR (Ext.refl μ)
  | .any, _, _, hr => hr.mono hR (Ext.refl μ)
theorem frL_ok {R' : RO} (hR : R.le R') {t : Nat} {e : Ety} {xs : List e.T} (hf : ∀ (s n : Nat) (v : Value), Rel R μ (.sl t e s n) v → s + n ≤ xs.length → Rel R' μ (.ro e ((xs.drop s).take n)) v) : ∀ {l : List AV} {vs : List Value}, frObL t e xs.length l → LRel R μ l vs → LRel R' μ (frL t e xs l) vs
  | [], _, _, hr => by cases hr; exact .nil
  | a :: l, _, ho, hr => by
    cases hr with | cons ha hl => exact .cons (frA_ok hR hf ho.1 ha) (frL_ok hR hf ho.2 hl)
end
theorem frHs_own {t : Nat} {e : Ety} {xs : List e.T} : ∀ (h : List Ch) (m : List Bind), ownH (frHs t e xs h) m = ownH h m
  | [], m => rfl
  | c :: l, [] => by simp [frHs, ownH]
  | c :: l, b :: m => by
    simp only [frHs, ownH, frHs_own l m]
    congr 1
    cases c <;> cases b <;> rfl
theorem frHs_rel {R' : RO} (hR : R.le R') {t : Nat} {e : Ety} {xs : List e.T} (hf : ∀ (s n : Nat) (v : Value), Rel R μ (.sl t e s n) v → s + n ≤ xs.length → Rel R' μ (.ro e ((xs.drop s).take n)) v) : ∀ {h : List Ch} {m : List Bind}, frObH t e xs.length h → HRel R w μ h m → HRel R' w μ (frHs t e xs h) m
  | [], [], _, _ => trivial
  | c :: l, b :: m, ho, hr => by
    refine ⟨?_, frHs_rel hR hf ho.2 hr.2⟩
    cases c with
    | cells vs =>
      obtain ⟨n, arr, ty, rfl, h1, h2⟩ := hr.1
      exact ⟨n, arr, ty, rfl, h1, frL_ok hR hf ho.1 h2⟩
    | crow vs =>
      obtain ⟨n, arr, ty, rfl, h1, h2⟩ := hr.1
      have h3 := frL_ok hR hf ho.1 h2
      exact ⟨n, arr, ty, rfl, h1, by rw [show (frL t e xs vs).length = vs.length from h3.len.trans h2.len.symm]; exact h3⟩
    | rows e' ys => exact CRel.keep hR (Ext.refl μ) _ _ hr.1 fun _ _ => rfl
    | gone => trivial
    | pack l => exact CRel.keep hR (Ext.refl μ) _ _ hr.1 fun _ _ => rfl
    | map l => exact CRel.keep hR (Ext.refl μ) _ _ hr.1 fun _ _ => rfl
    | iter l => exact CRel.keep hR (Ext.refl μ) _ _ hr.1 fun _ _ => rfl
  | [], _ :: _, _, h => h.elim
  | _ :: _, [], _, h => h.elim

/-- steps that the machine does not see -/
def GhostT (R : RO) (μ : List Bind) (tm : List AV) (h : List Ch) (w : World) (tm' : List AV) (h' : List Ch) : Prop :=
  ∃ R' μ', HOk R' μ' h' w ∧ Step (ownH h μ) R w (ownH h' μ') R' w ∧ Ext μ μ' ∧ (∀ vs, LRel R μ tm vs → LRel R' μ' tm' vs)
/-- from these slots and this memory to those, the machine standing still -/
def Gh (tm : List AV) (h : List Ch) (tm' : List AV) (h' : List Ch) : Prop := ∀ (R : RO) (μ : List Bind) (w : World) (vs : List Value), HOk R μ h w → LRel R μ tm vs → GhostT R μ tm h w tm' h'
theorem Gh.refl {tm : List AV} {h : List Ch} : Gh tm h tm h := fun R μ _ _ H _ => ⟨R, μ, H, Step.refl _ _ _, Ext.refl μ, fun _ hv => hv⟩
theorem Gh.trans {tm tm1 tm2 : List AV} {h h1 h2 : List Ch} (a : Gh tm h tm1 h1) (b : Gh tm1 h1 tm2 h2) : Gh tm h tm2 h2 := fun R μ w vs H hv => by
  obtain ⟨R1, μ1, H1, st1, e1, f1⟩ := a R μ w vs H hv
  obtain ⟨R2, μ2, H2, st2, e2, f2⟩ := b R1 μ1 w vs H1 (f1 vs hv)
  exact ⟨R2, μ2, H2, st1.trans st2, e1.trans e2, fun us hu => f2 us (f1 us hu)⟩
theorem gh_close {tm : List AV} {t : Nat} {ts : List Nat} {l : List Ch} (hs : Shut h t ts l) : Gh tm h tm (closeH h t ts l) := by
  intro R μ w vs H _
  obtain ⟨⟨cs, l', rfl⟩, hf, hn⟩ := hs
  obtain ⟨μ', h1, h2, h3⟩ := close_ok H hf hn
  exact ⟨R, μ', h1, h3, h2, fun _ hv => hv.mono (RO.le.refl R) h2⟩
theorem gh_open {tm : List AV} {t : Nat} {vs : List AV} {rest : List Ch} (hc : hth h t = .pack (.cells vs :: rest)) : Gh tm h tm (openH h t vs rest) := by
  intro R μ w us H _
  obtain ⟨μ', h1, h2, h3⟩ := open_ok H hc
  exact ⟨R, μ', h1, h3, h2, fun _ hv => hv.mono (RO.le.refl R) h2⟩
theorem gh_frz {tm : List AV} {t : Nat} {e : Ety} {xs : List e.T} (hc : hth h t = .rows e xs) (ho : frObL t e xs.length tm) (ho2 : frObH t e xs.length h) : Gh tm h (frL t e xs tm) (frHs t e xs (h.set t .gone)) := by
  intro R μ w us H _
  obtain ⟨R1, H1, st1, le1, hf⟩ := H.freeze (hth_get hc (by simp))
  have hrel : HRel R1 w μ (frHs t e xs (h.set t .gone)) μ := by
    have hob : frObH t e xs.length (h.set t .gone) := by
      have key : ∀ (h : List Ch) (t' : Nat), frObH t e xs.length h → frObH t e xs.length (h.set t' .gone) := by
        intro h
        induction h with
        | nil => intro t' ho; simpa using ho
        | cons c l ih =>
          intro t' ho
          cases t' with
          | zero => exact ⟨trivial, ho.2⟩
          | succ n => exact ⟨ho.1, ih n ho.2⟩
      exact key h t ho2
    have h0 : HRel R w μ (h.set t .gone) μ := by
      obtain ⟨B, hB, _, _⟩ := H.rel.get (hth_get hc (by simp))
      exact HRel.set (RO.le.refl R) H.rel H.nodup (hth_get hc (by simp)) hB (fun _ _ _ => rfl) trivial
    exact frHs_rel le1 hf hob h0
  have hown := frHs_own (t := t) (e := e) (xs := xs) (h.set t .gone) μ
  have H2 : HOk R1 μ (frHs t e xs (h.set t .gone)) w := ⟨hrel, by rw [hown]; exact H1.nodup, fun b hb => by rw [hown] at hb; exact H1.own b hb, H1.ro⟩
  refine ⟨R1, μ, H2, ?_, Ext.refl μ, fun vs hv => frL_ok le1 hf ho hv⟩
  rw [hown]
  exact st1
/-- a nil slice in a slot becomes an empty row -/
theorem gh_adopt {tm : List AV} {s : Nat} (e : Ety) (hn : isNil (nthA tm s)) : Gh tm h (tm.set s (.sl h.length e 0 0)) (h ++ [.rows e []]) := by
  intro R μ w us H _
  obtain ⟨H', hst, hr⟩ := adopt_ok H e
  exact ⟨R, _, H', hst, Ext.app _ _, fun vs hv => lset_rel (hv.mono (RO.le.refl R) (Ext.app _ _)) (isNil_eq hn) (fun v hv => by cases hv; exact hr)⟩
end Go.V

namespace Go.V

variable {P : Program} {R : RO} {μ : List Bind} {h : List Ch} {w : World}

def putA (tm : List AV) (d : Option Nat) (v : AV) : List AV :=
  match d with
  | none => tm
  | some d => tm.set d v
def dstAt : List Oper → Nat → Option Nat
  | [], _ => none
  | o :: _, 0 => o.dst
  | _ :: l, n + 1 => dstAt l n

structure Post where
  n : List AV → List Ch → Prop
  x : Nat → List AV → List Ch → Prop
  r : List AV → List Ch → Prop
def Post.at (q : Post) : Exit → List AV → List Ch → Prop
  | .normal, tm, h => q.n tm h
  | .exit i, tm, h => i < 1000000 ∧ q.x i tm h
  | .goto l, tm, h => q.x (l + 1000000) tm h
  | .ret, tm, h => q.r tm h
  | _, _, _ => False

def dsts : List Oper → List Nat
  | [] => []
  | o :: l => (match o.dst with | some d => d :: dsts l | none => dsts l)
/-- slots that a code writes -/
def writes : Code → List Nat
  | .region _ ops _ => dsts ops.toList
  | .seq a b => writes a ++ writes b
  | .cond _ a b => writes a ++ writes b
  | .block _ c => writes c
  | .loop c => writes c
  | .scope c => writes c
  | _ => []
def killT (tm : List AV) : List Nat → List AV
  | [] => tm
  | d :: l => killT (tm.set d .any) l
def liveT (tm : List AV) : List (Nat × AV) → List AV
  | [] => tm
  | (d, v) :: l => liveT (tm.set d v) l
def setH (h : List Ch) : List (Nat × Ch) → List Ch
  | [] => h
  | (t, c) :: l => setH (h.set t c) l

structure SR (R : RO) (μ : List Bind) (tm : List AV) (h : List Ch) (a : Act) (w : World) : Prop where
  mem : HOk R μ h w
  tm : LRel R μ tm a.tmps.toList
  dfr : a.defers = []

theorem SR.put {tm : List AV} {a : Act} {R' : RO} {μ' : List Bind} {h' : List Ch} {w' : World} {av : AV} {v : Value} (s : SR R μ tm h a w) (d : Option Tmp) (hr : Rel R' μ' av v) (H' : HOk R' μ' h' w') (hR : R.le R') (hm : Ext μ μ') : SR R' μ' (putA tm d av) h' (a.put d v) w' := by
  have h1 := s.tm.mono hR hm
  refine ⟨H', ?_, ?_⟩
  · cases d with
    | none => exact h1
    | some d => simpa [putA, Act.put] using h1.set d hr
  · cases d <;> exact s.dfr
theorem SR.tag {tm : List AV} {a : Act} (s : SR R μ tm h a w) {t : Nat} {b : Bool} (hb : nthA tm t = .bool b) : SR R μ (tm.set t (.bool b)) h a w := by
  refine ⟨s.mem, ?_, s.dfr⟩
  have h1 := s.tm
  generalize a.tmps.toList = vs at h1
  clear s
  induction tm generalizing t vs with
  | nil => simpa using h1
  | cons x l ih =>
    cases h1 with
    | cons hx hl =>
      cases t with
      | zero => simp only [nthA] at hb; subst hb; exact .cons hx hl
      | succ n => exact .cons hx (ih (by simpa [nthA] using hb) _ hl)

theorem nth_rel {tm : List AV} {a : Act} (s : SR R μ tm h a w) {t : Nat} {b : Bool} (hb : nthA tm t = .bool b) : a.tmps[t]? = some (.bool b) := by
  have h1 := s.tm
  cases e : a.tmps[t]? with
  | none =>
    have : tm.length ≤ t := by rw [h1.len]; simpa using e
    rw [nthA_none tm t this] at hb
    simp at hb
  | some v =>
    have := h1.nth t (v := v) (by simpa using e)
    rw [hb] at this
    cases this; rfl
theorem dstAt_get : ∀ (l : List Oper) (j : Nat), dstAt l j = (l[j]?).bind (·.dst)
  | [], _ => by simp [dstAt]
  | o :: l, 0 => by simp [dstAt]
  | o :: l, n + 1 => by simp [dstAt, dstAt_get l n]

/-! ### A loop, by a relation with a number -/
theorem wp_loop_rel {c : Code} {Q : Exit → Act → World → Prop} {a : Act} {w : World} (I : Nat → Act → World → Prop) (n : Nat) (h₀ : I n a w)
    (round : ∀ n a w, I n a w → c.wp P (Exit.then (fun a' w' => ∃ m, m < n ∧ I m a' w') Q) a w) : (Code.loop c).wp P Q a w := by
  intro b k cs
  have key : ∀ n a w, I n a w → ∃ e a' w', Q e a' w' ∧ Arrives P (lone (b.at a (.code c :: .inLoop c :: k)) cs w) b k cs e a' w' := by
    intro n
    induction n using Nat.strongRecOn with
    | _ n ih =>
      intro a w hI
      obtain ⟨e, a₁, w₁, hq, harr⟩ := round n a w hI b (.inLoop c :: k) cs
      cases e with
      | normal =>
        obtain ⟨m, hlt, hI₁⟩ := hq
        obtain ⟨e₂, a₂, w₂, hq₂, harr₂⟩ := ih m hlt a₁ w₁ hI₁
        exact ⟨e₂, a₂, w₂, hq₂, .of_steps (Steps.trans harr (.one step_inLoop)) harr₂⟩
      | exit id => exact ⟨_, a₁, w₁, hq, .pass (x := .inLoop c) rfl (fun _ _ => .inl (by simp)) harr⟩
      | goto l => exact ⟨_, a₁, w₁, hq, .pass (x := .inLoop c) rfl (fun _ _ => .inl (by simp)) harr⟩
      | ret => exact ⟨_, a₁, w₁, hq, .pass (x := .inLoop c) rfl (fun _ _ => .inl (by simp)) harr⟩
      | panic ch => exact ⟨_, a₁, w₁, hq, .pass (x := .inLoop c) rfl (fun _ _ => .inl (by simp)) harr⟩
      | outgrown => exact ⟨_, a₁, w₁, hq, .pass (x := .inLoop c) rfl (fun _ _ => .inl (by simp)) harr⟩
  obtain ⟨e, a', w', hq, harr⟩ := key n a w h₀
  exact ⟨e, a', w', hq, .of_steps (.one step_loop) harr⟩

/-- the first k tags are as they were -/
structure Keeps (k : Nat) (μ μ' : List Bind) : Prop where
  len : k ≤ μ'.length
  get : ∀ {t : Nat} {B : Bind}, t < k → μ[t]? = some B → ∃ B', μ'[t]? = some B' ∧ BLe B B'
theorem Keeps.refl {k : Nat} {μ : List Bind} (h : k ≤ μ.length) : Keeps k μ μ := ⟨h, fun _ h => ⟨_, h, .refl _⟩⟩
theorem Keeps.trans {k : Nat} {a b c : List Bind} (h : Keeps k a b) (g : Keeps k b c) : Keeps k a c := ⟨g.len, fun ht hb => by
  obtain ⟨B', h1, h2⟩ := h.get ht hb
  obtain ⟨B2, h3, h4⟩ := g.get ht h1
  exact ⟨B2, h3, h2.trans h4⟩⟩
theorem Keeps.ext {k : Nat} {μ μ' : List Bind} (h : k ≤ μ.length) (e : Ext μ μ') : Keeps k μ μ' := ⟨Nat.le_trans h e.len, fun _ hb => e.get hb⟩
theorem Keeps.pick {k : Nat} {μ : List Bind} {σ : List Nat} (h : σ.take k = List.range k) : Keeps k μ (pickB σ μ) := by
  have h1 : k ≤ σ.length := by
    have := congrArg List.length h
    simp at this
    omega
  refine ⟨by simp [pickB, h1], fun {t B} ht hb => ⟨B, pickB_get (t' := t) ?_ hb, .refl _⟩⟩
  have := congrArg (·[t]?) h
  simpa [List.getElem?_take, ht] using this
theorem Keeps.toExt {μ μ' : List Bind} (h : Keeps μ.length μ μ') : Ext μ μ' := ⟨h.len, fun {t _} hb => h.get (List.getElem?_eq_some_iff.1 hb).1 hb⟩


/-! ### What a code does -/
/-- what holds at an end -/
def EndQ (k : Nat) (R : RO) (μ : List Bind) (h : List Ch) (w : World) (q : Post) : Exit → Act → World → Prop := fun e a' w' =>
  ∃ R' μ' tm' h', SR R' μ' tm' h' a' w' ∧ Step (ownH h μ) R w (ownH h' μ') R' w' ∧ Keeps k μ μ' ∧ q.at e tm' h'
theorem EndQ.pre {k : Nat} {R' : RO} {μ' : List Bind} {h' : List Ch} {w' : World} {q : Post} (st : Step (ownH h μ) R w (ownH h' μ') R' w') (kp : Keeps k μ μ') {e : Exit} {a2 : Act} {w2 : World} (hq : EndQ k R' μ' h' w' q e a2 w2) : EndQ k R μ h w q e a2 w2 := by
  obtain ⟨R2, μ2, tm2, h2, s2, st2, kp2, hq⟩ := hq
  exact ⟨R2, μ2, tm2, h2, s2, st.trans st2, kp.trans kp2, hq⟩
/-- code c, from these slots and this memory, ends as asked; the first k tags stay -/
structure Wp (P : Program) (k : Nat) (c : Code) (tm : List AV) (h : List Ch) (q : Post) : Prop where
  run : ∀ (R : RO) (μ : List Bind) (a : Act) (w : World), SR R μ tm h a w → k ≤ μ.length → c.wp P (EndQ k R μ h w q) a w
/-- behind operations -/
def Then (k : Nat) (R : RO) (μ : List Bind) (h : List Ch) (w : World) (K : List AV → List Ch → Prop) (Q : Act → World → Prop) : Prop :=
  ∀ R' μ' tm' h' a' w', SR R' μ' tm' h' a' w' → Step (ownH h μ) R w (ownH h' μ') R' w' → Keeps k μ μ' → K tm' h' → Q a' w'
/-- operations, from these slots and this memory -/
structure Ops (P : Program) (k : Nat) (all l : List Oper) (tm : List AV) (h : List Ch) (K : List AV → List Ch → Prop) : Prop where
  run : ∀ (R : RO) (μ : List Bind) (a : Act) (w : World), SR R μ tm h a w → k ≤ μ.length → ∀ Q : Exit → Act → World → Prop, Then k R μ h w K (Q .normal) → wpList P all.toArray Q l a w

section
variable {k : Nat} {tm : List AV} {q : Post} {all r l : List Oper} {K : List AV → List Ch → Prop}
theorem Wp.of_ops {id : Nat} (H : Ops P k l l tm h q.n) : Wp P k (.region id l.toArray false) tm h q :=
  ⟨fun R μ a w s hl => wp_region_list (H.run R μ a w s hl _ fun R' μ' tm' h' a' w' s' st kp hq => ⟨R', μ', tm', h', s', st, kp, hq⟩)⟩
theorem Then.pre {R' : RO} {μ' : List Bind} {h' : List Ch} {w' : World} {Q : Act → World → Prop} (hq : Then k R μ h w K Q) (st : Step (ownH h μ) R w (ownH h' μ') R' w') (kp : Keeps k μ μ') : Then k R' μ' h' w' K Q :=
  fun R2 μ2 tm2 h2 a2 w2 s2 st2 kp2 hk => hq R2 μ2 tm2 h2 a2 w2 s2 (st.trans st2) (kp.trans kp2) hk

theorem Wp.ghost {c : Code} {tm' : List AV} {h' : List Ch} (hg : Gh tm h tm' h') (H : Wp P k c tm' h' q) : Wp P k c tm h q :=
  ⟨fun R μ a w s hl => by
    obtain ⟨R', μ', H', st, e, f⟩ := hg R μ w _ s.mem s.tm
    have kp := Keeps.ext hl e
    exact wp_mono (H.run R' μ' a w ⟨H', f _ s.tm, s.dfr⟩ kp.len) fun e a w hq => hq.pre st kp⟩
theorem Ops.ghost {tm' : List AV} {h' : List Ch} (hg : Gh tm h tm' h') (H : Ops P k all l tm' h' K) : Ops P k all l tm h K :=
  ⟨fun R μ a w s hl Q hQ => by
    obtain ⟨R', μ', H', st, e, f⟩ := hg R μ w _ s.mem s.tm
    have kp := Keeps.ext hl e
    exact H.run R' μ' a w ⟨H', f _ s.tm, s.dfr⟩ kp.len Q (hQ.pre st kp)⟩
theorem Does.ghost {g : FuncId} {as as' : List AV} {h' : List Ch} {K : KT} (hg : Gh as h as' h') (H : Does P g as' h' K) : Does P g as h K :=
  ⟨H.here, fun R μ w vs hv H0 => by
    obtain ⟨R', μ', H', st, e, f⟩ := hg R μ w _ H0 hv
    refine (H.run R' μ' w vs (f _ hv) H').mono fun e2 w2 hl => ?_
    obtain ⟨v, R2, μ2, h2, av, h3, h4, h5, h6, h7, h8⟩ := hl
    exact ⟨v, R2, μ2, h2, av, h3, h4, h5, h6, e.trans h7, st.trans h8⟩⟩
theorem Does.mono {g : FuncId} {as : List AV} {K K' : KT} (H : Does P g as h K) (hk : ∀ v h, K v h → K' v h) : Does P g as h K' :=
  ⟨H.here, fun R μ w vs hv H0 => (H.run R μ w vs hv H0).mono fun e2 w2 hl => by
    obtain ⟨v, R2, μ2, h2, av, h3, h4, h5, h6, h7, h8⟩ := hl
    exact ⟨v, R2, μ2, h2, av, h3, hk _ _ h4, h5, h6, h7, h8⟩⟩

/-! ### Rules for codes -/
theorem Wp.mono {c : Code} {q' : Post} (H : Wp P k c tm h q) (hn : ∀ tm h, q.n tm h → q'.n tm h) (hx : ∀ i tm h, q.x i tm h → q'.x i tm h) (hr : ∀ tm h, q.r tm h → q'.r tm h) : Wp P k c tm h q' :=
  ⟨fun R μ a w s hl => wp_mono (H.run R μ a w s hl) fun e a w hq => by
    obtain ⟨R', μ', tm', h', s', st, kp, hq⟩ := hq
    refine ⟨R', μ', tm', h', s', st, kp, ?_⟩
    cases e <;> first | exact hn _ _ hq | exact hx _ _ _ hq | exact ⟨hq.1, hx _ _ _ hq.2⟩ | exact hr _ _ hq | exact hq.elim⟩
theorem w_skip (H : q.n tm h) : Wp P k .skip tm h q := ⟨fun R μ a w s hl => wp_skip ⟨R, μ, tm, h, s, Step.refl _ _ _, .refl hl, H⟩⟩
theorem w_ret (H : q.r tm h) : Wp P k .ret tm h q := ⟨fun R μ a w s hl => wp_ret ⟨R, μ, tm, h, s, Step.refl _ _ _, .refl hl, H⟩⟩
theorem w_exit {i : Nat} (H : i < 1000000 ∧ q.x i tm h) : Wp P k (.exit i) tm h q := ⟨fun R μ a w s hl => wp_exit ⟨R, μ, tm, h, s, Step.refl _ _ _, .refl hl, H⟩⟩
theorem w_seq_mid {a b : Code} (M : List AV → List Ch → Prop) (H : Wp P k a tm h ⟨M, q.x, q.r⟩) (H2 : ∀ tm h, M tm h → Wp P k b tm h q) : Wp P k (.seq a b) tm h q :=
  ⟨fun R μ x w s hl => wp_seq (wp_mono (H.run R μ x w s hl) fun e x' w' hq => by
    obtain ⟨R', μ', tm', h', s', st, kp, hq⟩ := hq
    cases e with
    | normal => exact wp_mono ((H2 tm' h' hq).run R' μ' x' w' s' kp.len) fun e a w hq => hq.pre st kp
    | exit i => exact ⟨R', μ', tm', h', s', st, kp, hq⟩
    | goto l => exact ⟨R', μ', tm', h', s', st, kp, hq⟩
    | ret => exact ⟨R', μ', tm', h', s', st, kp, hq⟩
    | _ => exact hq.elim)⟩
theorem w_seq {a b : Code} (H : ∀ K : List AV → List Ch → Prop, (∀ tm h, Wp P k b tm h q → K tm h) → Wp P k a tm h ⟨K, q.x, q.r⟩) : Wp P k (.seq a b) tm h q :=
  w_seq_mid _ (H _ fun _ _ h => h) fun _ _ h => h
theorem w_block {id : Nat} {c : Code} (H : Wp P k c tm h ⟨q.n, fun i tm h => if i = id then id < 1000000 ∧ q.n tm h else q.x i tm h, q.r⟩) : Wp P k (.block id c) tm h q :=
  ⟨fun R μ x w s hl => wp_block (wp_mono (H.run R μ x w s hl) fun e x' w' hq => by
    obtain ⟨R', μ', tm', h', s', st, kp, hq⟩ := hq
    cases e with
    | normal => exact ⟨R', μ', tm', h', s', st, kp, hq⟩
    | exit i =>
      simp only [Exit.inBlock]
      simp only [Post.at] at hq
      split
      · rename_i hi; rw [if_pos hi] at hq; exact ⟨R', μ', tm', h', s', st, kp, hq.2.2⟩
      · rename_i hi; rw [if_neg hi] at hq; exact ⟨R', μ', tm', h', s', st, kp, hq⟩
    | goto l =>
      simp only [Post.at] at hq
      split at hq
      · have := hq.1; omega
      · exact ⟨R', μ', tm', h', s', st, kp, hq⟩
    | ret => exact ⟨R', μ', tm', h', s', st, kp, hq⟩
    | _ => exact hq.elim)⟩
theorem w_cond {t : Nat} {a b : Code} {c : Bool} (hc : nthA tm t = .bool c) (H1 : c = true → Wp P k a (tm.set t (.bool true)) h q) (H2 : c = false → Wp P k b (tm.set t (.bool false)) h q) : Wp P k (.cond (.tmp t) a b) tm h q :=
  ⟨fun R μ x w s hl => by
    have h1 := nth_rel s hc
    have h2 : x.eval (.tmp t) = .bool c := by simp [Act.eval, h1]
    cases c with
    | true => exact wp_cond_true h2 ((H1 rfl).run R μ x w (s.tag hc) hl)
    | false => exact wp_cond_false h2 ((H2 rfl).run R μ x w (s.tag hc) hl)⟩
theorem w_cond_t {t : Nat} {a b : Code} (hc : nthA tm t = .bool true) (H : Wp P k a tm h q) (hs : tm.set t (.bool true) = tm) : Wp P k (.cond (.tmp t) a b) tm h q := w_cond hc (fun _ => by rw [hs]; exact H) (fun h => by cases h)
theorem w_cond_f {t : Nat} {a b : Code} (hc : nthA tm t = .bool false) (H : Wp P k b tm h q) (hs : tm.set t (.bool false) = tm) : Wp P k (.cond (.tmp t) a b) tm h q := w_cond hc (fun h => by cases h) (fun _ => by rw [hs]; exact H)

/-- the first time at a loop's head, and again: in state 'st x' -/
def At (k : Nat) (gt : List AV) (gh : List Ch) (tm : List AV) (h : List Ch) : Prop := ∃ tm' h', Gh tm h tm' h' ∧ ∃ σ : List Nat, σ.take k = List.range k ∧ Fit σ gt gh tm' h'
/-- again at a loop's head -/
def Back {A : Type} (k : Nat) (inv : A → Prop) (mu : A → Nat) (live : A → List AV) (heap : A → List Ch) (x : A) (tm : List AV) (h : List Ch) : Prop :=
  ∃ x', (inv x' ∧ mu x' < mu x) ∧ At k (live x') (heap x') tm h
theorem w_loop_at {c : Code} {A : Type} (inv : A → Prop) (mu : A → Nat) (live : A → List AV) (heap : A → List Ch) (x0 : A) (hi : inv x0) (h0 : At k (live x0) (heap x0) tm h)
    (H : ∀ (x : A) (E : List AV → List Ch → Prop), inv x → (∀ tm' h', Back k inv mu live heap x tm' h' → E tm' h') → Wp P k c (live x) (heap x) ⟨E, q.x, q.r⟩) : Wp P k (.loop c) tm h q :=
  ⟨fun R μ a w s hl => by
    obtain ⟨tm0', h0', hcl0, σ0, hσ0, hfit0⟩ := h0
    obtain ⟨Rc, μc, Hc, stc, ec, fc⟩ := hcl0 R μ w _ s.mem s.tm
    obtain ⟨H0, t0, st0'⟩ := hfit0.ok Hc (fc _ s.tm)
    have st0 := stc.trans st0'
    have kp0 := (Keeps.ext hl ec).trans (Keeps.pick (μ := μc) hσ0)
    refine wp_loop_rel (fun n a' w' => ∃ R' μ' x, inv x ∧ mu x = n ∧ SR R' μ' (live x) (heap x) a' w' ∧ Step (ownH h μ) R w (ownH (heap x) μ') R' w' ∧ Keeps k μ μ')
      (mu x0) ⟨Rc, _, x0, hi, rfl, ⟨H0, t0, s.dfr⟩, st0, kp0⟩ ?_
    rintro n a' w' ⟨R', μ', x, hinv, rfl, s', st, kp⟩
    refine wp_mono ((H x _ hinv fun tm' h' hb => hb).run R' μ' a' w' s' kp.len) ?_
    intro e a2 w2 hq
    obtain ⟨R2, μ2, tm2, h2, s2, st2, kp2, hq⟩ := hq
    cases e with
    | normal =>
      obtain ⟨x', ⟨hinv', hlt⟩, tc', hc', hcl, σ, hσ, hfit⟩ := hq
      obtain ⟨Rc, μc, Hc, stc, ec, fc⟩ := hcl R2 μ2 w2 _ s2.mem s2.tm
      obtain ⟨H3, t3, st3⟩ := hfit.ok Hc (fc _ s2.tm)
      exact ⟨_, hlt, Rc, _, x', hinv', rfl, ⟨H3, t3, s2.dfr⟩, (st.trans st2).trans (stc.trans st3), ((kp.trans kp2).trans (Keeps.ext kp2.len ec)).trans (Keeps.pick hσ)⟩
    | exit i => exact ⟨R2, μ2, tm2, h2, s2, st.trans st2, kp.trans kp2, hq⟩
    | goto l => exact ⟨R2, μ2, tm2, h2, s2, st.trans st2, kp.trans kp2, hq⟩
    | ret => exact ⟨R2, μ2, tm2, h2, s2, st.trans st2, kp.trans kp2, hq⟩
    | _ => exact hq.elim⟩
/-- a loop: slots that it writes are forgotten but for those named; chunks that change are named -/
theorem w_loop {c : Code} {A : Type} (inv : A → Prop) (mu : A → Nat) (live : A → List (Nat × AV)) (heap : A → List (Nat × Ch)) (x0 : A) {ws : List Nat} {tk : List AV} (hw : writes c = ws) (ht : killT tm ws = tk) (hi : inv x0)
    (h0 : At k (liveT tk (live x0)) (setH h (heap x0)) tm h)
    (H : ∀ (x : A) (E : List AV → List Ch → Prop) t, inv x → (∀ tm' h', Back k inv mu (fun x => liveT tk (live x)) (fun x => setH h (heap x)) x tm' h' → E tm' h') → liveT tk (live x) = t →
      Wp P k c t (setH h (heap x)) ⟨E, q.x, q.r⟩) : Wp P k (.loop c) tm h q :=
  w_loop_at inv mu (fun x => liveT tk (live x)) (fun x => setH h (heap x)) x0 hi h0 fun x E hx hE => H x E _ hx hE rfl
/-- ways meet: in the middle a general state -/
def Meet {A : Type} (k : Nat) (inv : A → Prop) (live : A → List AV) (heap : A → List Ch) (tm : List AV) (h : List Ch) : Prop := ∃ x, inv x ∧ At k (live x) (heap x) tm h
theorem w_at {c : Code} {gt : List AV} {gh : List Ch} (hat : At k gt gh tm h) (H : Wp P k c gt gh q) : Wp P k c tm h q :=
  ⟨fun R μ a w s hl => by
    obtain ⟨tm', h', hcl, σ, hσ, hf⟩ := hat
    obtain ⟨Rc, μc, Hc, stc, ec, fc⟩ := hcl R μ w _ s.mem s.tm
    obtain ⟨H2, t2, st2⟩ := hf.ok Hc (fc _ s.tm)
    have kp := (Keeps.ext hl ec).trans (Keeps.pick (μ := μc) hσ)
    exact wp_mono (H.run Rc _ a w ⟨H2, t2, s.dfr⟩ kp.len) fun e a w hq => hq.pre (stc.trans st2) kp⟩
/-- ways meet behind a: slots that it writes are forgotten but for those named, chunks that change are named -/
theorem w_meet {a b : Code} {A : Type} (inv : A → Prop) (live : A → List (Nat × AV)) (heap : A → List (Nat × Ch)) {ws : List Nat} {tk : List AV} (hw : writes a = ws) (ht : killT tm ws = tk)
    (H : ∀ K : List AV → List Ch → Prop, (∀ tm' h', Meet k inv (fun x => liveT tk (live x)) (fun x => setH h (heap x)) tm' h' → K tm' h') → Wp P k a tm h ⟨K, q.x, q.r⟩)
    (H2 : ∀ x t, inv x → liveT tk (live x) = t → Wp P k b t (setH h (heap x)) q) : Wp P k (.seq a b) tm h q :=
  w_seq_mid _ (H _ fun _ _ h => h) fun _ _ ⟨x, hx, hat⟩ => w_at hat (H2 x _ hx rfl)
end
end Go.V

namespace Go.V
open Go
section
variable {P : Program} {k : Nat} {tm : List AV} {h : List Ch} {q : Post}
theorem w_goto {l : Nat} (H : q.x (l + 1000000) tm h) : Wp P k (.goto l) tm h q := ⟨fun R μ a w s hl => wp_goto ⟨R, μ, tm, h, s, Step.refl _ _ _, .refl hl, H⟩⟩
end
end Go.V

namespace Go.V
section
variable [ETab] {P : Program} {k : Nat} {tm : List AV} {h : List Ch} {q : Post} {all r : List Oper} {K : List AV → List Ch → Prop}
omit [ETab] in
theorem w_reg {id : Nat} {l : List Oper} (H : Ops P k l l tm h q.n) : Wp P k (.region id l.toArray false) tm h q := Wp.of_ops H
omit [ETab] in
theorem w_nil (H : K tm h) : Ops P k all [] tm h K := ⟨fun R μ a w s hl Q hQ => hQ R μ tm h a w s (Step.refl _ _ _) (.refl hl) H⟩
theorem ops_go {o : Oper} (H : opK P o.op tm h fun v h => Ops P k all r (putA tm o.dst v) h K) {R : RO} {μ : List Bind} {a : Act} {w : World} (s : SR R μ tm h a w) (hl : k ≤ μ.length) {Q : Exit → Act → World → Prop} (hQ : Then k R μ h w K (Q .normal)) : Oper.wp P o a w (wpList P all.toArray Q r) Q := by
  refine Oper.wp_mono (fun a' w' haft => ?_) (opK_ok s.mem s.tm H (Q := Q))
  obtain ⟨R', μ', h', av, v, hk, rfl, hr, H', he, hst⟩ := haft
  have kp := Keeps.ext hl he
  exact hk.run R' μ' _ w' (s.put o.dst hr H' hst.ro he) kp.len Q (hQ.pre hst kp)
omit [ETab] in
theorem ops_skip {o : Oper} (H : Ops P k all r (putA tm o.dst (.lit undef)) h K) {R : RO} {μ : List Bind} {a : Act} {w : World} (s : SR R μ tm h a w) (hl : k ≤ μ.length) {Q : Exit → Act → World → Prop} (hQ : Then k R μ h w K (Q .normal)) : wpList P all.toArray Q r (a.put o.dst undef) w :=
  H.run R μ _ w (s.put o.dst .lit s.mem (RO.le.refl R) (Ext.refl μ)) hl Q hQ
theorem w_op {d : Option Nat} {op : Op} {ty : TypeId} {pos : String} {af : Array Edge} (H : ∀ K' : KT, (∀ v h, (∀ tm', tm' = putA tm d v → Ops P k all r tm' h K) → K' v h) → opK P op tm h K') :
    Ops P k all (⟨d, op, ty, pos, af, none⟩ :: r) tm h K :=
  ⟨fun R μ a w s hl Q hQ => by
    simp only [wpList]
    rw [if_pos (by simp [Region.wanted])]
    exact .inl (ops_go (H _ fun v h hh => hh _ rfl) s hl hQ)⟩
omit [ETab] in
theorem wanted_of {j t : Nat} {w b : Bool} {R : RO} {μ : List Bind} {a : Act} {wo : World} (hd : dstAt all j = some t) (hb : nthA tm t = .bool b) (s : SR R μ tm h a wo) {o : Oper} (hg : o.guard = some (j, w)) : Region.wanted o (yielded all.toArray a.tmps) = (b == w) := by
  have hdo : (all.toArray[j]?).bind (·.dst) = some t := by rw [← hd, dstAt_get]; simp
  have h1 := nth_rel s hb
  have hy : yielded all.toArray a.tmps j = some b := by
    unfold yielded
    rw [hdo, Option.bind_some, h1]
  unfold Region.wanted
  rw [hg]
  simp only [hy]
  cases b <;> cases w <;> rfl
theorem w_run {d : Option Nat} {op : Op} {ty : TypeId} {pos : String} {af : Array Edge} {j t : Nat} {w : Bool} (hd : dstAt all j = some t) (hb : nthA tm t = .bool w) (H : ∀ K' : KT, (∀ v h, (∀ tm', tm' = putA tm d v → Ops P k all r tm' h K) → K' v h) → opK P op tm h K') :
    Ops P k all (⟨d, op, ty, pos, af, some (j, w)⟩ :: r) tm h K :=
  ⟨fun R μ a wo s hl Q hQ => by
    simp only [wpList]
    rw [wanted_of hd hb s rfl, if_pos (by cases w <;> rfl)]
    exact .inl (ops_go (H _ fun v h hh => hh _ rfl) s hl hQ)⟩
/-- a guard that does not want the operation -/
def NoRun (w : Bool) (a : AV) : Prop := a = .bool (!w) ∨ a = .lit undef
omit [ETab] in
theorem nth_lit {R : RO} {μ : List Bind} {a : Act} {wo : World} (s : SR R μ tm h a wo) {t : Nat} {v : Value} (hb : nthA tm t = .lit v) : a.tmps[t]? = some v := by
  have h1 := s.tm
  cases e : a.tmps[t]? with
  | none =>
    have : tm.length ≤ t := by rw [h1.len]; simpa using e
    rw [nthA_none tm t this] at hb
    simp at hb
  | some u =>
    have := h1.nth t (v := u) (by simpa using e)
    rw [hb] at this
    cases this; rfl
omit [ETab] in
theorem wanted_no {j t : Nat} {w : Bool} {R : RO} {μ : List Bind} {a : Act} {wo : World} (hd : dstAt all j = some t) (hb : NoRun w (nthA tm t)) (s : SR R μ tm h a wo) {o : Oper} (hg : o.guard = some (j, w)) : Region.wanted o (yielded all.toArray a.tmps) = false := by
  rcases hb with hb | hb
  · rw [wanted_of hd hb s hg]
    cases w <;> rfl
  · have hdo : (all.toArray[j]?).bind (·.dst) = some t := by rw [← hd, dstAt_get]; simp
    have h1 := nth_lit s hb
    have hy : yielded all.toArray a.tmps j = none := by
      unfold yielded
      rw [hdo, Option.bind_some, h1]
      rfl
    unfold Region.wanted
    rw [hg]
    simp only [hy]
    rfl
omit [ETab] in
theorem w_pass {d : Option Nat} {op : Op} {ty : TypeId} {pos : String} {af : Array Edge} {j t : Nat} {w : Bool} (hd : dstAt all j = some t) (hb : nthA tm t = .bool (!w)) (H : ∀ tm', tm' = putA tm d (.lit undef) → Ops P k all r tm' h K) :
    Ops P k all (⟨d, op, ty, pos, af, some (j, w)⟩ :: r) tm h K :=
  ⟨fun R μ a wo s hl Q hQ => by
    simp only [wpList]
    rw [wanted_no hd (.inl hb) s rfl, if_neg (by simp)]
    exact ops_skip (o := ⟨d, op, ty, pos, af, some (j, w)⟩) (H _ rfl) s hl hQ⟩
omit [ETab] in
theorem w_passu {d : Option Nat} {op : Op} {ty : TypeId} {pos : String} {af : Array Edge} {j t : Nat} {w : Bool} (hd : dstAt all j = some t) (hb : nthA tm t = .lit undef) (H : ∀ tm', tm' = putA tm d (.lit undef) → Ops P k all r tm' h K) :
    Ops P k all (⟨d, op, ty, pos, af, some (j, w)⟩ :: r) tm h K :=
  ⟨fun R μ a wo s hl Q hQ => by
    simp only [wpList]
    rw [wanted_no hd (.inr hb) s rfl, if_neg (by simp)]
    exact ops_skip (o := ⟨d, op, ty, pos, af, some (j, w)⟩) (H _ rfl) s hl hQ⟩
omit [ETab] in
/-- a boolean that is not known is looked at -/
theorem w_split {j t : Nat} {w b : Bool} {o : Oper} (_hg : o.guard = some (j, w)) (_hd : dstAt all j = some t) (hb : nthA tm t = .bool b)
    (H1 : b = true → ∀ tm', tm' = tm.set t (.bool true) → Ops P k all (o :: r) tm' h K) (H2 : b = false → ∀ tm', tm' = tm.set t (.bool false) → Ops P k all (o :: r) tm' h K) : Ops P k all (o :: r) tm h K :=
  ⟨fun R μ a wo s hl Q hQ => by
    cases b with
    | true => exact (H1 rfl _ rfl).run R μ a wo (s.tag hb) hl Q hQ
    | false => exact (H2 rfl _ rfl).run R μ a wo (s.tag hb) hl Q hQ⟩

/-! ### Functions -/
def resK (P : Program) : List ResultVar → List AV → List Ch → (List AV → Prop) → Prop
  | [], _, _, K => K []
  | .tmp t :: r, tm, h, K => resK P r tm h fun l => K (nthA tm t :: l)
  | .cell a t :: r, tm, h, K => loadK P t (nthA tm a) h fun v => resK P r tm h fun l => K (v :: l)
def retA : List AV → AV
  | [a] => a
  | l => .tup l
omit [ETab] in
theorem tmp_rel {R : RO} {μ : List Bind} {tm : List AV} {a : Act} (h : LRel R μ tm a.tmps.toList) (t : Nat) : Rel R μ (nthA tm t) (a.tmps.getD t undef) := evA_rel h (.tmp t)
omit [ETab] in
theorem resK_ok {R : RO} {μ : List Bind} {w : World} (H : HOk R μ h w) {tm : List AV} {a : Act} (ht : LRel R μ tm a.tmps.toList) : ∀ (rs : List ResultVar) {K : List AV → Prop}, resK P rs tm h K →
    ∃ l vs, K l ∧ LRel R μ l vs ∧ (rs.mapM fun r => (match r with | .tmp t => pure (a.tmps.getD t undef) | .cell b t => do loadVar t (← asAddr (a.tmps.getD b undef)) : Sem Value)).run P w = .ok vs w
  | [], K, hK => ⟨[], [], hK, .nil, rfl⟩
  | .tmp t :: r, K, hK => by
    obtain ⟨l, vs, h1, h2, h3⟩ := resK_ok H ht r hK
    refine ⟨_, _, h1, .cons (tmp_rel ht t) h2, ?_⟩
    simp only [List.mapM_cons, Sem.run_bind, Sem.run_pure, Result.andThen_ok, h3]
  | .cell b t :: r, K, hK => by
    simp only [resK] at hK
    obtain ⟨v, av, hk, hr, hrun⟩ := loadK_ok H (tmp_rel ht b) hK
    obtain ⟨l, vs, h1, h2, h3⟩ := resK_ok H ht r hk
    refine ⟨_, _, h1, .cons hr h2, ?_⟩
    have hload : (do loadVar t (← asAddr (a.tmps.getD b undef)) : Sem Value).run P w = .ok v w := by
      rw [← hrun]
      have hnp := tmp_rel ht b
      unfold Instr.loadAt
      unfold loadK at hK
      generalize a.tmps.getD b undef = u at hnp
      split at hK
      · rename_i he; rw [he] at hnp; cases hnp; rfl
      · rename_i he; rw [he] at hnp; cases hnp; rfl
      · rename_i he; rw [he] at hnp; cases hnp; rfl
      · exact hK.elim
    simp only [List.mapM_cons, Sem.run_bind, hload, Result.andThen_ok, h3, Sem.run_pure]


/-- what function g does over this memory, the first k tags staying -/
structure DoesK (P : Program) (k : Nat) (g : FuncId) (args : List AV) (h : List Ch) (K : KT) : Prop where
  here : Here P g
  run : ∀ (R : RO) (μ : List Bind) (w : World) (vs : List Value), LRel R μ args vs → HOk R μ h w → k ≤ μ.length → Calls P g vs.toArray w fun e w' =>
    ∃ v R' μ' h' av, e = .returned v ∧ K av h' ∧ Rel R' μ' av v ∧ HOk R' μ' h' w' ∧ Keeps k μ μ' ∧ Step (ownH h μ) R w (ownH h' μ') R' w'
omit [ETab] in
theorem Does.of_K {g : FuncId} {args : List AV} {K : KT} (H : DoesK P h.length g args h K) : Does P g args h K :=
  ⟨H.here, fun R μ w vs hv H0 => (H.run R μ w vs hv H0 (by rw [H0.rel.len]; exact Nat.le_refl _)).mono fun e w' hr => by
    obtain ⟨v, R', μ', h', av, rfl, h1, h2, h3, h4, h5⟩ := hr
    rw [H0.rel.len] at h4
    exact ⟨v, R', μ', h', av, rfl, h1, h2, h3, h4.toExt, h5⟩⟩
omit [ETab] in
/-- the body is walked -/
theorem w_body {g : FuncId} {fn : Func} (hf : P.funcs[g]? = some fn) {c : Code} (hb : fn.body = some c) (hn : (fn.name == "runtime.NumGoroutine") = false) {rs : List ResultVar} (hr : fn.results.toList = rs) {args : List AV} (ht : args ++ List.replicate (fn.ntmps - args.length) .any = tm) {K : KT}
    (H : ∀ K' : List AV → List Ch → Prop, (∀ tm h, resK P rs tm h (fun l => K (retA l) h) → K' tm h) → Wp P k c tm h ⟨K', fun _ _ _ => False, K'⟩) : DoesK P k g args h K := by
  refine ⟨⟨fn, hf, by simp [hb], hn⟩, fun R μ w vs hv H0 hk => calls_of_wp hf hb ?_⟩
  have hrep : ∀ n, LRel R μ (List.replicate n .any) (List.replicate n undef) := by
    intro n
    induction n with
    | zero => exact .nil
    | succ n ih => exact .cons .any ih
  have s : SR R μ tm h { tmps := vs.toArray ++ Array.replicate (fn.ntmps - vs.toArray.size) undef, defers := [] } w := by
    refine ⟨H0, ?_, rfl⟩
    simp only [Array.toList_append, Array.toList_replicate, List.size_toArray]
    rw [← hv.len, ← ht]
    exact hv.app (hrep _)
  have fin : ∀ (a' : Act) (w' : World) (R' : RO) (μ' : List Bind) (tm' : List AV) (h' : List Ch), SR R' μ' tm' h' a' w' → Step (ownH h μ) R w (ownH h' μ') R' w' → Keeps k μ μ' → resK P rs tm' h' (fun l => K (retA l) h') →
      a'.defers = [] ∧ ∃ v, (results fn a'.tmps).run P w' = .ok v w' ∧ ∃ v' R' μ' h' av, Ending.returned v = .returned v' ∧ K av h' ∧ Rel R' μ' av v' ∧ HOk R' μ' h' w' ∧ Keeps k μ μ' ∧ Step (ownH h μ) R w (ownH h' μ') R' w' := by
    intro a' w' R' μ' tm' h' s' st kp hr'
    obtain ⟨l, us, h1, h2, h3⟩ := resK_ok s'.mem s'.tm _ hr'
    have hm : (fn.results.mapM fun r => (match r with | .tmp t => pure (a'.tmps.getD t undef) | .cell b t => do loadVar t (← asAddr (a'.tmps.getD b undef)) : Go.Sem Value)).run P w' = .ok us.toArray w' := by
      rw [← Array.toArray_toList (xs := fn.results), List.mapM_toArray, Sem.run_map, hr, h3]
      rfl
    refine ⟨s'.dfr, if hu : us.toArray.size = 1 then us.toArray[0] else .tuple us.toArray, ?_, ?_⟩
    · simp only [results, Sem.run_bind]
      exact (congrArg (fun (r : Result (Array Value)) => r.andThen fun a w' => Sem.run P (pure (if h : a.size = 1 then a[0] else Value.tuple a)) w') hm).trans rfl
    · refine ⟨_, R', μ', h', retA l, rfl, h1, ?_, s'.mem, kp, st⟩
      cases h2 with
      | nil => simp [retA]; exact .tup .nil
      | cons ha hs =>
        cases hs with
        | nil => simpa [retA] using ha
        | cons hb hs =>
          rw [dif_neg (by simp)]
          exact .tup (.cons ha (.cons hb hs))
  refine wp_mono ((H _ fun _ _ h => h).run R μ _ w s hk) ?_
  intro e a' w' hq
  obtain ⟨R', μ', tm', h', s', st, kp, hq⟩ := hq
  cases e with
  | normal => exact fin a' w' R' μ' tm' h' s' st kp hq
  | ret => exact fin a' w' R' μ' tm' h' s' st kp hq
  | exit i => exact hq.2.elim
  | _ => exact hq.elim
end
end Go.V

namespace Go.V

variable {P : Program}

def tmpOf : Operand → List Nat
  | .tmp t => [t]
  | _ => []
/-- slots that an operation names -/
def namesO (all : List Oper) (o : Oper) : List Nat :=
  (o.op.operands.toList.flatMap tmpOf) ++ ((match o.guard with | some (j, _) => (dstAt all j).toList | none => []) ++ o.dst.toList)
def maskOf (o : Oper) (acc : List Nat) : Nat := o.after.toList.foldl (fun s e => if Region.binds .any e then s ||| 2 ^ e.on ||| acc.getD e.on 0 else s) 0
def reachT : List Oper → List Nat → List Nat
  | [], acc => acc
  | o :: r, acc => reachT r (acc ++ [maskOf o acc])
/-- operation j stands before i in every order -/
def reachB (all : List Oper) (i j : Nat) : Bool := ((reachT all []).getD i 0).testBit j
def chkDst (T : List Nat) (i : Nat) (ns : List Nat) : Nat → List Oper → Bool
  | _, [] => true
  | j, o :: r => (j == i || (match o.dst with
    | some d => !ns.contains d || (if j < i then (T.getD i 0).testBit j else (T.getD j 0).testBit i)
    | none => true)) && chkDst T i ns (j + 1) r
def chkAll (all : List Oper) (T : List Nat) : Nat → List Oper → Bool
  | _, [] => true
  | i, o :: r => (o.after.toList.all fun e => !Region.binds .any e || decide (e.on < i)) && chkDst T i (namesO all o) 0 all && chkAll all T (i + 1) r
def chkR (all : List Oper) : Bool := chkAll all (reachT all []) 0 all

theorem no_of {b : Bool} (h : b = true) {A : Prop} (hc : b = false) : A := by rw [h] at hc; cases hc
theorem mask_bit {o : Oper} {acc : List Nat} {j : Nat} (h : (maskOf o acc).testBit j = true) : ∃ e ∈ o.after.toList, Region.binds .any e = true ∧ (e.on = j ∨ (acc.getD e.on 0).testBit j = true) := by
  unfold maskOf at h
  have key : ∀ (l : List Edge) (s : Nat), (l.foldl (fun s e => if Region.binds .any e then s ||| 2 ^ e.on ||| acc.getD e.on 0 else s) s).testBit j = true → s.testBit j = true ∨ ∃ e ∈ l, Region.binds .any e = true ∧ (e.on = j ∨ (acc.getD e.on 0).testBit j = true) := by
    intro l
    induction l with
    | nil => intro s h; exact .inl h
    | cons e l ih =>
      intro s h
      rw [List.foldl_cons] at h
      rcases ih _ h with h1 | ⟨e', h1, h2⟩
      · split at h1
        · rename_i hb
          rw [Nat.testBit_or, Nat.testBit_or, Bool.or_eq_true, Bool.or_eq_true] at h1
          rcases h1 with (h1 | h1) | h1
          · exact .inl h1
          · refine .inr ⟨e, by simp, hb, .inl ?_⟩
            rw [Nat.testBit_two_pow] at h1
            simpa using h1
          · exact .inr ⟨e, by simp, hb, .inr h1⟩
        · exact .inl h1
      · exact .inr ⟨e', by simp [h1], h2⟩
  rcases key _ _ h with h1 | h1
  · simp at h1
  · exact h1
theorem reachT_bit {all : List Oper} {i j : Nat} (h : reachB all i j = true) : ∃ o, all[i]? = some o ∧ ∃ e ∈ o.after.toList, Region.binds .any e = true ∧ (e.on = j ∨ reachB all e.on j = true) := by
  have key : ∀ (r pre : List Oper) (acc : List Nat), all = pre ++ r → acc.length = pre.length →
      (∀ i j, (acc.getD i 0).testBit j = true → ∃ o, all[i]? = some o ∧ ∃ e ∈ o.after.toList, Region.binds .any e = true ∧ (e.on = j ∨ (acc.getD e.on 0).testBit j = true)) →
      ∀ i j, ((reachT r acc).getD i 0).testBit j = true → ∃ o, all[i]? = some o ∧ ∃ e ∈ o.after.toList, Region.binds .any e = true ∧ (e.on = j ∨ ((reachT r acc).getD e.on 0).testBit j = true) := by
    intro r
    induction r with
    | nil => intro pre acc _ _ h; exact h
    | cons o r ih =>
      intro pre acc hall hlen hacc
      simp only [reachT]
      refine ih (pre ++ [o]) (acc ++ [maskOf o acc]) (by simp [hall]) (by simp [hlen]) ?_
      have grow : ∀ k j, (acc.getD k 0).testBit j = true → ((acc ++ [maskOf o acc]).getD k 0).testBit j = true := by
        intro k j hk
        by_cases hlt : k < acc.length
        · rw [List.getD_eq_getElem?_getD, List.getElem?_append_left hlt, ← List.getD_eq_getElem?_getD]; exact hk
        · rw [List.getD_eq_getElem?_getD, List.getElem?_eq_none (by omega)] at hk
          simp at hk
      intro i j hij
      by_cases hlt : i < acc.length
      · have hij2 : (acc.getD i 0).testBit j = true := by
          rw [List.getD_eq_getElem?_getD, List.getElem?_append_left hlt, ← List.getD_eq_getElem?_getD] at hij; exact hij
        obtain ⟨o', h1, e, h2, h3, h4⟩ := hacc i j hij2
        exact ⟨o', h1, e, h2, h3, h4.imp id (grow _ _)⟩
      · by_cases he : i = acc.length
        · have hij2 : (maskOf o acc).testBit j = true := by
            rw [List.getD_eq_getElem?_getD, he, List.getElem?_append_right (Nat.le_refl _)] at hij
            simpa using hij
          obtain ⟨e, h2, h3, h4⟩ := mask_bit hij2
          exact ⟨o, by rw [hall, he, hlen]; simp, e, h2, h3, h4.imp id (grow _ _)⟩
        · rw [List.getD_eq_getElem?_getD, List.getElem?_eq_none (by simp; omega)] at hij
          simp at hij
  exact key all [] [] rfl rfl (fun i j h => by simp at h) i j h

structure ChkR (all : List Oper) : Prop where
  lt : ∀ (i : Nat) (o : Oper), all[i]? = some o → ∀ e ∈ o.after.toList, Region.binds .any e = true → e.on < i
  dst : ∀ (i j : Nat) (o o' : Oper) (d : Nat), all[i]? = some o → all[j]? = some o' → j ≠ i → o'.dst = some d → d ∈ namesO all o → (j < i ∧ reachB all i j = true) ∨ (i < j ∧ reachB all j i = true)
theorem chkR_ok {all : List Oper} (h : chkR all = true) : ChkR all := by
  have hd : ∀ (T : List Nat) (i : Nat) (ns : List Nat) (r : List Oper) (j0 : Nat), chkDst T i ns j0 r = true → ∀ j o' d, r[j]? = some o' → j0 + j ≠ i → o'.dst = some d → d ∈ ns →
      (j0 + j < i ∧ (T.getD i 0).testBit (j0 + j) = true) ∨ (i < j0 + j ∧ (T.getD (j0 + j) 0).testBit i = true) := by
    intro T i ns r
    induction r with
    | nil => intro j0 _ j o' d h; simp at h
    | cons o r ih =>
      intro j0 h j o' d hj hne hdst hmem
      simp only [chkDst, Bool.and_eq_true, Bool.or_eq_true, beq_iff_eq] at h
      cases j with
      | zero =>
        simp only [List.getElem?_cons_zero, Option.some.injEq] at hj
        subst hj
        rw [hdst] at h
        rcases h.1 with h1 | h1
        · exact absurd h1 hne
        · have hc : ns.contains d = true := by simpa using hmem
          simp only [hc, Bool.not_true, Bool.false_or] at h1
          split at h1
          · rename_i hlt; exact .inl ⟨hlt, h1⟩
          · rename_i hlt; exact .inr ⟨by simp at hne ⊢; omega, h1⟩
      | succ j =>
        have := ih (j0 + 1) h.2 j o' d (by simpa using hj) (by omega) hdst hmem
        rwa [show j0 + 1 + j = j0 + (j + 1) from by omega] at this
  have ha : ∀ (r : List Oper) (i0 : Nat), chkAll all (reachT all []) i0 r = true → ∀ i o, r[i]? = some o → (∀ e ∈ o.after.toList, Region.binds .any e = true → e.on < i0 + i) ∧ chkDst (reachT all []) (i0 + i) (namesO all o) 0 all = true := by
    intro r
    induction r with
    | nil => intro i0 _ i o h; simp at h
    | cons o r ih =>
      intro i0 h i o' hi
      simp only [chkAll, Bool.and_eq_true, List.all_eq_true, Bool.or_eq_true, Bool.not_eq_true', decide_eq_true_eq] at h
      cases i with
      | zero =>
        simp only [List.getElem?_cons_zero, Option.some.injEq] at hi
        subst hi
        exact ⟨fun e he hb => (h.1.1 e he).resolve_left (by simp [hb]), h.1.2⟩
      | succ i =>
        have := ih (i0 + 1) h.2 i o' (by simpa using hi)
        rwa [show i0 + 1 + i = i0 + (i + 1) from by omega] at this
  refine ⟨fun i o hi e he hb => by have := (ha all 0 h i o hi).1 e he hb; omega, fun i j o o' d hi hj hne hdst hmem => ?_⟩
  have h1 := (ha all 0 h i o hi).2
  rw [Nat.zero_add] at h1
  have := hd _ _ _ _ 0 h1 j o' d hj (by omega) hdst hmem
  rwa [Nat.zero_add] at this

/-! ### Sets of operations that are done -/
def Closed (all : List Oper) (D : Nat → Bool) : Prop := ∀ i, D i = true → ∀ o, all[i]? = some o → ∀ e ∈ o.after.toList, Region.binds .any e = true → D e.on = true
def Ready (all : List Oper) (D : Nat → Bool) (i : Nat) : Prop := D i = false ∧ ∀ o, all[i]? = some o → ∀ e ∈ o.after.toList, Region.binds .any e = true → D e.on = true
def updD (D : Nat → Bool) (i : Nat) : Nat → Bool := fun j => decide (j = i) || D j
theorem closed_reach {all : List Oper} (C : ChkR all) {D : Nat → Bool} (hD : Closed all D) : ∀ (i : Nat), (∀ o, all[i]? = some o → ∀ e ∈ o.after.toList, Region.binds .any e = true → D e.on = true) → ∀ j, reachB all i j = true → D j = true := by
  intro i
  induction i using Nat.strongRecOn with
  | _ i ih =>
    intro hi j hj
    obtain ⟨o, ho, e, he, hb, h1⟩ := reachT_bit hj
    have hon := hi o ho e he hb
    rcases h1 with h1 | h1
    · rw [← h1]; exact hon
    · exact ih e.on (C.lt i o ho e he hb) (hD e.on hon) j h1
theorem Ready.reach {all : List Oper} (C : ChkR all) {D : Nat → Bool} (hD : Closed all D) {i : Nat} (h : Ready all D i) {j : Nat} (hj : reachB all i j = true) : D j = true := closed_reach C hD i h.2 j hj
theorem Closed.reach {all : List Oper} (C : ChkR all) {D : Nat → Bool} (hD : Closed all D) {i : Nat} (h : D i = true) {j : Nat} (hj : reachB all i j = true) : D j = true := closed_reach C hD i (hD i h) j hj
theorem Closed.upd {all : List Oper} {D : Nat → Bool} (hD : Closed all D) {i : Nat} (h : Ready all D i) : Closed all (updD D i) := by
  intro j hj o ho e he hb
  unfold updD at *
  simp only [Bool.or_eq_true, decide_eq_true_eq] at hj ⊢
  rcases hj with rfl | hj
  · exact .inr (h.2 o ho e he hb)
  · exact .inr (hD j hj o ho e he hb)

/-! ### Slots behind the operations that are done -/
def putsD (D : Nat → Bool) : List Oper → List AV → Nat → List AV → List AV
  | o :: os, v :: vs, i, tm => putsD D os vs (i + 1) (if D i then putA tm o.dst v else tm)
  | _, _, _, tm => tm
def valD (D : Nat → Bool) (x : Nat) : List Oper → List AV → Nat → AV → AV
  | o :: os, v :: vs, i, a => valD D x os vs (i + 1) (if D i ∧ o.dst = some x then v else a)
  | _, _, _, a => a
theorem putA_len (tm : List AV) (d : Option Nat) (v : AV) : (putA tm d v).length = tm.length := by cases d <;> simp [putA]
theorem nthA_set (tm : List AV) (d : Nat) (v : AV) (x : Nat) (hx : x < tm.length) : nthA (tm.set d v) x = if d = x then v else nthA tm x := by
  induction tm generalizing d x with
  | nil => simp at hx
  | cons a l ih =>
    cases d with
    | zero => cases x <;> simp [nthA]
    | succ d =>
      cases x with
      | zero => simp [nthA]
      | succ x => simpa [nthA] using ih d x (by simpa using hx)
theorem nthA_put (tm : List AV) (d : Option Nat) (v : AV) (x : Nat) (hx : x < tm.length) : nthA (putA tm d v) x = if d = some x then v else nthA tm x := by
  cases d with
  | none => simp [putA]
  | some d => simpa [putA] using nthA_set tm d v x hx
theorem putsD_len (D : Nat → Bool) : ∀ (os : List Oper) (vs : List AV) (i : Nat) (tm : List AV), (putsD D os vs i tm).length = tm.length
  | [], _, _, _ => rfl
  | _ :: _, [], _, _ => rfl
  | o :: os, v :: vs, i, tm => by
    simp only [putsD]
    rw [putsD_len D os vs]
    split
    · exact putA_len ..
    · rfl
theorem nthA_puts (D : Nat → Bool) (x : Nat) : ∀ (os : List Oper) (vs : List AV) (i : Nat) (tm : List AV), x < tm.length → nthA (putsD D os vs i tm) x = valD D x os vs i (nthA tm x)
  | [], _, _, _, _ => by cases ‹List AV› <;> rfl
  | _ :: _, [], _, _, _ => rfl
  | o :: os, v :: vs, i, tm, hx => by
    simp only [putsD, valD]
    rw [nthA_puts D x os vs (i + 1) _ (by split <;> simp [putA_len, hx])]
    congr 1
    by_cases hd : D i = true
    · simp only [hd, if_true, true_and]
      exact nthA_put tm o.dst v x hx
    · simp [hd]
theorem valD_eq {D D' : Nat → Bool} {x : Nat} : ∀ (os : List Oper) (vs : List AV) (i : Nat) (a : AV), (∀ j o, os[j]? = some o → o.dst = some x → D (i + j) = D' (i + j)) → valD D x os vs i a = valD D' x os vs i a
  | [], vs, _, _, _ => by cases vs <;> rfl
  | _ :: _, [], _, _, _ => rfl
  | o :: os, v :: vs, i, a, h => by
    simp only [valD]
    have h0 := h 0 o (by simp)
    have e : (if D i = true ∧ o.dst = some x then v else a) = if D' i = true ∧ o.dst = some x then v else a := by
      by_cases hd : o.dst = some x
      · have := h0 hd
        simp only [Nat.add_zero] at this
        rw [this]
      · simp [hd]
    rw [e]
    refine valD_eq os vs (i + 1) _ fun j o' hj hd => ?_
    have := h (j + 1) o' (by simpa using hj) hd
    rwa [show i + 1 + j = i + (j + 1) from by omega]
theorem valD_last {D : Nat → Bool} {x : Nat} : ∀ (os : List Oper) (vs : List AV) (i : Nat) (a : AV) (k : Nat) (o : Oper) (v : AV), os[k]? = some o → vs[k]? = some v → o.dst = some x → D (i + k) = true → (∀ j o', k < j → os[j]? = some o' → o'.dst = some x → D (i + j) = false) → valD D x os vs i a = v
  | [], _, _, _, k, _, _, h, _, _, _, _ => by simp at h
  | _ :: _, [], _, _, k, _, _, _, h, _, _, _ => by simp at h
  | o :: os, v :: vs, i, a, 0, o0, v0, ho, hv, hd, hD, hl => by
    simp at ho hv
    subst ho; subst hv
    simp only [Nat.add_zero] at hD
    simp only [valD, hD, hd, and_self, if_true]
    have e : valD D x os vs (i + 1) v = valD (fun _ => false) x os vs (i + 1) v := valD_eq _ _ _ _ fun j o' hj hd' => by
      have := hl (j + 1) o' (by omega) (by simpa using hj) hd'
      rwa [show i + 1 + j = i + (j + 1) from by omega]
    rw [e]
    have key : ∀ (os : List Oper) (vs : List AV) (i : Nat) (a : AV), valD (fun _ => false) x os vs i a = a := by
      intro os
      induction os with
      | nil => intro vs i a; cases vs <;> rfl
      | cons o os ih =>
        intro vs i a
        cases vs with
        | nil => rfl
        | cons v vs => simp [valD, ih]
    exact key ..
  | o :: os, v :: vs, i, a, k + 1, o0, v0, ho, hv, hd, hD, hl => by
    simp only [valD]
    exact valD_last os vs (i + 1) _ k o0 v0 (by simpa using ho) (by simpa using hv) hd (by rwa [show i + 1 + k = i + (k + 1) from by omega]) fun j o' hj ho' hd' => by
      have := hl (j + 1) o' (by omega) (by simpa using ho') hd'
      rwa [show i + 1 + j = i + (j + 1) from by omega]
theorem ext_nthA : ∀ {a b : List AV}, a.length = b.length → (∀ x, x < a.length → nthA a x = nthA b x) → a = b
  | [], [], _, _ => rfl
  | [], _ :: _, h, _ => by simp at h
  | _ :: _, [], h, _ => by simp at h
  | x :: a, y :: b, h, hx => by
    have h0 := hx 0 (by simp)
    simp only [nthA] at h0
    rw [h0, ext_nthA (a := a) (b := b) (by simpa using h) fun z hz => by simpa [nthA] using hx (z + 1) (by simpa using hz)]
def ltD (i : Nat) : Nat → Bool := fun j => decide (j < i)

section
variable {all : List Oper} (C : ChkR all) {vs : List AV} {tm0 : List AV} {D : Nat → Bool} (hD : Closed all D) {i : Nat} {o : Oper} (ho : all[i]? = some o) (hr : Ready all D i)
include C hD ho hr
theorem agree {x : Nat} (hx : x ∈ namesO all o) : nthA (putsD D all vs 0 tm0) x = nthA (putsD (ltD i) all vs 0 tm0) x := by
  by_cases hlt : x < tm0.length
  · rw [nthA_puts _ _ _ _ _ _ hlt, nthA_puts _ _ _ _ _ _ hlt]
    refine valD_eq _ _ _ _ fun j o' hj hd => ?_
    rw [Nat.zero_add]
    by_cases e : j = i
    · subst e
      simp [ltD, hr.1]
    · rcases C.dst i j o o' x ho hj e hd hx with ⟨h1, h2⟩ | ⟨h1, h2⟩
      · rw [hr.reach C hD h2]; simp [ltD, h1]
      · cases hDj : D j with
        | false => simp [ltD]; omega
        | true => have := hD.reach C hDj h2; rw [hr.1] at this; cases this
  · rw [nthA_none _ _ (by rw [putsD_len]; omega), nthA_none _ _ (by rw [putsD_len]; omega)]
theorem put_upd {v : AV} (hv : vs[i]? = some v) : putA (putsD D all vs 0 tm0) o.dst v = putsD (updD D i) all vs 0 tm0 := by
  refine ext_nthA (by rw [putA_len, putsD_len, putsD_len]) fun x hx => ?_
  rw [putA_len] at hx
  rw [nthA_put _ _ _ _ hx]
  rw [putsD_len] at hx
  rw [nthA_puts _ _ _ _ _ _ hx, nthA_puts _ _ _ _ _ _ hx]
  split
  · rename_i hd
    refine (valD_last all vs 0 _ i o v ho hv hd (by simp [updD]) fun j o' hj ho' hd' => ?_).symm
    rw [Nat.zero_add]
    have hmem : x ∈ namesO all o := by simp [namesO, hd]
    rcases C.dst i j o o' x ho ho' (by omega) hd' hmem with ⟨h1, h2⟩ | ⟨h1, h2⟩
    · omega
    · cases hDj : D j with
      | false => simp [updD, hDj]; omega
      | true => have := hD.reach C hDj h2; rw [hr.1] at this; cases this
  · rename_i hd
    refine valD_eq _ _ _ _ fun j o' hj hd' => ?_
    rw [Nat.zero_add]
    by_cases e : j = i
    · subst e
      rw [ho] at hj
      cases hj
      exact absurd hd' hd
    · simp [updD, e]
end

/-! ### The memory behind the operations that are done -/
def heapR (D : Nat → Bool) : List (Nat × List Ch) → List Ch → List Ch
  | [], h => h
  | (m, H) :: r, h => if D m then h else heapR D r H
theorem heapR_cases (D : Nat → Bool) : ∀ (hs : List (Nat × List Ch)) (h : List Ch), heapR D hs h = h ∨ ∃ p ∈ hs, D p.1 = false ∧ heapR D hs h = p.2
  | [], _ => .inl rfl
  | (m, H) :: r, h => by
    simp only [heapR]
    split
    · exact .inl rfl
    · rename_i hm
      have hm : D m = false := by simpa using hm
      rcases heapR_cases D r H with h1 | ⟨p, h1, h2, h3⟩
      · exact .inr ⟨(m, H), by simp, hm, h1⟩
      · exact .inr ⟨p, by simp [h1], h2, h3⟩
theorem heapR_upd {D : Nat → Bool} {i : Nat} : ∀ (hs : List (Nat × List Ch)) (h : List Ch), (∀ p ∈ hs, p.1 ≠ i) → heapR (updD D i) hs h = heapR D hs h
  | [], _, _ => rfl
  | (m, H) :: r, h, hne => by
    simp only [heapR]
    have : updD D i m = D m := by
      have := hne (m, H) (by simp)
      simp [updD, this]
    rw [this, heapR_upd r H fun p hp => hne p (by simp [hp])]

variable [ETab]
/-- an operation gives this value and leaves this memory -/
abbrev Fact (P : Program) (o : Op) (tm : List AV) (h : List Ch) (v : AV) (h' : List Ch) : Prop := ∀ K : KT, K v h' → opK P o tm h K
structure Rec where
  i : Nat
  o : Op
  tm : List AV
  v : AV
def Runs (all : List Oper) (tm : List AV) (o : Oper) : Prop := o.guard = none ∨ ∃ j w t, o.guard = some (j, w) ∧ dstAt all j = some t ∧ nthA tm t = .bool w

/-- the operations in the order of the text; what is asked of them to serve every order -/
inductive DW (P : Program) (all : List Oper) (Fin : List AV → List Ch → Prop) : List Oper → Nat → List AV → List Ch → List Rec → List (Nat × List Ch) → Prop
  | nil {i tm h ps hs} (H : Fin tm h) : DW P all Fin [] i tm h ps hs
  | skip {o r i tm h ps hs} (j t : Nat) (w : Bool) (hg : o.guard = some (j, w)) (hd : dstAt all j = some t) (hb : NoRun w (nthA tm t)) (H : DW P all Fin r (i + 1) (putA tm o.dst (.lit undef)) h ps hs) : DW P all Fin (o :: r) i tm h ps hs
  | pure {o r i tm h ps hs} (v : AV) (hg : Runs all tm o) (hf : Fact P o.op tm h v h) (hh : ∀ p ∈ hs, reachB all i p.1 = false → Fact P o.op tm p.2 v p.2) (H : DW P all Fin r (i + 1) (putA tm o.dst v) h (⟨i, o.op, tm, v⟩ :: ps) hs) : DW P all Fin (o :: r) i tm h ps hs
  | heap {o r i tm h ps hs} (v : AV) (h' : List Ch) (hg : Runs all tm o) (hf : Fact P o.op tm h v h') (hh : ∀ p ∈ hs, reachB all i p.1 = true) (hp : ∀ p ∈ ps, reachB all i p.i = false → Fact P p.o p.tm h' p.v h') (H : DW P all Fin r (i + 1) (putA tm o.dst v) h' ps ((i, h) :: hs)) : DW P all Fin (o :: r) i tm h ps hs

/-- what one operation does, whatever was done ahead of it -/
def OpOK (P : Program) (all : List Oper) (tm0 vs : List AV) (hs : List (Nat × List Ch)) (h : List Ch) (i : Nat) (o : Oper) (v : AV) : Prop :=
  (∃ j w t, o.guard = some (j, w) ∧ dstAt all j = some t ∧ NoRun w (nthA (putsD (ltD i) all vs 0 tm0) t) ∧ v = .lit undef ∧ ∀ p ∈ hs, p.1 ≠ i) ∨
  (Runs all (putsD (ltD i) all vs 0 tm0) o ∧ ∀ D, Closed all D → Ready all D i → Fact P o.op (putsD (ltD i) all vs 0 tm0) (heapR D hs h) v (heapR (updD D i) hs h))
end Go.V
