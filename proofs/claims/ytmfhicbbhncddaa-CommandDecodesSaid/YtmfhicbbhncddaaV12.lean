/-
  States that fit a general one; the code of a function.
-/
import Derived.Test.YtmfhicbbhncddaaV11
set_option linter.unusedVariables false
set_option linter.unusedSimpArgs false
namespace Go.V

variable {P : Program} {R : RO} {μ : List Bind} {h : List Ch} {w : World}

/-! ### Fitting a general state -/
mutual
/-- the value a is one of those that g describes, tags read through σ -/
def fitA (σ : List Nat) : AV → AV → Prop
  | .any, _ => True
  | .int k n, a => (match a with | .int k' n' => k = k' ∧ n = n' | _ => False)
  | .bool b, a => (match a with | .bool b' => b = b' | _ => False)
  | .str s, a => (match a with | .str s' => s = s' | _ => False)
  | .lit v, a => (match a with | .lit v' => v = v' | _ => False)
  | .agg l, a => (match a with | .agg l' => fitL σ l l' | _ => False)
  | .tup l, a => (match a with | .tup l' => fitL σ l l' | _ => False)
  | .ptr t off, a => (match a with | .ptr t' off' => σ[t]? = some t' ∧ off = off' | _ => False)
  | .ep t e i off, a => (match a with | .ep t' e' i' off' => σ[t]? = some t' ∧ e = e' ∧ i = i' ∧ off = off' | _ => False)
  | .sl t e s n, a => (match a with | .sl t' e' s' n' => σ[t]? = some t' ∧ e = e' ∧ s = s' ∧ n = n' | _ => False)
  | .ro e xs, a => (match a with
    | .ro e' ys => (match asE e e' ys with | some ys => xs = ys | none => False)
    | .lit (.slice none 0 0) => xs = []
    | _ => False)
  | .rp e xs i off, a => (match a with
    | .rp e' ys i' off' => (match asE e e' ys with | some ys => xs = ys | none => False) ∧ i = i' ∧ off = off'
    | _ => False)
  | .fn f l, a => (match a with | .fn f' l' => f = f' ∧ fitL σ l l' | _ => False)
  | .ifc t v, a => (match a with | .ifc t' v' => t = t' ∧ fitA σ v v' | _ => False)
  | .mp t, a => (match a with | .mp t' => σ[t]? = some t' | _ => False)
def fitL (σ : List Nat) : List AV → List AV → Prop
  | [], l => (match l with | [] => True | _ => False)
  | g :: gs, l => (match l with | a :: as => fitA σ g a ∧ fitL σ gs as | [] => False)
end
def fitC (σ : List Nat) : Ch → Ch → Prop
  | .gone, _ => True
  | .cells gs, c => (match c with | .cells as => fitL σ gs as | _ => False)
  | .rows e xs, c => (match c with | .rows e' ys => (match asE e e' ys with | some ys => xs = ys | none => False) | _ => False)
  | .pack l, c => (match c with | .pack l' => l = l' | _ => False)
  | .map kv, c => (match c with | .map kv' => kv = kv' | _ => False)
def fitHs (σ : List Nat) (h : List Ch) : List Ch → List Nat → Prop
  | [], ts => (match ts with | [] => True | _ => False)
  | g :: gs, ts => (match ts with | t :: ts => (t < h.length) ∧ fitC σ g (hth h t) ∧ fitHs σ h gs ts | [] => False)
/-- the whole state -/
def Fit (σ : List Nat) (gt : List AV) (gh : List Ch) (tm : List AV) (h : List Ch) : Prop := fitL σ gt tm ∧ fitHs σ h gh σ ∧ σ.Nodup

def pickB (σ : List Nat) (μ : List Bind) : List Bind := σ.map fun t => μ.getD t .none
theorem pickB_get {σ : List Nat} {t t' : Nat} {B : Bind} (h : σ[t]? = some t') (hb : μ[t']? = some B) : (pickB σ μ)[t]? = some B := by
  unfold pickB
  rw [List.getElem?_map, h]
  simp [List.getD_eq_getElem?_getD, hb]
theorem asE_match {e e' : Ety} {xs : List e.T} {ys : List e'.T} (h : (match asE e e' ys with | some ys => xs = ys | none => False)) : ∃ he : e' = e, xs = he ▸ ys := by
  split at h
  · rename_i zs hz
    obtain ⟨he, hz⟩ := asE_some hz
    exact ⟨he, h.trans hz.symm⟩
  · exact h.elim

mutual
theorem fitA_ok {σ : List Nat} : ∀ {g a : AV} {v : Value}, fitA σ g a → Rel R μ a v → Rel R (pickB σ μ) g v
  | .any, _, _, _, _ => .any
  | .int k n, a, v, h, hr => by
    cases a <;> simp only [fitA] at h
    obtain ⟨rfl, rfl⟩ := h; cases hr; exact .int
  | .bool b, a, v, h, hr => by
    cases a <;> simp only [fitA] at h
    subst h; cases hr; exact .bool
  | .str s, a, v, h, hr => by
    cases a <;> simp only [fitA] at h
    subst h; cases hr; exact .str
  | .lit u, a, v, h, hr => by
    cases a <;> simp only [fitA] at h
    subst h; cases hr; exact .lit
  | .agg l, a, v, h, hr => by
    cases a <;> simp only [fitA] at h
    cases hr with | agg hl => exact .agg (fitL_ok h hl)
  | .tup l, a, v, h, hr => by
    cases a <;> simp only [fitA] at h
    cases hr with | tup hl => exact .tup (fitL_ok h hl)
  | .ptr t off, a, v, h, hr => by
    cases a <;> simp only [fitA] at h
    obtain ⟨h, rfl⟩ := h
    cases hr with | ptr hb hB => exact .ptr (pickB_get h hb) hB
  | .ep t e i off, a, v, h, hr => by
    cases a <;> simp only [fitA] at h
    obtain ⟨h, rfl, rfl, rfl⟩ := h
    cases hr with | ep hb => exact .ep (pickB_get h hb)
  | .sl t e s n, a, v, h, hr => by
    cases a <;> simp only [fitA] at h
    obtain ⟨h, rfl, rfl, rfl⟩ := h
    cases hr with
    | sl hb hc hl hm => exact .sl (pickB_get h hb) hc hl hm
    | sl0 => exact .sl0 (by unfold pickB; rw [List.length_map]; exact (List.getElem?_eq_some_iff.1 h).1)
  | .ro e xs, a, v, h, hr => by
    simp only [fitA] at h
    split at h
    · obtain ⟨rfl, rfl⟩ := asE_match h
      cases hr with
      | ro hb hl hc hm => exact .ro hb hl hc hm
      | ro0 hm => exact .ro0 hm
    · subst h; cases hr; exact .ro0 (Nat.zero_le _)
    · exact h.elim
  | .rp e xs i off, a, v, h, hr => by
    simp only [fitA] at h
    split at h
    · obtain ⟨h, rfl, rfl⟩ := h
      obtain ⟨rfl, rfl⟩ := asE_match h
      cases hr with | rp hb hl hi => exact .rp hb hl hi
    · exact h.elim
  | .fn f l, a, v, h, hr => by
    cases a <;> simp only [fitA] at h
    obtain ⟨rfl, h⟩ := h
    cases hr with | fn hl => exact .fn (fitL_ok h hl)
  | .ifc t x, a, v, h, hr => by
    cases a <;> simp only [fitA] at h
    obtain ⟨rfl, h⟩ := h
    cases hr with | ifc hl => exact .ifc (fitA_ok h hl)
  | .mp t, a, v, h, hr => by
    cases a <;> simp only [fitA] at h
    cases hr with | mp hb => exact .mp (pickB_get h hb)
theorem fitL_ok {σ : List Nat} : ∀ {gs as : List AV} {vs : List Value}, fitL σ gs as → LRel R μ as vs → LRel R (pickB σ μ) gs vs
  | [], as, vs, h, hr => by
    cases as <;> simp only [fitL] at h
    cases hr; exact .nil
  | g :: gs, as, vs, h, hr => by
    cases as <;> simp only [fitL] at h
    cases hr with | cons ha hl => exact .cons (fitA_ok h.1 ha) (fitL_ok h.2 hl)
end
theorem fitC_ok {σ : List Nat} {g c : Ch} {B : Bind} (h : fitC σ g c) (hr : CRel R w μ c B) : CRel R w (pickB σ μ) g B ∧ (ownC g B).Sublist (ownC c B) := by
  cases g with
  | gone => exact ⟨trivial, gone_sub _ _⟩
  | cells gs =>
    cases c <;> simp only [fitC] at h
    obtain ⟨n, arr, ty, rfl, h1, h2⟩ := hr
    exact ⟨⟨n, arr, ty, rfl, h1, fitL_ok h h2⟩, by simp [ownC]⟩
  | rows e xs =>
    simp only [fitC] at h
    split at h
    · obtain ⟨rfl, rfl⟩ := asE_match h
      refine ⟨?_, ?_⟩
      · rcases hr with h0 | ⟨n, cap, arr, ty, h1, h2, h3⟩
        · exact .inl h0
        · exact .inr ⟨n, cap, arr, ty, h1, h2, h3⟩
      · cases B <;> simp [ownC]
    · exact h.elim
  | pack l =>
    cases c <;> simp only [fitC] at h
    subst h
    exact ⟨hr, List.Sublist.refl _⟩
  | map kv =>
    cases c <;> simp only [fitC] at h
    subst h
    exact ⟨hr, List.Sublist.refl _⟩

theorem hth_some : ∀ {h : List Ch} {t : Nat}, t < h.length → h[t]? = some (hth h t)
  | [], _, h => by simp at h
  | _ :: _, 0, _ => rfl
  | _ :: l, t + 1, h => by simpa [hth] using hth_some (h := l) (t := t) (by simpa using h)
theorem own_apart : ∀ {h : List Ch} {m : List Bind} {i j : Nat} {c d : Ch} {B D : Bind}, (ownH h m).Nodup → i ≠ j → h[i]? = some c → m[i]? = some B → h[j]? = some d → m[j]? = some D → ∀ b, b ∈ ownC c B → b ∉ ownC d D
  | [], _, _, _, _, _, _, _, _, _, e, _, _, _, _, _ => by simp at e
  | _ :: _, [], _, _, _, _, _, _, _, _, _, e, _, _, _, _ => by simp at e
  | a :: l, A :: m, 0, 0, _, _, _, _, _, hij, _, _, _, _, _, _ => absurd rfl hij
  | a :: l, A :: m, 0, j + 1, _, _, _, _, hn, _, e1, e2, e3, e4, b, hb => by
    simp at e1 e2; subst e1; subst e2
    simp only [ownH, List.nodup_append] at hn
    exact fun hx => hn.2.2 b hb b (own_mem (by simpa using e3) (by simpa using e4) b hx) rfl
  | a :: l, A :: m, i + 1, 0, _, _, _, _, hn, _, e1, e2, e3, e4, b, hb => by
    simp at e3 e4; subst e3; subst e4
    simp only [ownH, List.nodup_append] at hn
    exact fun hx => hn.2.2 b hx b (own_mem (by simpa using e1) (by simpa using e2) b hb) rfl
  | a :: l, A :: m, i + 1, j + 1, _, _, _, _, hn, hij, e1, e2, e3, e4, b, hb => by
    simp only [ownH, List.nodup_append] at hn
    exact own_apart (i := i) (j := j) hn.2.1 (by omega) (by simpa using e1) (by simpa using e2) (by simpa using e3) (by simpa using e4) b hb

theorem fitH_ok (H : HOk R μ h w) {σ : List Nat} : ∀ {gh : List Ch} {ts : List Nat}, fitHs σ h gh ts → ts.Nodup → HRel R w (pickB σ μ) gh (pickB ts μ) ∧ (ownH gh (pickB ts μ)).Nodup ∧ ∀ b ∈ ownH gh (pickB ts μ), ∃ t ∈ ts, ∃ c B, h[t]? = some c ∧ μ[t]? = some B ∧ b ∈ ownC c B
  | [], ts, hf, _ => by
    cases ts <;> simp only [fitHs] at hf
    exact ⟨trivial, by simp [ownH], fun b hb => by simp [ownH] at hb⟩
  | g :: gs, ts, hf, hn => by
    cases ts with
    | nil => simp [fitHs] at hf
    | cons t ts =>
      simp only [fitHs] at hf
      obtain ⟨hlt, hc, hf⟩ := hf
      obtain ⟨hnt, hn⟩ := List.nodup_cons.1 hn
      obtain ⟨h1, h2, h3⟩ := fitH_ok H hf hn
      have hct := hth_some hlt
      obtain ⟨B, hB, hr, _⟩ := H.rel.get hct
      have hBd : μ.getD t .none = B := by simp [List.getD_eq_getElem?_getD, hB]
      obtain ⟨h4, h5⟩ := fitC_ok hc hr
      have hp : pickB (t :: ts) μ = B :: pickB ts μ := by simp [pickB, hB]
      rw [hp]
      refine ⟨⟨h4, h1⟩, ?_, fun b hb => ?_⟩
      · simp only [ownH, List.nodup_append]
        have hnd : (ownC (hth h t) B).Nodup := by
          have key : ∀ (h : List Ch) (m : List Bind) (t : Nat) (c : Ch), (ownH h m).Nodup → h[t]? = some c → m[t]? = some B → (ownC c B).Nodup := by
            intro h
            induction h with
            | nil => intro m t c _ e; simp at e
            | cons a l ih =>
              intro m t c hn e1 e2
              cases m with
              | nil => simp at e2
              | cons b m =>
                simp only [ownH, List.nodup_append] at hn
                cases t with
                | zero => simp at e1 e2; subst e1; subst e2; exact hn.1
                | succ t => exact ih m t c hn.2.1 (by simpa using e1) (by simpa using e2)
          exact key h μ t _ H.nodup hct hB
        refine ⟨hnd.sublist h5, h2, fun a ha b hb e => ?_⟩
        subst e
        obtain ⟨t', ht', c', B', e1, e2, e3⟩ := h3 a hb
        exact own_apart H.nodup (fun e => hnt (by rw [e]; exact ht')) hct hB e1 e2 a (h5.subset ha) e3
      · simp only [ownH, List.mem_append] at hb
        rcases hb with hb | hb
        · exact ⟨t, by simp, _, B, hct, hB, h5.subset hb⟩
        · obtain ⟨t', ht', r⟩ := h3 b hb
          exact ⟨t', by simp [ht'], r⟩

theorem Fit.ok (H : HOk R μ h w) {σ : List Nat} {gt tm : List AV} {gh : List Ch} {vs : List Value} (hf : Fit σ gt gh tm h) (ht : LRel R μ tm vs) :
    HOk R (pickB σ μ) gh w ∧ LRel R (pickB σ μ) gt vs ∧ Step (ownH h μ) R w (ownH gh (pickB σ μ)) R w := by
  obtain ⟨h1, h2, h3⟩ := hf
  obtain ⟨a, b, c⟩ := fitH_ok H h2 h3
  have hsub : ∀ x ∈ ownH gh (pickB σ μ), x ∈ ownH h μ := fun x hx => by
    obtain ⟨t, _, c', B, e1, e2, e3⟩ := c x hx
    exact own_mem e1 e2 x e3
  exact ⟨⟨a, b, fun x hx => H.own x (hsub x hx), H.ro⟩, fitL_ok h1 ht, ⟨RO.le.refl R, Nat.le_refl _, fun _ _ _ => rfl, fun x hx => .inl (hsub x hx), fun _ _ hb => .inl hb, rfl, rfl, rfl⟩⟩
end Go.V
