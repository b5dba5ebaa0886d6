/-
  States that fit a general one; the code of a function.
  Objects are closed.
  The code of a function: what it means that it does what is asked; freezing.
  Jumps: goto, label, scope.
  The rules of a walk: one operation a step.
-/
import Derived.Test.YtifighagbpjogaaPart06
import Derived.ScopeJumps
set_option linter.unusedVariables false
set_option linter.unusedSimpArgs false
namespace Go.V

variable {P : Program} {R : RO} {μ : List Bind} {h : List Ch} {w : World}

/-! ### Fitting a general state -/
mutual
/-- the value a is one of those that g describes, tags read through σ -/
def fitA (σ : List Nat) : AV → AV → Prop
  | .any, _ => True
  | .int k n, a => (match a with | .int k' n' => k = k' ∧ n = n' | _ => False)
  | .bool b, a => (match a with | .bool b' => b = b' | _ => False)
  | .str s, a => (match a with | .str s' => s = s' | _ => False)
  | .lit v, a => (match a with | .lit v' => v = v' | _ => False)
  | .agg l, a => (match a with | .agg l' => fitL σ l l' | _ => False)
  | .tup l, a => (match a with | .tup l' => fitL σ l l' | _ => False)
  | .ptr t off, a => (match a with | .ptr t' off' => σ[t]? = some t' ∧ off = off' | _ => False)
  | .csl t n c, a => (match a with | .csl t' n' c' => σ[t]? = some t' ∧ n = n' ∧ c = c' | _ => False)
  | .ep t e i off, a => (match a with | .ep t' e' i' off' => σ[t]? = some t' ∧ e = e' ∧ i = i' ∧ off = off' | _ => False)
  | .sl t e s n, a => (match a with | .sl t' e' s' n' => σ[t]? = some t' ∧ e = e' ∧ s = s' ∧ n = n' | _ => False)
  | .ro e xs, a => (match a with
    | .ro e' ys => (match asE e e' ys with | some ys => xs = ys | none => False)
    | .lit (.slice none 0 0) => xs = []
    | _ => False)
  | .rp e xs i off, a => (match a with
    | .rp e' ys i' off' => (match asE e e' ys with | some ys => xs = ys | none => False) ∧ i = i' ∧ off = off'
    | _ => False)
  | .rc e xs, a => (match a with
    | .rc e' ys => (match asE e e' ys with | some ys => xs = ys | none => False)
    | _ => False)
  | .fn f l, a => (match a with | .fn f' l' => f = f' ∧ fitL σ l l' | _ => False)
  | .ifc t v, a => (match a with | .ifc t' v' => t = t' ∧ fitA σ v v' | _ => False)
  | .mp t, a => (match a with | .mp t' => σ[t]? = some t' | _ => False)
def fitL (σ : List Nat) : List AV → List AV → Prop
  | [], l => (match l with | [] => True | _ => False)
  | g :: gs, l => (match l with | a :: as => fitA σ g a ∧ fitL σ gs as | [] => False)
end
/-- a map's entries -/
def asM (k : KTy) (e : Ety) : Ch → Option (List (k.T × e.T))
  | .map k' e' kv => if h : k' = k ∧ e' = e then some (h.1 ▸ h.2 ▸ kv) else none
  | _ => none
theorem asM_self (k : KTy) (e : Ety) (kv : List (k.T × e.T)) : asM k e (.map k e kv) = some kv := by simp [asM]
theorem asM_some {k : KTy} {e : Ety} {c : Ch} {kv : List (k.T × e.T)} (h : asM k e c = some kv) : c = .map k e kv := by
  unfold asM at h
  split at h
  · split at h
    · rename_i q
      obtain ⟨rfl, rfl⟩ := q
      simp only [Option.some.injEq] at h
      rw [← h]
    · cases h
  · cases h
def fitC (σ : List Nat) : Ch → Ch → Prop
  | .gone, _ => True
  | .cells gs, c => (match c with | .cells as => fitL σ gs as | _ => False)
  | .crow gs, c => (match c with | .crow as => gs.length = as.length ∧ fitL σ gs as | _ => False)
  | .rows e xs, c => (match c with | .rows e' ys => (match asE e e' ys with | some ys => xs = ys | none => False) | _ => False)
  | .pack l, c => (match c with | .pack l' => l = l' | _ => False)
  | .map k e kv, c => (match asM k e c with | some kv' => kv'.Perm kv | none => False)
  | .iter g k e kv todo last, c => (match c with | .iter g' k' e' kv' todo' last' => σ[g]? = some g' ∧ Ch.iter g k e kv todo last = Ch.iter g k' e' kv' todo' last' | _ => False)
def fitHs (σ : List Nat) (h : List Ch) : List Ch → List Nat → Prop
  | [], ts => (match ts with | [] => True | _ => False)
  | g :: gs, ts => (match ts with | t :: ts => (t < h.length) ∧ fitC σ g (hth h t) ∧ fitHs σ h gs ts | [] => False)
/-- the whole state -/
def Fit (σ : List Nat) (gt : List AV) (gh : List Ch) (tm : List AV) (h : List Ch) : Prop := fitL σ gt tm ∧ fitHs σ h gh σ ∧ σ.Nodup

def pickB (σ : List Nat) (μ : List Bind) : List Bind := σ.map fun t => μ.getD t .none
theorem pickB_get {σ : List Nat} {t t' : Nat} {B : Bind} (h : σ[t]? = some t') (hb : μ[t']? = some B) : (pickB σ μ)[t]? = some B := by
  unfold pickB
  rw [List.getElem?_map, h]
  simp [List.getD_eq_getElem?_getD, hb]
theorem asE_match {e e' : Ety} {xs : List e.T} {ys : List e'.T} (h : (match asE e e' ys with | some ys => xs = ys | none => False)) : ∃ he : e' = e, xs = he ▸ ys := by
  split at h
  · rename_i zs hz
    obtain ⟨he, hz⟩ := asE_some hz
    exact ⟨he, h.trans hz.symm⟩
  · exact h.elim

mutual
theorem fitA_ok {σ : List Nat} : ∀ {g a : AV} {v : Value}, fitA σ g a → Rel R μ a v → Rel R (pickB σ μ) g v
  | .any, _, _, _, _ => .any
  | .int k n, a, v, h, hr => by
    cases a <;> simp only [fitA] at h
    obtain ⟨rfl, rfl⟩ := h; cases hr; exact .int
  | .bool b, a, v, h, hr => by
    cases a <;> simp only [fitA] at h
    subst h; cases hr; exact .bool
  | .str s, a, v, h, hr => by
    cases a <;> simp only [fitA] at h
    subst h; cases hr; exact .str
  | .lit u, a, v, h, hr => by
    cases a <;> simp only [fitA] at h
    subst h; cases hr; exact .lit
  | .agg l, a, v, h, hr => by
    cases a <;> simp only [fitA] at h
    cases hr with | agg hl => exact .agg (fitL_ok h hl)
  | .tup l, a, v, h, hr => by
    cases a <;> simp only [fitA] at h
    cases hr with | tup hl => exact .tup (fitL_ok h hl)
  | .ptr t off, a, v, h, hr => by
    cases a <;> simp only [fitA] at h
    obtain ⟨h, rfl⟩ := h
    cases hr with | ptr hb hB => exact .ptr (pickB_get h hb) hB
  | .csl t n c, a, v, h, hr => by
    cases a <;> simp only [fitA] at h
    obtain ⟨h, rfl, rfl⟩ := h
    cases hr with | csl hb hB hl hm => exact .csl (pickB_get h hb) hB hl hm
  | .ep t e i off, a, v, h, hr => by
    cases a <;> simp only [fitA] at h
    obtain ⟨h, rfl, rfl, rfl⟩ := h
    cases hr with | ep hb => exact .ep (pickB_get h hb)
  | .sl t e s n, a, v, h, hr => by
    cases a <;> simp only [fitA] at h
    obtain ⟨h, rfl, rfl, rfl⟩ := h
    cases hr with
    | sl hb hc hl hm => exact .sl (pickB_get h hb) hc hl hm
    | sl0 hq => exact .sl0 (hq.imp (fun hb => pickB_get h hb) fun q => ⟨q.1, by unfold pickB; rw [List.length_map]; exact (List.getElem?_eq_some_iff.1 h).1⟩)
  | .ro e xs, a, v, h, hr => by
    simp only [fitA] at h
    split at h
    · obtain ⟨rfl, rfl⟩ := asE_match h
      cases hr with
      | ro hb hl hc hm => exact .ro hb hl hc hm
      | ro0 hm => exact .ro0 hm
    · subst h; cases hr; exact .ro0 (Nat.zero_le _)
    · exact h.elim
  | .rp e xs i off, a, v, h, hr => by
    simp only [fitA] at h
    split at h
    · obtain ⟨h, rfl, rfl⟩ := h
      obtain ⟨rfl, rfl⟩ := asE_match h
      cases hr with | rp hb hl hi => exact .rp hb hl hi
    · exact h.elim
  | .rc e xs, a, v, h, hr => by
    simp only [fitA] at h
    split at h
    · obtain ⟨rfl, rfl⟩ := asE_match h
      cases hr with
      | rc hb hl hm => exact .rc hb hl hm
      | rc0 => exact .rc0
    · exact h.elim
  | .fn f l, a, v, h, hr => by
    cases a <;> simp only [fitA] at h
    obtain ⟨rfl, h⟩ := h
    cases hr with | fn hl => exact .fn (fitL_ok h hl)
  | .ifc t x, a, v, h, hr => by
    cases a <;> simp only [fitA] at h
    obtain ⟨rfl, h⟩ := h
    cases hr with | ifc hl => exact .ifc (fitA_ok h hl)
  | .mp t, a, v, h, hr => by
    cases a <;> simp only [fitA] at h
    cases hr with | mp hb => exact .mp (pickB_get h hb)
theorem fitL_ok {σ : List Nat} : ∀ {gs as : List AV} {vs : List Value}, fitL σ gs as → LRel R μ as vs → LRel R (pickB σ μ) gs vs
  | [], as, vs, h, hr => by
    cases as <;> simp only [fitL] at h
    cases hr; exact .nil
  | g :: gs, as, vs, h, hr => by
    cases as <;> simp only [fitL] at h
    cases hr with | cons ha hl => exact .cons (fitA_ok h.1 ha) (fitL_ok h.2 hl)
end
theorem fitC_ok {σ : List Nat} {g c : Ch} {B : Bind} (h : fitC σ g c) (hr : CRel R w μ c B) : CRel R w (pickB σ μ) g B ∧ (ownC g B).Sublist (ownC c B) := by
  cases g with
  | gone => exact ⟨trivial, gone_sub _ _⟩
  | cells gs =>
    cases c <;> simp only [fitC] at h
    obtain ⟨n, arr, ty, rfl, h1, h2⟩ := hr
    exact ⟨⟨n, arr, ty, rfl, h1, fitL_ok h h2⟩, by simp [ownC]⟩
  | crow gs =>
    cases c <;> simp only [fitC] at h
    obtain ⟨n, arr, ty, rfl, h1, h2⟩ := hr
    exact ⟨⟨n, arr, ty, rfl, h1, by rw [h.1]; exact fitL_ok h.2 h2⟩, by simp [ownC]⟩
  | rows e xs =>
    simp only [fitC] at h
    split at h
    · obtain ⟨rfl, rfl⟩ := asE_match h
      refine ⟨?_, ?_⟩
      · rcases hr with h0 | ⟨n, cap, arr, ty, h1, h2, h3⟩
        · exact .inl h0
        · exact .inr ⟨n, cap, arr, ty, h1, h2, h3⟩
      · cases B <;> simp [ownC]
    · exact h.elim
  | pack l =>
    cases c <;> simp only [fitC] at h
    subst h
    exact ⟨hr, List.Sublist.refl _⟩
  | map k e kv =>
    simp only [fitC] at h
    split at h
    · rename_i kv' hm
      obtain rfl := asM_some hm
      obtain ⟨n, es, clock, kv0, rfl, h1, h2, h3, h4, h5⟩ := hr
      exact ⟨⟨n, es, clock, kv0, rfl, h1, h2, h3, h4, h5.1.trans h, h5.2⟩, by simp [ownC]⟩
    · exact h.elim
  | iter g k e kv todo last =>
    cases c <;> simp only [fitC] at h
    rename_i g' k' e' kv' todo' last'
    obtain ⟨h1, h2⟩ := h
    cases h2
    obtain ⟨r, n, es, clock, seen, kv0, td0, rfl, h4, h5⟩ := hr
    exact ⟨⟨r, n, es, clock, seen, kv0, td0, rfl, pickB_get h1 h4, h5⟩, by simp [ownC]⟩

theorem hth_some : ∀ {h : List Ch} {t : Nat}, t < h.length → h[t]? = some (hth h t)
  | [], _, h => by simp at h
  | _ :: _, 0, _ => rfl
  | _ :: l, t + 1, h => by simpa [hth] using hth_some (h := l) (t := t) (by simpa using h)
theorem own_apart : ∀ {h : List Ch} {m : List Bind} {i j : Nat} {c d : Ch} {B D : Bind}, (ownH h m).Nodup → i ≠ j → h[i]? = some c → m[i]? = some B → h[j]? = some d → m[j]? = some D → ∀ b, b ∈ ownC c B → b ∉ ownC d D
  | [], _, _, _, _, _, _, _, _, _, e, _, _, _, _, _ => by simp at e
  | _ :: _, [], _, _, _, _, _, _, _, _, _, e, _, _, _, _ => by simp at e
  | a :: l, A :: m, 0, 0, _, _, _, _, _, hij, _, _, _, _, _, _ => absurd rfl hij
  | a :: l, A :: m, 0, j + 1, _, _, _, _, hn, _, e1, e2, e3, e4, b, hb => by
    simp at e1 e2; subst e1; subst e2
    simp only [ownH, List.nodup_append] at hn
    exact fun hx => hn.2.2 b hb b (own_mem (by simpa using e3) (by simpa using e4) b hx) rfl
  | a :: l, A :: m, i + 1, 0, _, _, _, _, hn, _, e1, e2, e3, e4, b, hb => by
    simp at e3 e4; subst e3; subst e4
    simp only [ownH, List.nodup_append] at hn
    exact fun hx => hn.2.2 b hx b (own_mem (by simpa using e1) (by simpa using e2) b hb) rfl
  | a :: l, A :: m, i + 1, j + 1, _, _, _, _, hn, hij, e1, e2, e3, e4, b, hb => by
    simp only [ownH, List.nodup_append] at hn
    exact own_apart (i := i) (j := j) hn.2.1 (by omega) (by simpa using e1) (by simpa using e2) (by simpa using e3) (by simpa using e4) b hb

theorem fitH_ok (H : HOk R μ h w) {σ : List Nat} : ∀ {gh : List Ch} {ts : List Nat}, fitHs σ h gh ts → ts.Nodup → HRel R w (pickB σ μ) gh (pickB ts μ) ∧ (ownH gh (pickB ts μ)).Nodup ∧ ∀ b ∈ ownH gh (pickB ts μ), ∃ t ∈ ts, ∃ c B, h[t]? = some c ∧ μ[t]? = some B ∧ b ∈ ownC c B
  | [], ts, hf, _ => by
    cases ts <;> simp only [fitHs] at hf
    exact ⟨trivial, by simp [ownH], fun b hb => by simp [ownH] at hb⟩
  | g :: gs, ts, hf, hn => by
    cases ts with
    | nil => simp [fitHs] at hf
    | cons t ts =>
      simp only [fitHs] at hf
      obtain ⟨hlt, hc, hf⟩ := hf
      obtain ⟨hnt, hn⟩ := List.nodup_cons.1 hn
      obtain ⟨h1, h2, h3⟩ := fitH_ok H hf hn
      have hct := hth_some hlt
      obtain ⟨B, hB, hr, _⟩ := H.rel.get hct
      have hBd : μ.getD t .none = B := by simp [List.getD_eq_getElem?_getD, hB]
      obtain ⟨h4, h5⟩ := fitC_ok hc hr
      have hp : pickB (t :: ts) μ = B :: pickB ts μ := by simp [pickB, hB]
      rw [hp]
      refine ⟨⟨h4, h1⟩, ?_, fun b hb => ?_⟩
      · simp only [ownH, List.nodup_append]
        have hnd : (ownC (hth h t) B).Nodup := by
          have key : ∀ (h : List Ch) (m : List Bind) (t : Nat) (c : Ch), (ownH h m).Nodup → h[t]? = some c → m[t]? = some B → (ownC c B).Nodup := by
            intro h
            induction h with
            | nil => intro m t c _ e; simp at e
            | cons a l ih =>
              intro m t c hn e1 e2
              cases m with
              | nil => simp at e2
              | cons b m =>
                simp only [ownH, List.nodup_append] at hn
                cases t with
                | zero => simp at e1 e2; subst e1; subst e2; exact hn.1
                | succ t => exact ih m t c hn.2.1 (by simpa using e1) (by simpa using e2)
          exact key h μ t _ H.nodup hct hB
        refine ⟨hnd.sublist h5, h2, fun a ha b hb e => ?_⟩
        subst e
        obtain ⟨t', ht', c', B', e1, e2, e3⟩ := h3 a hb
        exact own_apart H.nodup (fun e => hnt (by rw [e]; exact ht')) hct hB e1 e2 a (h5.subset ha) e3
      · simp only [ownH, List.mem_append] at hb
        rcases hb with hb | hb
        · exact ⟨t, by simp, _, B, hct, hB, h5.subset hb⟩
        · obtain ⟨t', ht', r⟩ := h3 b hb
          exact ⟨t', by simp [ht'], r⟩

theorem Fit.ok (H : HOk R μ h w) {σ : List Nat} {gt tm : List AV} {gh : List Ch} {vs : List Value} (hf : Fit σ gt gh tm h) (ht : LRel R μ tm vs) :
    HOk R (pickB σ μ) gh w ∧ LRel R (pickB σ μ) gt vs ∧ Step (ownH h μ) R w (ownH gh (pickB σ μ)) R w := by
  obtain ⟨h1, h2, h3⟩ := hf
  obtain ⟨a, b, c⟩ := fitH_ok H h2 h3
  have hsub : ∀ x ∈ ownH gh (pickB σ μ), x ∈ ownH h μ := fun x hx => by
    obtain ⟨t, _, c', B, e1, e2, e3⟩ := c x hx
    exact own_mem e1 e2 x e3
  exact ⟨⟨a, b, fun x hx => H.own x (hsub x hx), H.ro⟩, fitL_ok h1 ht, ⟨RO.le.refl R, Nat.le_refl _, fun _ _ _ => rfl, fun x hx => .inl (hsub x hx), fun _ _ hb => .inl hb, rfl, rfl, rfl, Nat.le_refl _⟩⟩
end Go.V

namespace Go.V

variable {P : Program} {R : RO} {μ : List Bind} {h : List Ch} {w : World}

theorem hth_set_ne {h : List Ch} {t s : Nat} {c : Ch} (hne : t ≠ s) : hth (h.set t c) s = hth h s := by
  induction h generalizing t s with
  | nil => simp
  | cons a l ih =>
    cases t with
    | zero => cases s with
      | zero => exact absurd rfl hne
      | succ s => rfl
    | succ t => cases s with
      | zero => rfl
      | succ s => simpa [hth] using ih (t := t) (s := s) (by omega)
theorem hth_set_eq {h : List Ch} {t : Nat} {c : Ch} (ht : t < h.length) : hth (h.set t c) t = c := by
  induction h generalizing t with
  | nil => simp at ht
  | cons a l ih =>
    cases t with
    | zero => rfl
    | succ t => simpa [hth] using ih (t := t) (by simpa using ht)
theorem hth_lt {h : List Ch} {t : Nat} (hc : hth h t ≠ .gone) : t < h.length := by
  have := hth_get (h := h) (t := t) rfl hc
  exact (List.getElem?_eq_some_iff.1 this).1
theorem hth_app {h l : List Ch} {t : Nat} (ht : t < h.length) : hth (h ++ l) t = hth h t := by
  induction h generalizing t with
  | nil => simp at ht
  | cons a h ih =>
    cases t with
    | zero => rfl
    | succ t => simpa [hth] using ih (t := t) (by simpa using ht)
theorem hth_app_r {h l : List Ch} {j : Nat} : hth (h ++ l) (h.length + j) = hth l j := by
  induction h with
  | nil => simp
  | cons a h ih => rw [List.length_cons, show h.length + 1 + j = (h.length + j) + 1 from by omega]; simpa [hth] using ih

/-! ### Chunks that go -/
def goneH (h : List Ch) : List Nat → List Ch
  | [] => h
  | t :: ts => goneH (h.set t .gone) ts
theorem goneH_len (h : List Ch) : ∀ ts : List Nat, (goneH h ts).length = h.length := by
  intro ts
  induction ts generalizing h with
  | nil => rfl
  | cons t ts ih => simp [goneH, ih]
theorem goneH_hth {h : List Ch} {t : Nat} : ∀ {ts : List Nat}, t ∉ ts → hth (goneH h ts) t = hth h t := by
  intro ts
  induction ts generalizing h with
  | nil => intro _; rfl
  | cons s ts ih =>
    intro hn
    simp only [List.mem_cons, not_or] at hn
    rw [goneH, ih hn.2, hth_set_ne (Ne.symm hn.1)]
theorem gone_own {c : Ch} {B : Bind} : ∀ {h : List Ch} {m : List Bind} {t : Nat}, (ownH h m).Nodup → h[t]? = some c → m[t]? = some B → ∀ b ∈ ownH (h.set t .gone) m, b ∈ ownH h m ∧ b ∉ ownC c B := by
  intro h m t hn e1 e2 b hb
  refine ⟨?_, fun hx => own_gone hn e1 e2 b hx hb⟩
  exact (ownH_set_sub (c' := .gone) fun c0 B0 _ _ => by simp [ownC]).subset hb
theorem HOk.goneH {h : List Ch} (H : HOk R μ h w) : ∀ ts : List Nat, HOk R μ (goneH h ts) w ∧ (∀ b ∈ ownH (V.goneH h ts) μ, b ∈ ownH h μ) ∧ ∀ t ∈ ts, ∀ c B, h[t]? = some c → μ[t]? = some B → ∀ b ∈ ownC c B, b ∉ ownH (V.goneH h ts) μ := by
  intro ts
  induction ts generalizing h with
  | nil => exact ⟨H, fun b hb => hb, fun t ht => by cases ht⟩
  | cons t ts ih =>
    simp only [V.goneH]
    have H1 : HOk R μ (h.set t .gone) w ∧ (∀ b ∈ ownH (h.set t .gone) μ, b ∈ ownH h μ) := by
      cases hc : h[t]? with
      | none =>
        rw [List.set_eq_of_length_le (by simpa using hc)]
        exact ⟨H, fun b hb => hb⟩
      | some c =>
        obtain ⟨B, hB, _, _⟩ := H.rel.get hc
        exact ⟨(H.set (c' := .gone) (w' := w) hc hB (gone_sub _ _) (fun _ _ _ => rfl) (Nat.le_refl _) trivial rfl rfl rfl).1, fun b hb => (gone_own H.nodup hc hB b hb).1⟩
    obtain ⟨a1, a2, a3⟩ := ih H1.1
    refine ⟨a1, fun b hb => H1.2 b (a2 b hb), fun s hs c B hc hB b hb hx => ?_⟩
    have hx' := a2 b hx
    by_cases e : s = t
    · subst e
      exact own_gone H.nodup hc hB b hb hx'
    · rcases List.mem_cons.1 hs with e' | hs'
      · exact e e'
      · exact a3 s hs' c B (by rw [List.getElem?_set_ne (Ne.symm e)]; exact hc) hB b hb hx

/-- the object at t, with what lies at ts, is closed to l -/
def closeH (h : List Ch) (t : Nat) (ts : List Nat) (l : List Ch) : List Ch := (goneH h ts).set t (.pack l)
theorem close_ok (H : HOk R μ h w) {t : Nat} {ts : List Nat} {vs : List AV} {l : List Ch} (hf : fitHs (t :: ts) h (.cells vs :: l) (t :: ts)) (hn : (t :: ts).Nodup) :
    ∃ μ', HOk R μ' (closeH h t ts (.cells vs :: l)) w ∧ Ext μ μ' ∧ Step (ownH h μ) R w (ownH (closeH h t ts (.cells vs :: l)) μ') R w := by
  obtain ⟨h1, h2, h3⟩ := fitH_ok H hf hn
  have hlt : t < h.length := hf.1
  have hct := hth_some hlt
  obtain ⟨B, hB, hr, _⟩ := H.rel.get hct
  have hp : pickB (t :: ts) μ = B :: pickB ts μ := by simp [pickB, hB]
  rw [hp] at h1 h2 h3
  have hB2 : ∃ n, B = .cel n := by obtain ⟨n, _, _, e, _⟩ := h1.1; exact ⟨n, e⟩
  obtain ⟨n, rfl⟩ := hB2
  obtain ⟨G1, G2, G3⟩ := H.goneH ts
  have htn : t ∉ ts := (List.nodup_cons.1 hn).1
  have hgt : (goneH h ts)[t]? = some (hth h t) := by
    have := hth_some (h := goneH h ts) (t := t) (by rw [goneH_len]; exact hlt)
    rw [goneH_hth htn] at this
    exact this
  have hext : Ext μ (μ.set t (.pack (.cel n :: pickB ts μ))) := Ext.set hB (.inr ⟨n, rfl, rfl, fun _ _ h => by cases h⟩)
  have hown : ownC (.pack (.cells vs :: l)) (.pack (.cel n :: pickB ts μ)) = ownH (.cells vs :: l) (.cel n :: pickB ts μ) := by simp [ownC]
  have hrel : HRel R w (μ.set t (.pack (.cel n :: pickB ts μ))) (closeH h t ts (.cells vs :: l)) (μ.set t (.pack (.cel n :: pickB ts μ))) :=
    HRel.swap (RO.le.refl R) hext (c' := .pack (.cells vs :: l)) ⟨_, rfl, h1⟩ G1.rel G1.nodup hgt hB fun _ _ _ => rfl
  have hin : ∀ b ∈ ownH (.cells vs :: l) (.cel n :: pickB ts μ), b ∈ ownH h μ := fun b hb => by
    obtain ⟨s, _, c, C, e1, e2, e3⟩ := h3 b hb
    exact own_mem e1 e2 b e3
  have hsub : ∀ b ∈ ownH (closeH h t ts (.cells vs :: l)) (μ.set t (.pack (.cel n :: pickB ts μ))), b ∈ ownH h μ := fun b hb => by
    rcases own_swap G1.nodup hgt hB b hb with hb | hb
    · rw [hown] at hb; exact hin b hb
    · exact G2 b hb.1
  refine ⟨_, ⟨hrel, ?_, fun b hb => H.own b (hsub b hb), H.ro⟩, hext, ⟨RO.le.refl R, Nat.le_refl _, fun _ _ _ => rfl, fun b hb => .inl (hsub b hb), fun _ _ hb => .inl hb, rfl, rfl, rfl, Nat.le_refl _⟩⟩
  refine own_swap_nodup (by rw [hown]; exact h2) G1.nodup hgt hB fun b hb hg => ?_
  rw [hown] at hb
  obtain ⟨s, hs, c, C, e1, e2, e3⟩ := h3 b hb
  rcases List.mem_cons.1 hs with rfl | hs
  · rw [hct] at e1
    rw [hB] at e2
    cases e1; cases e2
    exact e3
  · exact absurd hg (G3 s hs c C e1 e2 b e3)

/-- the object at t is closed: what lies there, and at ts, is what l describes, tags read through -/
def Shut (h : List Ch) (t : Nat) (ts : List Nat) (l : List Ch) : Prop := (∃ vs l', l = .cells vs :: l') ∧ fitHs (t :: ts) h l (t :: ts) ∧ (t :: ts).Nodup
def isNil : AV → Prop
  | .lit (.slice none 0 0) => True
  | _ => False
theorem adopt_ok (H : HOk R μ h w) (e : Ety) : HOk R (μ ++ [.none]) (h ++ [.rows e []]) w ∧ Step (ownH h μ) R w (ownH (h ++ [.rows e []]) (μ ++ [.none])) R w ∧ Rel R (μ ++ [.none]) (.sl h.length e 0 0) (.slice none 0 0) := by
  obtain ⟨H', hst⟩ := H.push (c := .rows e []) (B := .none) (w' := w) (fun _ _ => rfl) (Nat.le_refl _) (by simp [ownC]) (by simp [ownC]) (.inl ⟨rfl, rfl⟩) rfl rfl rfl
  exact ⟨H', hst, .sl0 (.inl (by rw [H.rel.len]; simp))⟩
theorem isNil_eq {a : AV} (h : isNil a) : a = .lit (.slice none 0 0) := by
  unfold isNil at h
  split at h
  · rfl
  · exact h.elim
theorem lset_rel {tm : List AV} {vs : List Value} (h1 : LRel R μ tm vs) {t : Nat} {x y : AV} (hx : nthA tm t = x) (hf : ∀ v, Rel R μ x v → Rel R μ y v) : LRel R μ (tm.set t y) vs := by
  induction tm generalizing t vs with
  | nil => simpa using h1
  | cons a l ih =>
    cases h1 with
    | cons ha hl =>
      cases t with
      | zero => simp only [nthA] at hx; subst hx; exact .cons (hf _ ha) hl
      | succ n => exact .cons ha (ih hl (by simpa [nthA] using hx))

theorem adoptC_ok (H : HOk R μ h w) {t i : Nat} {vs : List AV} (e : Ety) (hc : hth h t = .cells vs) (hn : isNil (nthA vs i)) :
    ∃ μ', HOk R μ' (h.set t (.cells (vs.set i (.sl h.length e 0 0))) ++ [.rows e []]) w ∧ Ext μ μ' ∧ Step (ownH h μ) R w (ownH (h.set t (.cells (vs.set i (.sl h.length e 0 0))) ++ [.rows e []]) μ') R w := by
  have hct := hth_get hc (by simp)
  obtain ⟨H', hst, hr⟩ := adopt_ok H e
  have hlt : t < h.length := (List.getElem?_eq_some_iff.1 hct).1
  have hct' : (h ++ [Ch.rows e []])[t]? = some (.cells vs) := by rw [List.getElem?_append_left hlt]; exact hct
  obtain ⟨B, hB, ⟨n, arr, ty, rfl, h1, h2⟩, _⟩ := H'.rel.get hct'
  obtain ⟨H2, hst2⟩ := H'.set (c' := .cells (vs.set i (.sl h.length e 0 0))) (w' := w) hct' hB (by simp [ownC]) (fun _ _ _ => rfl) (Nat.le_refl _)
    ⟨n, arr, ty, rfl, h1, lset_rel h2 (isNil_eq hn) (fun v hv => by cases hv; exact hr)⟩ rfl rfl rfl
  rw [List.set_append_left _ _ hlt] at H2 hst2
  exact ⟨_, H2, Ext.app _ _, hst.trans hst2⟩
/-! ### Steps that the machine does not see -/
mutual
def frA (t : Nat) (e : Ety) (xs : List e.T) : AV → AV
  | .sl t' e' s n => if t' = t then .ro e ((xs.drop s).take n) else .sl t' e' s n
  | .agg l => .agg (frL t e xs l)
  | .tup l => .tup (frL t e xs l)
  | .ep t' e' i off => if t' = t then .any else .ep t' e' i off
  | a => a
def frL (t : Nat) (e : Ety) (xs : List e.T) : List AV → List AV
  | [] => []
  | a :: l => frA t e xs a :: frL t e xs l
end
mutual
def frOb (t : Nat) (e : Ety) (m : Nat) : AV → Prop
  | .sl t' e' s n => t' = t → (e' = e ∧ s + n ≤ m)
  | .agg l => frObL t e m l
  | .tup l => frObL t e m l
  | _ => True
def frObL (t : Nat) (e : Ety) (m : Nat) : List AV → Prop
  | [] => True
  | a :: l => frOb t e m a ∧ frObL t e m l
end
def frC (t : Nat) (e : Ety) (xs : List e.T) : Ch → Ch
  | .cells vs => .cells (frL t e xs vs)
  | .crow vs => .crow (frL t e xs vs)
  | c => c
def frHs (t : Nat) (e : Ety) (xs : List e.T) : List Ch → List Ch
  | [] => []
  | c :: l => frC t e xs c :: frHs t e xs l
def frObC (t : Nat) (e : Ety) (m : Nat) : Ch → Prop
  | .cells vs => frObL t e m vs
  | .crow vs => frObL t e m vs
  | _ => True
def frObH (t : Nat) (e : Ety) (m : Nat) : List Ch → Prop
  | [] => True
  | c :: l => frObC t e m c ∧ frObH t e m l

mutual
theorem frA_ok {R' : RO} (hR : R.le R') {t : Nat} {e : Ety} {xs : List e.T} (hf : ∀ (s n : Nat) (v : Value), Rel R μ (.sl t e s n) v → s + n ≤ xs.length → Rel R' μ (.ro e ((xs.drop s).take n)) v) : ∀ {a : AV} {v : Value}, frOb t e xs.length a → Rel R μ a v → Rel R' μ (frA t e xs a) v
  | .sl t' e' s n, v, ho, hr => by
    simp only [frA]
    split
    · rename_i ht
      have ho2 : t' = t → (e' = e ∧ s + n ≤ xs.length) := ho
      obtain ⟨he, hl⟩ := ho2 ht
      subst ht
      subst he
      exact hf s n v hr hl
    · exact hr.mono hR (Ext.refl μ)
  | .agg l, v, ho, hr => by
    simp only [frA]
    cases hr with | agg hl => exact .agg (frL_ok hR hf ho hl)
  | .tup l, v, ho, hr => by
    simp only [frA]
    cases hr with | tup hl => exact .tup (frL_ok hR hf ho hl)
  | .ep t' e' i off, v, _, hr => by
    simp only [frA]
    split
    · exact .any
    · exact hr.mono hR (Ext.refl μ)
  | .int .., _, _, hr => hr.mono hR (Ext.refl μ)
  | .bool .., _, _, hr => hr.mono hR (Ext.refl μ)
  | .str .., _, _, hr => hr.mono hR (Ext.refl μ)
  | .lit .., _, _, hr => hr.mono hR (Ext.refl μ)
  | .ptr .., _, _, hr => hr.mono hR (Ext.refl μ)
  | .csl .., _, _, hr => hr.mono hR (Ext.refl μ)
  | .ro .., _, _, hr => hr.mono hR (Ext.refl μ)
  | .rp .., _, _, hr => hr.mono hR (Ext.refl μ)
  | .rc .., _, _, hr => hr.mono hR (Ext.refl μ)
  | .fn .., _, _, hr => hr.mono hR (Ext.refl μ)
  | .ifc .., _, _, hr => hr.mono hR (Ext.refl μ)
  | .mp .., _, _, hr => hr.mono hR (Ext.refl μ)
  | .any, _, _, hr => hr.mono hR (Ext.refl μ)
theorem frL_ok {R' : RO} (hR : R.le R') {t : Nat} {e : Ety} {xs : List e.T} (hf : ∀ (s n : Nat) (v : Value), Rel R μ (.sl t e s n) v → s + n ≤ xs.length → Rel R' μ (.ro e ((xs.drop s).take n)) v) : ∀ {l : List AV} {vs : List Value}, frObL t e xs.length l → LRel R μ l vs → LRel R' μ (frL t e xs l) vs
  | [], _, _, hr => by cases hr; exact .nil
  | a :: l, _, ho, hr => by
    cases hr with | cons ha hl => exact .cons (frA_ok hR hf ho.1 ha) (frL_ok hR hf ho.2 hl)
end
theorem frHs_own {t : Nat} {e : Ety} {xs : List e.T} : ∀ (h : List Ch) (m : List Bind), ownH (frHs t e xs h) m = ownH h m
  | [], m => rfl
  | c :: l, [] => by simp [frHs, ownH]
  | c :: l, b :: m => by
    simp only [frHs, ownH, frHs_own l m]
    congr 1
    cases c <;> cases b <;> rfl
theorem frHs_rel {R' : RO} (hR : R.le R') {t : Nat} {e : Ety} {xs : List e.T} (hf : ∀ (s n : Nat) (v : Value), Rel R μ (.sl t e s n) v → s + n ≤ xs.length → Rel R' μ (.ro e ((xs.drop s).take n)) v) : ∀ {h : List Ch} {m : List Bind}, frObH t e xs.length h → HRel R w μ h m → HRel R' w μ (frHs t e xs h) m
  | [], [], _, _ => trivial
  | c :: l, b :: m, ho, hr => by
    refine ⟨?_, frHs_rel hR hf ho.2 hr.2⟩
    cases c with
    | cells vs =>
      obtain ⟨n, arr, ty, rfl, h1, h2⟩ := hr.1
      exact ⟨n, arr, ty, rfl, h1, frL_ok hR hf ho.1 h2⟩
    | crow vs =>
      obtain ⟨n, arr, ty, rfl, h1, h2⟩ := hr.1
      have h3 := frL_ok hR hf ho.1 h2
      exact ⟨n, arr, ty, rfl, h1, by rw [show (frL t e xs vs).length = vs.length from h3.len.trans h2.len.symm]; exact h3⟩
    | rows e' ys => exact CRel.keep hR (Ext.refl μ) _ _ hr.1 fun _ _ => rfl
    | gone => trivial
    | pack l => exact CRel.keep hR (Ext.refl μ) _ _ hr.1 fun _ _ => rfl
    | map l => exact CRel.keep hR (Ext.refl μ) _ _ hr.1 fun _ _ => rfl
    | iter l => exact CRel.keep hR (Ext.refl μ) _ _ hr.1 fun _ _ => rfl
  | [], _ :: _, _, h => h.elim
  | _ :: _, [], _, h => h.elim

/-- steps that the machine does not see -/
def GhostT (R : RO) (μ : List Bind) (tm : List AV) (h : List Ch) (w : World) (tm' : List AV) (h' : List Ch) : Prop :=
  ∃ R' μ', HOk R' μ' h' w ∧ Step (ownH h μ) R w (ownH h' μ') R' w ∧ Ext μ μ' ∧ (∀ vs, LRel R μ tm vs → LRel R' μ' tm' vs)
/-- from these slots and this memory to those, the machine standing still -/
def Gh (tm : List AV) (h : List Ch) (tm' : List AV) (h' : List Ch) : Prop := ∀ (R : RO) (μ : List Bind) (w : World) (vs : List Value), HOk R μ h w → LRel R μ tm vs → GhostT R μ tm h w tm' h'
theorem Gh.refl {tm : List AV} {h : List Ch} : Gh tm h tm h := fun R μ _ _ H _ => ⟨R, μ, H, Step.refl _ _ _, Ext.refl μ, fun _ hv => hv⟩
theorem Gh.trans {tm tm1 tm2 : List AV} {h h1 h2 : List Ch} (a : Gh tm h tm1 h1) (b : Gh tm1 h1 tm2 h2) : Gh tm h tm2 h2 := fun R μ w vs H hv => by
  obtain ⟨R1, μ1, H1, st1, e1, f1⟩ := a R μ w vs H hv
  obtain ⟨R2, μ2, H2, st2, e2, f2⟩ := b R1 μ1 w vs H1 (f1 vs hv)
  exact ⟨R2, μ2, H2, st1.trans st2, e1.trans e2, fun us hu => f2 us (f1 us hu)⟩
theorem gh_close {tm : List AV} {t : Nat} {ts : List Nat} {l : List Ch} (hs : Shut h t ts l) : Gh tm h tm (closeH h t ts l) := by
  intro R μ w vs H _
  obtain ⟨⟨cs, l', rfl⟩, hf, hn⟩ := hs
  obtain ⟨μ', h1, h2, h3⟩ := close_ok H hf hn
  exact ⟨R, μ', h1, h3, h2, fun _ hv => hv.mono (RO.le.refl R) h2⟩
theorem gh_open {tm : List AV} {t : Nat} {vs : List AV} {rest : List Ch} (hc : hth h t = .pack (.cells vs :: rest)) : Gh tm h tm (openH h t vs rest) := by
  intro R μ w us H _
  obtain ⟨μ', h1, h2, h3⟩ := open_ok H hc
  exact ⟨R, μ', h1, h3, h2, fun _ hv => hv.mono (RO.le.refl R) h2⟩
theorem gh_frz {tm : List AV} {t : Nat} {e : Ety} {xs : List e.T} (hc : hth h t = .rows e xs) (ho : frObL t e xs.length tm) (ho2 : frObH t e xs.length h) : Gh tm h (frL t e xs tm) (frHs t e xs (h.set t .gone)) := by
  intro R μ w us H _
  obtain ⟨R1, H1, st1, le1, hf⟩ := H.freeze (hth_get hc (by simp))
  have hrel : HRel R1 w μ (frHs t e xs (h.set t .gone)) μ := by
    have hob : frObH t e xs.length (h.set t .gone) := by
      have key : ∀ (h : List Ch) (t' : Nat), frObH t e xs.length h → frObH t e xs.length (h.set t' .gone) := by
        intro h
        induction h with
        | nil => intro t' ho; simpa using ho
        | cons c l ih =>
          intro t' ho
          cases t' with
          | zero => exact ⟨trivial, ho.2⟩
          | succ n => exact ⟨ho.1, ih n ho.2⟩
      exact key h t ho2
    have h0 : HRel R w μ (h.set t .gone) μ := by
      obtain ⟨B, hB, _, _⟩ := H.rel.get (hth_get hc (by simp))
      exact HRel.set (RO.le.refl R) H.rel H.nodup (hth_get hc (by simp)) hB (fun _ _ _ => rfl) trivial
    exact frHs_rel le1 hf hob h0
  have hown := frHs_own (t := t) (e := e) (xs := xs) (h.set t .gone) μ
  have H2 : HOk R1 μ (frHs t e xs (h.set t .gone)) w := ⟨hrel, by rw [hown]; exact H1.nodup, fun b hb => by rw [hown] at hb; exact H1.own b hb, H1.ro⟩
  refine ⟨R1, μ, H2, ?_, Ext.refl μ, fun vs hv => frL_ok le1 hf ho hv⟩
  rw [hown]
  exact st1
/-- a nil slice in a slot becomes an empty row -/
theorem gh_adopt {tm : List AV} {s : Nat} (e : Ety) (hn : isNil (nthA tm s)) : Gh tm h (tm.set s (.sl h.length e 0 0)) (h ++ [.rows e []]) := by
  intro R μ w us H _
  obtain ⟨H', hst, hr⟩ := adopt_ok H e
  exact ⟨R, _, H', hst, Ext.app _ _, fun vs hv => lset_rel (hv.mono (RO.le.refl R) (Ext.app _ _)) (isNil_eq hn) (fun v hv => by cases hv; exact hr)⟩
/-- a nil slice in a cell becomes an empty row -/
theorem gh_adoptC {tm : List AV} {t i : Nat} {vs : List AV} (e : Ety) (hc : hth h t = .cells vs) (hn : isNil (nthA vs i)) : Gh tm h tm (h.set t (.cells (vs.set i (.sl h.length e 0 0))) ++ [.rows e []]) := by
  intro R μ w us H _
  obtain ⟨μ', h1, h2, h3⟩ := adoptC_ok H e hc hn
  exact ⟨R, _, h1, h3, h2, fun vs hv => hv.mono (RO.le.refl R) h2⟩
/-- a nil slice lies for good -/
theorem gh_nil {tm : List AV} {s : Nat} (e : Ety) (hn : isNil (nthA tm s)) : Gh tm h (tm.set s (.ro e [])) h := by
  intro R μ w us H _
  exact ⟨R, μ, H, Step.refl _ _ _, Ext.refl _, fun vs hv => lset_rel hv (isNil_eq hn) (fun v hv => by cases hv; exact .ro0 (Nat.zero_le _))⟩
end Go.V

namespace Go.V

variable {P : Program} {R : RO} {μ : List Bind} {h : List Ch} {w : World}

def putA (tm : List AV) (d : Option Nat) (v : AV) : List AV :=
  match d with
  | none => tm
  | some d => tm.set d v
def dstAt : List Oper → Nat → Option Nat
  | [], _ => none
  | o :: _, 0 => o.dst
  | _ :: l, n + 1 => dstAt l n

structure Post where
  n : List AV → List Ch → Prop
  x : Nat → List AV → List Ch → Prop
  r : List AV → List Ch → Prop
def Post.at (q : Post) : Exit → List AV → List Ch → Prop
  | .normal, tm, h => q.n tm h
  | .exit i, tm, h => i < 1000000 ∧ q.x i tm h
  | .goto l, tm, h => q.x (l + 1000000) tm h
  | .ret, tm, h => q.r tm h
  | _, _, _ => False

def dsts : List Oper → List Nat
  | [] => []
  | o :: l => (match o.dst with | some d => d :: dsts l | none => dsts l)
/-- slots that a code writes -/
def writes : Code → List Nat
  | .region _ ops _ => dsts ops.toList
  | .seq a b => writes a ++ writes b
  | .cond _ a b => writes a ++ writes b
  | .block _ c => writes c
  | .loop c => writes c
  | .scope c => writes c
  | _ => []
def killT (tm : List AV) : List Nat → List AV
  | [] => tm
  | d :: l => killT (tm.set d .any) l
def liveT (tm : List AV) : List (Nat × AV) → List AV
  | [] => tm
  | (d, v) :: l => liveT (tm.set d v) l
def setH (h : List Ch) : List (Nat × Ch) → List Ch
  | [] => h
  | (t, c) :: l => setH (h.set t c) l

structure SR (R : RO) (μ : List Bind) (tm : List AV) (h : List Ch) (a : Act) (w : World) : Prop where
  mem : HOk R μ h w
  tm : LRel R μ tm a.tmps.toList
  dfr : a.defers = []

theorem SR.put {tm : List AV} {a : Act} {R' : RO} {μ' : List Bind} {h' : List Ch} {w' : World} {av : AV} {v : Value} (s : SR R μ tm h a w) (d : Option Tmp) (hr : Rel R' μ' av v) (H' : HOk R' μ' h' w') (hR : R.le R') (hm : Ext μ μ') : SR R' μ' (putA tm d av) h' (a.put d v) w' := by
  have h1 := s.tm.mono hR hm
  refine ⟨H', ?_, ?_⟩
  · cases d with
    | none => exact h1
    | some d => simpa [putA, Act.put] using h1.set d hr
  · cases d <;> exact s.dfr
theorem SR.tag {tm : List AV} {a : Act} (s : SR R μ tm h a w) {t : Nat} {b : Bool} (hb : nthA tm t = .bool b) : SR R μ (tm.set t (.bool b)) h a w := by
  refine ⟨s.mem, ?_, s.dfr⟩
  have h1 := s.tm
  generalize a.tmps.toList = vs at h1
  clear s
  induction tm generalizing t vs with
  | nil => simpa using h1
  | cons x l ih =>
    cases h1 with
    | cons hx hl =>
      cases t with
      | zero => simp only [nthA] at hb; subst hb; exact .cons hx hl
      | succ n => exact .cons hx (ih (by simpa [nthA] using hb) _ hl)

theorem nth_rel {tm : List AV} {a : Act} (s : SR R μ tm h a w) {t : Nat} {b : Bool} (hb : nthA tm t = .bool b) : a.tmps[t]? = some (.bool b) := by
  have h1 := s.tm
  cases e : a.tmps[t]? with
  | none =>
    have : tm.length ≤ t := by rw [h1.len]; simpa using e
    rw [nthA_none tm t this] at hb
    simp at hb
  | some v =>
    have := h1.nth t (v := v) (by simpa using e)
    rw [hb] at this
    cases this; rfl
theorem dstAt_get : ∀ (l : List Oper) (j : Nat), dstAt l j = (l[j]?).bind (·.dst)
  | [], _ => by simp [dstAt]
  | o :: l, 0 => by simp [dstAt]
  | o :: l, n + 1 => by simp [dstAt, dstAt_get l n]

/-! ### A loop, by a relation with a number -/
theorem wp_loop_rel {c : Code} {Q : Exit → Act → World → Prop} {a : Act} {w : World} (I : Nat → Act → World → Prop) (n : Nat) (h₀ : I n a w)
    (round : ∀ n a w, I n a w → c.wp P (Exit.then (fun a' w' => ∃ m, m < n ∧ I m a' w') Q) a w) : (Code.loop c).wp P Q a w := by
  intro b k cs
  have key : ∀ n a w, I n a w → ∃ e a' w', Q e a' w' ∧ Arrives P (lone (b.at a (.code c :: .inLoop c :: k)) cs w) b k cs e a' w' := by
    intro n
    induction n using Nat.strongRecOn with
    | _ n ih =>
      intro a w hI
      obtain ⟨e, a₁, w₁, hq, harr⟩ := round n a w hI b (.inLoop c :: k) cs
      cases e with
      | normal =>
        obtain ⟨m, hlt, hI₁⟩ := hq
        obtain ⟨e₂, a₂, w₂, hq₂, harr₂⟩ := ih m hlt a₁ w₁ hI₁
        exact ⟨e₂, a₂, w₂, hq₂, .of_steps (Steps.trans harr (.one step_inLoop)) harr₂⟩
      | exit id => exact ⟨_, a₁, w₁, hq, .pass (x := .inLoop c) rfl (fun _ _ => .inl (by simp)) harr⟩
      | goto l => exact ⟨_, a₁, w₁, hq, .pass (x := .inLoop c) rfl (fun _ _ => .inl (by simp)) harr⟩
      | ret => exact ⟨_, a₁, w₁, hq, .pass (x := .inLoop c) rfl (fun _ _ => .inl (by simp)) harr⟩
      | panic ch => exact ⟨_, a₁, w₁, hq, .pass (x := .inLoop c) rfl (fun _ _ => .inl (by simp)) harr⟩
      | outgrown => exact ⟨_, a₁, w₁, hq, .pass (x := .inLoop c) rfl (fun _ _ => .inl (by simp)) harr⟩
  obtain ⟨e, a', w', hq, harr⟩ := key n a w h₀
  exact ⟨e, a', w', hq, .of_steps (.one step_loop) harr⟩

/-- the first k tags are as they were -/
structure Keeps (k : Nat) (μ μ' : List Bind) : Prop where
  len : k ≤ μ'.length
  get : ∀ {t : Nat} {B : Bind}, t < k → μ[t]? = some B → ∃ B', μ'[t]? = some B' ∧ BLe B B'
theorem Keeps.refl {k : Nat} {μ : List Bind} (h : k ≤ μ.length) : Keeps k μ μ := ⟨h, fun _ h => ⟨_, h, .refl _⟩⟩
theorem Keeps.trans {k : Nat} {a b c : List Bind} (h : Keeps k a b) (g : Keeps k b c) : Keeps k a c := ⟨g.len, fun ht hb => by
  obtain ⟨B', h1, h2⟩ := h.get ht hb
  obtain ⟨B2, h3, h4⟩ := g.get ht h1
  exact ⟨B2, h3, h2.trans h4⟩⟩
theorem Keeps.ext {k : Nat} {μ μ' : List Bind} (h : k ≤ μ.length) (e : Ext μ μ') : Keeps k μ μ' := ⟨Nat.le_trans h e.len, fun _ hb => e.get hb⟩
theorem Keeps.pick {k : Nat} {μ : List Bind} {σ : List Nat} (h : σ.take k = List.range k) : Keeps k μ (pickB σ μ) := by
  have h1 : k ≤ σ.length := by
    have := congrArg List.length h
    simp at this
    omega
  refine ⟨by simp [pickB, h1], fun {t B} ht hb => ⟨B, pickB_get (t' := t) ?_ hb, .refl _⟩⟩
  have := congrArg (·[t]?) h
  simpa [List.getElem?_take, ht] using this
theorem Keeps.toExt {μ μ' : List Bind} (h : Keeps μ.length μ μ') : Ext μ μ' := ⟨h.len, fun {t _} hb => h.get (List.getElem?_eq_some_iff.1 hb).1 hb⟩


/-! ### What a code does -/
/-- what holds at an end -/
def EndQ (k : Nat) (R : RO) (μ : List Bind) (h : List Ch) (w : World) (q : Post) : Exit → Act → World → Prop := fun e a' w' =>
  ∃ R' μ' tm' h', SR R' μ' tm' h' a' w' ∧ Step (ownH h μ) R w (ownH h' μ') R' w' ∧ Keeps k μ μ' ∧ q.at e tm' h'
theorem EndQ.pre {k : Nat} {R' : RO} {μ' : List Bind} {h' : List Ch} {w' : World} {q : Post} (st : Step (ownH h μ) R w (ownH h' μ') R' w') (kp : Keeps k μ μ') {e : Exit} {a2 : Act} {w2 : World} (hq : EndQ k R' μ' h' w' q e a2 w2) : EndQ k R μ h w q e a2 w2 := by
  obtain ⟨R2, μ2, tm2, h2, s2, st2, kp2, hq⟩ := hq
  exact ⟨R2, μ2, tm2, h2, s2, st.trans st2, kp.trans kp2, hq⟩
/-- code c, from these slots and this memory, ends as asked; the first k tags stay -/
structure Wp (P : Program) (k : Nat) (c : Code) (tm : List AV) (h : List Ch) (q : Post) : Prop where
  run : ∀ (R : RO) (μ : List Bind) (a : Act) (w : World), SR R μ tm h a w → k ≤ μ.length → c.wp P (EndQ k R μ h w q) a w
/-- behind operations -/
def Then (k : Nat) (R : RO) (μ : List Bind) (h : List Ch) (w : World) (K : List AV → List Ch → Prop) (Q : Act → World → Prop) : Prop :=
  ∀ R' μ' tm' h' a' w', SR R' μ' tm' h' a' w' → Step (ownH h μ) R w (ownH h' μ') R' w' → Keeps k μ μ' → K tm' h' → Q a' w'
/-- operations, from these slots and this memory -/
structure Ops (P : Program) (k : Nat) (all l : List Oper) (tm : List AV) (h : List Ch) (K : List AV → List Ch → Prop) : Prop where
  run : ∀ (R : RO) (μ : List Bind) (a : Act) (w : World), SR R μ tm h a w → k ≤ μ.length → ∀ Q : Exit → Act → World → Prop, Then k R μ h w K (Q .normal) → wpList P all.toArray Q l a w

section
variable {k : Nat} {tm : List AV} {q : Post} {all r l : List Oper} {K : List AV → List Ch → Prop}
theorem Wp.of_ops {id : Nat} (H : Ops P k l l tm h q.n) : Wp P k (.region id l.toArray false) tm h q :=
  ⟨fun R μ a w s hl => wp_region_list (H.run R μ a w s hl _ fun R' μ' tm' h' a' w' s' st kp hq => ⟨R', μ', tm', h', s', st, kp, hq⟩)⟩
theorem Then.pre {R' : RO} {μ' : List Bind} {h' : List Ch} {w' : World} {Q : Act → World → Prop} (hq : Then k R μ h w K Q) (st : Step (ownH h μ) R w (ownH h' μ') R' w') (kp : Keeps k μ μ') : Then k R' μ' h' w' K Q :=
  fun R2 μ2 tm2 h2 a2 w2 s2 st2 kp2 hk => hq R2 μ2 tm2 h2 a2 w2 s2 (st.trans st2) (kp.trans kp2) hk

theorem Wp.ghost {c : Code} {tm' : List AV} {h' : List Ch} (hg : Gh tm h tm' h') (H : Wp P k c tm' h' q) : Wp P k c tm h q :=
  ⟨fun R μ a w s hl => by
    obtain ⟨R', μ', H', st, e, f⟩ := hg R μ w _ s.mem s.tm
    have kp := Keeps.ext hl e
    exact wp_mono (H.run R' μ' a w ⟨H', f _ s.tm, s.dfr⟩ kp.len) fun e a w hq => hq.pre st kp⟩
theorem Ops.ghost {tm' : List AV} {h' : List Ch} (hg : Gh tm h tm' h') (H : Ops P k all l tm' h' K) : Ops P k all l tm h K :=
  ⟨fun R μ a w s hl Q hQ => by
    obtain ⟨R', μ', H', st, e, f⟩ := hg R μ w _ s.mem s.tm
    have kp := Keeps.ext hl e
    exact H.run R' μ' a w ⟨H', f _ s.tm, s.dfr⟩ kp.len Q (hQ.pre st kp)⟩
theorem Does.ghost {g : FuncId} {as as' : List AV} {h' : List Ch} {K : KT} (hg : Gh as h as' h') (H : Does P g as' h' K) : Does P g as h K :=
  ⟨H.here, fun R μ w vs hv H0 => by
    obtain ⟨R', μ', H', st, e, f⟩ := hg R μ w _ H0 hv
    refine (H.run R' μ' w vs (f _ hv) H').mono fun e2 w2 hl => ?_
    obtain ⟨v, R2, μ2, h2, av, h3, h4, h5, h6, h7, h8⟩ := hl
    exact ⟨v, R2, μ2, h2, av, h3, h4, h5, h6, e.trans h7, st.trans h8⟩⟩
theorem Does.mono {g : FuncId} {as : List AV} {K K' : KT} (H : Does P g as h K) (hk : ∀ v h, K v h → K' v h) : Does P g as h K' :=
  ⟨H.here, fun R μ w vs hv H0 => (H.run R μ w vs hv H0).mono fun e2 w2 hl => by
    obtain ⟨v, R2, μ2, h2, av, h3, h4, h5, h6, h7, h8⟩ := hl
    exact ⟨v, R2, μ2, h2, av, h3, hk _ _ h4, h5, h6, h7, h8⟩⟩

/-! ### Rules for codes -/
theorem Wp.mono {c : Code} {q' : Post} (H : Wp P k c tm h q) (hn : ∀ tm h, q.n tm h → q'.n tm h) (hx : ∀ i tm h, q.x i tm h → q'.x i tm h) (hr : ∀ tm h, q.r tm h → q'.r tm h) : Wp P k c tm h q' :=
  ⟨fun R μ a w s hl => wp_mono (H.run R μ a w s hl) fun e a w hq => by
    obtain ⟨R', μ', tm', h', s', st, kp, hq⟩ := hq
    refine ⟨R', μ', tm', h', s', st, kp, ?_⟩
    cases e <;> first | exact hn _ _ hq | exact hx _ _ _ hq | exact ⟨hq.1, hx _ _ _ hq.2⟩ | exact hr _ _ hq | exact hq.elim⟩
theorem w_skip (H : q.n tm h) : Wp P k .skip tm h q := ⟨fun R μ a w s hl => wp_skip ⟨R, μ, tm, h, s, Step.refl _ _ _, .refl hl, H⟩⟩
theorem w_ret (H : q.r tm h) : Wp P k .ret tm h q := ⟨fun R μ a w s hl => wp_ret ⟨R, μ, tm, h, s, Step.refl _ _ _, .refl hl, H⟩⟩
theorem w_exit {i : Nat} (H : i < 1000000 ∧ q.x i tm h) : Wp P k (.exit i) tm h q := ⟨fun R μ a w s hl => wp_exit ⟨R, μ, tm, h, s, Step.refl _ _ _, .refl hl, H⟩⟩
theorem w_seq_mid {a b : Code} (M : List AV → List Ch → Prop) (H : Wp P k a tm h ⟨M, q.x, q.r⟩) (H2 : ∀ tm h, M tm h → Wp P k b tm h q) : Wp P k (.seq a b) tm h q :=
  ⟨fun R μ x w s hl => wp_seq (wp_mono (H.run R μ x w s hl) fun e x' w' hq => by
    obtain ⟨R', μ', tm', h', s', st, kp, hq⟩ := hq
    cases e with
    | normal => exact wp_mono ((H2 tm' h' hq).run R' μ' x' w' s' kp.len) fun e a w hq => hq.pre st kp
    | exit i => exact ⟨R', μ', tm', h', s', st, kp, hq⟩
    | goto l => exact ⟨R', μ', tm', h', s', st, kp, hq⟩
    | ret => exact ⟨R', μ', tm', h', s', st, kp, hq⟩
    | _ => exact hq.elim)⟩
theorem w_seq {a b : Code} (H : ∀ K : List AV → List Ch → Prop, (∀ tm h, Wp P k b tm h q → K tm h) → Wp P k a tm h ⟨K, q.x, q.r⟩) : Wp P k (.seq a b) tm h q :=
  w_seq_mid _ (H _ fun _ _ h => h) fun _ _ h => h
theorem w_block {id : Nat} {c : Code} (H : Wp P k c tm h ⟨q.n, fun i tm h => if i = id then id < 1000000 ∧ q.n tm h else q.x i tm h, q.r⟩) : Wp P k (.block id c) tm h q :=
  ⟨fun R μ x w s hl => wp_block (wp_mono (H.run R μ x w s hl) fun e x' w' hq => by
    obtain ⟨R', μ', tm', h', s', st, kp, hq⟩ := hq
    cases e with
    | normal => exact ⟨R', μ', tm', h', s', st, kp, hq⟩
    | exit i =>
      simp only [Exit.inBlock]
      simp only [Post.at] at hq
      split
      · rename_i hi; rw [if_pos hi] at hq; exact ⟨R', μ', tm', h', s', st, kp, hq.2.2⟩
      · rename_i hi; rw [if_neg hi] at hq; exact ⟨R', μ', tm', h', s', st, kp, hq⟩
    | goto l =>
      simp only [Post.at] at hq
      split at hq
      · have := hq.1; omega
      · exact ⟨R', μ', tm', h', s', st, kp, hq⟩
    | ret => exact ⟨R', μ', tm', h', s', st, kp, hq⟩
    | _ => exact hq.elim)⟩
theorem w_cond {t : Nat} {a b : Code} {c : Bool} (hc : nthA tm t = .bool c) (H1 : c = true → Wp P k a (tm.set t (.bool true)) h q) (H2 : c = false → Wp P k b (tm.set t (.bool false)) h q) : Wp P k (.cond (.tmp t) a b) tm h q :=
  ⟨fun R μ x w s hl => by
    have h1 := nth_rel s hc
    have h2 : x.eval (.tmp t) = .bool c := by simp [Act.eval, h1]
    cases c with
    | true => exact wp_cond_true h2 ((H1 rfl).run R μ x w (s.tag hc) hl)
    | false => exact wp_cond_false h2 ((H2 rfl).run R μ x w (s.tag hc) hl)⟩
theorem w_cond_t {t : Nat} {a b : Code} (hc : nthA tm t = .bool true) (H : Wp P k a tm h q) (hs : tm.set t (.bool true) = tm) : Wp P k (.cond (.tmp t) a b) tm h q := w_cond hc (fun _ => by rw [hs]; exact H) (fun h => by cases h)
theorem w_cond_f {t : Nat} {a b : Code} (hc : nthA tm t = .bool false) (H : Wp P k b tm h q) (hs : tm.set t (.bool false) = tm) : Wp P k (.cond (.tmp t) a b) tm h q := w_cond hc (fun h => by cases h) (fun _ => by rw [hs]; exact H)

/-- the first time at a loop's head, and again: in state 'st x' -/
def At (k : Nat) (gt : List AV) (gh : List Ch) (tm : List AV) (h : List Ch) : Prop := ∃ tm' h', Gh tm h tm' h' ∧ ∃ σ : List Nat, σ.take k = List.range k ∧ Fit σ gt gh tm' h'
/-- again at a loop's head -/
def Back {A : Type} (k : Nat) (inv : A → Prop) (mu : A → Nat) (live : A → List AV) (heap : A → List Ch) (x : A) (tm : List AV) (h : List Ch) : Prop :=
  ∃ x', (inv x' ∧ mu x' < mu x) ∧ At k (live x') (heap x') tm h
theorem w_loop_at {c : Code} {A : Type} (inv : A → Prop) (mu : A → Nat) (live : A → List AV) (heap : A → List Ch) (x0 : A) (hi : inv x0) (h0 : At k (live x0) (heap x0) tm h)
    (H : ∀ (x : A) (E : List AV → List Ch → Prop), inv x → (∀ tm' h', Back k inv mu live heap x tm' h' → E tm' h') → Wp P k c (live x) (heap x) ⟨E, q.x, q.r⟩) : Wp P k (.loop c) tm h q :=
  ⟨fun R μ a w s hl => by
    obtain ⟨tm0', h0', hcl0, σ0, hσ0, hfit0⟩ := h0
    obtain ⟨Rc, μc, Hc, stc, ec, fc⟩ := hcl0 R μ w _ s.mem s.tm
    obtain ⟨H0, t0, st0'⟩ := hfit0.ok Hc (fc _ s.tm)
    have st0 := stc.trans st0'
    have kp0 := (Keeps.ext hl ec).trans (Keeps.pick (μ := μc) hσ0)
    refine wp_loop_rel (fun n a' w' => ∃ R' μ' x, inv x ∧ mu x = n ∧ SR R' μ' (live x) (heap x) a' w' ∧ Step (ownH h μ) R w (ownH (heap x) μ') R' w' ∧ Keeps k μ μ')
      (mu x0) ⟨Rc, _, x0, hi, rfl, ⟨H0, t0, s.dfr⟩, st0, kp0⟩ ?_
    rintro n a' w' ⟨R', μ', x, hinv, rfl, s', st, kp⟩
    refine wp_mono ((H x _ hinv fun tm' h' hb => hb).run R' μ' a' w' s' kp.len) ?_
    intro e a2 w2 hq
    obtain ⟨R2, μ2, tm2, h2, s2, st2, kp2, hq⟩ := hq
    cases e with
    | normal =>
      obtain ⟨x', ⟨hinv', hlt⟩, tc', hc', hcl, σ, hσ, hfit⟩ := hq
      obtain ⟨Rc, μc, Hc, stc, ec, fc⟩ := hcl R2 μ2 w2 _ s2.mem s2.tm
      obtain ⟨H3, t3, st3⟩ := hfit.ok Hc (fc _ s2.tm)
      exact ⟨_, hlt, Rc, _, x', hinv', rfl, ⟨H3, t3, s2.dfr⟩, (st.trans st2).trans (stc.trans st3), ((kp.trans kp2).trans (Keeps.ext kp2.len ec)).trans (Keeps.pick hσ)⟩
    | exit i => exact ⟨R2, μ2, tm2, h2, s2, st.trans st2, kp.trans kp2, hq⟩
    | goto l => exact ⟨R2, μ2, tm2, h2, s2, st.trans st2, kp.trans kp2, hq⟩
    | ret => exact ⟨R2, μ2, tm2, h2, s2, st.trans st2, kp.trans kp2, hq⟩
    | _ => exact hq.elim⟩
/-- a loop: slots that it writes are forgotten but for those named; chunks that change are named -/
theorem w_loop {c : Code} {A : Type} (inv : A → Prop) (mu : A → Nat) (live : A → List (Nat × AV)) (heap : A → List (Nat × Ch)) (x0 : A) {ws : List Nat} {tk : List AV} (hw : writes c = ws) (ht : killT tm ws = tk) (hi : inv x0)
    (h0 : At k (liveT tk (live x0)) (setH h (heap x0)) tm h)
    (H : ∀ (x : A) (E : List AV → List Ch → Prop) t, inv x → (∀ tm' h', Back k inv mu (fun x => liveT tk (live x)) (fun x => setH h (heap x)) x tm' h' → E tm' h') → liveT tk (live x) = t →
      Wp P k c t (setH h (heap x)) ⟨E, q.x, q.r⟩) : Wp P k (.loop c) tm h q :=
  w_loop_at inv mu (fun x => liveT tk (live x)) (fun x => setH h (heap x)) x0 hi h0 fun x E hx hE => H x E _ hx hE rfl
/-- ways meet: in the middle a general state -/
def Meet {A : Type} (k : Nat) (inv : A → Prop) (live : A → List AV) (heap : A → List Ch) (tm : List AV) (h : List Ch) : Prop := ∃ x, inv x ∧ At k (live x) (heap x) tm h
theorem w_at {c : Code} {gt : List AV} {gh : List Ch} (hat : At k gt gh tm h) (H : Wp P k c gt gh q) : Wp P k c tm h q :=
  ⟨fun R μ a w s hl => by
    obtain ⟨tm', h', hcl, σ, hσ, hf⟩ := hat
    obtain ⟨Rc, μc, Hc, stc, ec, fc⟩ := hcl R μ w _ s.mem s.tm
    obtain ⟨H2, t2, st2⟩ := hf.ok Hc (fc _ s.tm)
    have kp := (Keeps.ext hl ec).trans (Keeps.pick (μ := μc) hσ)
    exact wp_mono (H.run Rc _ a w ⟨H2, t2, s.dfr⟩ kp.len) fun e a w hq => hq.pre (stc.trans st2) kp⟩
/-- ways meet behind a: slots that it writes are forgotten but for those named, chunks that change are named -/
theorem w_meet {a b : Code} {A : Type} (inv : A → Prop) (live : A → List (Nat × AV)) (heap : A → List (Nat × Ch)) {ws : List Nat} {tk : List AV} (hw : writes a = ws) (ht : killT tm ws = tk)
    (H : ∀ K : List AV → List Ch → Prop, (∀ tm' h', Meet k inv (fun x => liveT tk (live x)) (fun x => setH h (heap x)) tm' h' → K tm' h') → Wp P k a tm h ⟨K, q.x, q.r⟩)
    (H2 : ∀ x t, inv x → liveT tk (live x) = t → Wp P k b t (setH h (heap x)) q) : Wp P k (.seq a b) tm h q :=
  w_seq_mid _ (H _ fun _ _ h => h) fun _ _ ⟨x, hx, hat⟩ => w_at hat (H2 x _ hx rfl)
end
end Go.V

namespace Go.V
open Go
section
variable {P : Program} {k : Nat} {tm : List AV} {h : List Ch} {q : Post}
theorem w_goto {l : Nat} (H : q.x (l + 1000000) tm h) : Wp P k (.goto l) tm h q := ⟨fun R μ a w s hl => wp_goto ⟨R, μ, tm, h, s, Step.refl _ _ _, .refl hl, H⟩⟩
end
end Go.V

namespace Go.V
section
variable [ETab] {P : Program} {k : Nat} {tm : List AV} {h : List Ch} {q : Post} {all r : List Oper} {K : List AV → List Ch → Prop}
omit [ETab] in
theorem w_reg {id : Nat} {l : List Oper} (H : Ops P k l l tm h q.n) : Wp P k (.region id l.toArray false) tm h q := Wp.of_ops H
omit [ETab] in
theorem w_nil (H : K tm h) : Ops P k all [] tm h K := ⟨fun R μ a w s hl Q hQ => hQ R μ tm h a w s (Step.refl _ _ _) (.refl hl) H⟩
theorem ops_go {o : Oper} (H : opK P o.op tm h fun v h => Ops P k all r (putA tm o.dst v) h K) {R : RO} {μ : List Bind} {a : Act} {w : World} (s : SR R μ tm h a w) (hl : k ≤ μ.length) {Q : Exit → Act → World → Prop} (hQ : Then k R μ h w K (Q .normal)) : Oper.wp P o a w (wpList P all.toArray Q r) Q := by
  refine Oper.wp_mono (fun a' w' haft => ?_) (opK_ok s.mem s.tm H (Q := Q))
  obtain ⟨R', μ', h', av, v, hk, rfl, hr, H', he, hst⟩ := haft
  have kp := Keeps.ext hl he
  exact hk.run R' μ' _ w' (s.put o.dst hr H' hst.ro he) kp.len Q (hQ.pre hst kp)
omit [ETab] in
theorem ops_skip {o : Oper} (H : Ops P k all r (putA tm o.dst (.lit undef)) h K) {R : RO} {μ : List Bind} {a : Act} {w : World} (s : SR R μ tm h a w) (hl : k ≤ μ.length) {Q : Exit → Act → World → Prop} (hQ : Then k R μ h w K (Q .normal)) : wpList P all.toArray Q r (a.put o.dst undef) w :=
  H.run R μ _ w (s.put o.dst .lit s.mem (RO.le.refl R) (Ext.refl μ)) hl Q hQ
theorem w_op {d : Option Nat} {op : Op} {ty : TypeId} {pos : String} {af : Array Edge} (H : ∀ K' : KT, (∀ v h, (∀ tm', tm' = putA tm d v → Ops P k all r tm' h K) → K' v h) → opK P op tm h K') :
    Ops P k all (⟨d, op, ty, pos, af, none⟩ :: r) tm h K :=
  ⟨fun R μ a w s hl Q hQ => by
    simp only [wpList]
    rw [if_pos (by simp [Region.wanted])]
    exact .inl (ops_go (H _ fun v h hh => hh _ rfl) s hl hQ)⟩
omit [ETab] in
theorem wanted_of {j t : Nat} {w b : Bool} {R : RO} {μ : List Bind} {a : Act} {wo : World} (hd : dstAt all j = some t) (hb : nthA tm t = .bool b) (s : SR R μ tm h a wo) {o : Oper} (hg : o.guard = some (j, w)) : Region.wanted o (yielded all.toArray a.tmps) = (b == w) := by
  have hdo : (all.toArray[j]?).bind (·.dst) = some t := by rw [← hd, dstAt_get]; simp
  have h1 := nth_rel s hb
  have hy : yielded all.toArray a.tmps j = some b := by
    unfold yielded
    rw [hdo, Option.bind_some, h1]
  unfold Region.wanted
  rw [hg]
  simp only [hy]
  cases b <;> cases w <;> rfl
theorem w_run {d : Option Nat} {op : Op} {ty : TypeId} {pos : String} {af : Array Edge} {j t : Nat} {w : Bool} (hd : dstAt all j = some t) (hb : nthA tm t = .bool w) (H : ∀ K' : KT, (∀ v h, (∀ tm', tm' = putA tm d v → Ops P k all r tm' h K) → K' v h) → opK P op tm h K') :
    Ops P k all (⟨d, op, ty, pos, af, some (j, w)⟩ :: r) tm h K :=
  ⟨fun R μ a wo s hl Q hQ => by
    simp only [wpList]
    rw [wanted_of hd hb s rfl, if_pos (by cases w <;> rfl)]
    exact .inl (ops_go (H _ fun v h hh => hh _ rfl) s hl hQ)⟩
/-- a guard that does not want the operation -/
def NoRun (w : Bool) (a : AV) : Prop := a = .bool (!w) ∨ a = .lit undef
omit [ETab] in
theorem nth_lit {R : RO} {μ : List Bind} {a : Act} {wo : World} (s : SR R μ tm h a wo) {t : Nat} {v : Value} (hb : nthA tm t = .lit v) : a.tmps[t]? = some v := by
  have h1 := s.tm
  cases e : a.tmps[t]? with
  | none =>
    have : tm.length ≤ t := by rw [h1.len]; simpa using e
    rw [nthA_none tm t this] at hb
    simp at hb
  | some u =>
    have := h1.nth t (v := u) (by simpa using e)
    rw [hb] at this
    cases this; rfl
omit [ETab] in
theorem wanted_no {j t : Nat} {w : Bool} {R : RO} {μ : List Bind} {a : Act} {wo : World} (hd : dstAt all j = some t) (hb : NoRun w (nthA tm t)) (s : SR R μ tm h a wo) {o : Oper} (hg : o.guard = some (j, w)) : Region.wanted o (yielded all.toArray a.tmps) = false := by
  rcases hb with hb | hb
  · rw [wanted_of hd hb s hg]
    cases w <;> rfl
  · have hdo : (all.toArray[j]?).bind (·.dst) = some t := by rw [← hd, dstAt_get]; simp
    have h1 := nth_lit s hb
    have hy : yielded all.toArray a.tmps j = none := by
      unfold yielded
      rw [hdo, Option.bind_some, h1]
      rfl
    unfold Region.wanted
    rw [hg]
    simp only [hy]
    rfl
omit [ETab] in
theorem w_pass {d : Option Nat} {op : Op} {ty : TypeId} {pos : String} {af : Array Edge} {j t : Nat} {w : Bool} (hd : dstAt all j = some t) (hb : nthA tm t = .bool (!w)) (H : ∀ tm', tm' = putA tm d (.lit undef) → Ops P k all r tm' h K) :
    Ops P k all (⟨d, op, ty, pos, af, some (j, w)⟩ :: r) tm h K :=
  ⟨fun R μ a wo s hl Q hQ => by
    simp only [wpList]
    rw [wanted_no hd (.inl hb) s rfl, if_neg (by simp)]
    exact ops_skip (o := ⟨d, op, ty, pos, af, some (j, w)⟩) (H _ rfl) s hl hQ⟩
omit [ETab] in
theorem w_passu {d : Option Nat} {op : Op} {ty : TypeId} {pos : String} {af : Array Edge} {j t : Nat} {w : Bool} (hd : dstAt all j = some t) (hb : nthA tm t = .lit undef) (H : ∀ tm', tm' = putA tm d (.lit undef) → Ops P k all r tm' h K) :
    Ops P k all (⟨d, op, ty, pos, af, some (j, w)⟩ :: r) tm h K :=
  ⟨fun R μ a wo s hl Q hQ => by
    simp only [wpList]
    rw [wanted_no hd (.inr hb) s rfl, if_neg (by simp)]
    exact ops_skip (o := ⟨d, op, ty, pos, af, some (j, w)⟩) (H _ rfl) s hl hQ⟩
omit [ETab] in
/-- a boolean that is not known is looked at -/
theorem w_split {j t : Nat} {w b : Bool} {o : Oper} (_hg : o.guard = some (j, w)) (_hd : dstAt all j = some t) (hb : nthA tm t = .bool b)
    (H1 : b = true → ∀ tm', tm' = tm.set t (.bool true) → Ops P k all (o :: r) tm' h K) (H2 : b = false → ∀ tm', tm' = tm.set t (.bool false) → Ops P k all (o :: r) tm' h K) : Ops P k all (o :: r) tm h K :=
  ⟨fun R μ a wo s hl Q hQ => by
    cases b with
    | true => exact (H1 rfl _ rfl).run R μ a wo (s.tag hb) hl Q hQ
    | false => exact (H2 rfl _ rfl).run R μ a wo (s.tag hb) hl Q hQ⟩

/-! ### Functions -/
def resK (P : Program) : List ResultVar → List AV → List Ch → (List AV → Prop) → Prop
  | [], _, _, K => K []
  | .tmp t :: r, tm, h, K => resK P r tm h fun l => K (nthA tm t :: l)
  | .cell a t :: r, tm, h, K => loadK P t (nthA tm a) h fun v => resK P r tm h fun l => K (v :: l)
def retA : List AV → AV
  | [a] => a
  | l => .tup l
omit [ETab] in
theorem tmp_rel {R : RO} {μ : List Bind} {tm : List AV} {a : Act} (h : LRel R μ tm a.tmps.toList) (t : Nat) : Rel R μ (nthA tm t) (a.tmps.getD t undef) := evA_rel h (.tmp t)
omit [ETab] in
theorem resK_ok {R : RO} {μ : List Bind} {w : World} (H : HOk R μ h w) {tm : List AV} {a : Act} (ht : LRel R μ tm a.tmps.toList) : ∀ (rs : List ResultVar) {K : List AV → Prop}, resK P rs tm h K →
    ∃ l vs, K l ∧ LRel R μ l vs ∧ (rs.mapM fun r => (match r with | .tmp t => pure (a.tmps.getD t undef) | .cell b t => do loadVar t (← asAddr (a.tmps.getD b undef)) : Sem Value)).run P w = .ok vs w
  | [], K, hK => ⟨[], [], hK, .nil, rfl⟩
  | .tmp t :: r, K, hK => by
    obtain ⟨l, vs, h1, h2, h3⟩ := resK_ok H ht r hK
    refine ⟨_, _, h1, .cons (tmp_rel ht t) h2, ?_⟩
    simp only [List.mapM_cons, Sem.run_bind, Sem.run_pure, Result.andThen_ok, h3]
  | .cell b t :: r, K, hK => by
    simp only [resK] at hK
    obtain ⟨v, av, hk, hr, hrun⟩ := loadK_ok H (tmp_rel ht b) hK
    obtain ⟨l, vs, h1, h2, h3⟩ := resK_ok H ht r hk
    refine ⟨_, _, h1, .cons hr h2, ?_⟩
    have hload : (do loadVar t (← asAddr (a.tmps.getD b undef)) : Sem Value).run P w = .ok v w := by
      rw [← hrun]
      have hnp := tmp_rel ht b
      unfold Instr.loadAt
      unfold loadK at hK
      generalize a.tmps.getD b undef = u at hnp
      split at hK
      · rename_i he; rw [he] at hnp; cases hnp; rfl
      · rename_i he; rw [he] at hnp; cases hnp; rfl
      · rename_i he; rw [he] at hnp; cases hnp; rfl
      · exact hK.elim
    simp only [List.mapM_cons, Sem.run_bind, hload, Result.andThen_ok, h3, Sem.run_pure]


/-- what function g does over this memory, the first k tags staying -/
structure DoesK (P : Program) (k : Nat) (g : FuncId) (args : List AV) (h : List Ch) (K : KT) : Prop where
  here : Here P g
  run : ∀ (R : RO) (μ : List Bind) (w : World) (vs : List Value), LRel R μ args vs → HOk R μ h w → k ≤ μ.length → Calls P g vs.toArray w fun e w' =>
    ∃ v R' μ' h' av, e = .returned v ∧ K av h' ∧ Rel R' μ' av v ∧ HOk R' μ' h' w' ∧ Keeps k μ μ' ∧ Step (ownH h μ) R w (ownH h' μ') R' w'
omit [ETab] in
theorem Does.of_K {g : FuncId} {args : List AV} {K : KT} (H : DoesK P h.length g args h K) : Does P g args h K :=
  ⟨H.here, fun R μ w vs hv H0 => (H.run R μ w vs hv H0 (by rw [H0.rel.len]; exact Nat.le_refl _)).mono fun e w' hr => by
    obtain ⟨v, R', μ', h', av, rfl, h1, h2, h3, h4, h5⟩ := hr
    rw [H0.rel.len] at h4
    exact ⟨v, R', μ', h', av, rfl, h1, h2, h3, h4.toExt, h5⟩⟩
omit [ETab] in
/-- the body is walked -/
theorem w_body {g : FuncId} {fn : Func} (hf : P.funcs[g]? = some fn) {c : Code} (hb : fn.body = some c) (hn : (fn.name == "runtime.NumGoroutine") = false) {rs : List ResultVar} (hr : fn.results.toList = rs) {args : List AV} (ht : args ++ List.replicate (fn.ntmps - args.length) .any = tm) {K : KT}
    (H : ∀ K' : List AV → List Ch → Prop, (∀ tm h, resK P rs tm h (fun l => K (retA l) h) → K' tm h) → Wp P k c tm h ⟨K', fun _ _ _ => False, K'⟩) : DoesK P k g args h K := by
  refine ⟨⟨fn, hf, by simp [hb], hn⟩, fun R μ w vs hv H0 hk => calls_of_wp hf hb ?_⟩
  have hrep : ∀ n, LRel R μ (List.replicate n .any) (List.replicate n undef) := by
    intro n
    induction n with
    | zero => exact .nil
    | succ n ih => exact .cons .any ih
  have s : SR R μ tm h { tmps := vs.toArray ++ Array.replicate (fn.ntmps - vs.toArray.size) undef, defers := [] } w := by
    refine ⟨H0, ?_, rfl⟩
    simp only [Array.toList_append, Array.toList_replicate, List.size_toArray]
    rw [← hv.len, ← ht]
    exact hv.app (hrep _)
  have fin : ∀ (a' : Act) (w' : World) (R' : RO) (μ' : List Bind) (tm' : List AV) (h' : List Ch), SR R' μ' tm' h' a' w' → Step (ownH h μ) R w (ownH h' μ') R' w' → Keeps k μ μ' → resK P rs tm' h' (fun l => K (retA l) h') →
      a'.defers = [] ∧ ∃ v, (results fn a'.tmps).run P w' = .ok v w' ∧ ∃ v' R' μ' h' av, Ending.returned v = .returned v' ∧ K av h' ∧ Rel R' μ' av v' ∧ HOk R' μ' h' w' ∧ Keeps k μ μ' ∧ Step (ownH h μ) R w (ownH h' μ') R' w' := by
    intro a' w' R' μ' tm' h' s' st kp hr'
    obtain ⟨l, us, h1, h2, h3⟩ := resK_ok s'.mem s'.tm _ hr'
    have hm : (fn.results.mapM fun r => (match r with | .tmp t => pure (a'.tmps.getD t undef) | .cell b t => do loadVar t (← asAddr (a'.tmps.getD b undef)) : Go.Sem Value)).run P w' = .ok us.toArray w' := by
      rw [← Array.toArray_toList (xs := fn.results), List.mapM_toArray, Sem.run_map, hr, h3]
      rfl
    refine ⟨s'.dfr, if hu : us.toArray.size = 1 then us.toArray[0] else .tuple us.toArray, ?_, ?_⟩
    · simp only [results, Sem.run_bind]
      exact (congrArg (fun (r : Result (Array Value)) => r.andThen fun a w' => Sem.run P (pure (if h : a.size = 1 then a[0] else Value.tuple a)) w') hm).trans rfl
    · refine ⟨_, R', μ', h', retA l, rfl, h1, ?_, s'.mem, kp, st⟩
      cases h2 with
      | nil => simp [retA]; exact .tup .nil
      | cons ha hs =>
        cases hs with
        | nil => simpa [retA] using ha
        | cons hb hs =>
          rw [dif_neg (by simp)]
          exact .tup (.cons ha (.cons hb hs))
  refine wp_mono ((H _ fun _ _ h => h).run R μ _ w s hk) ?_
  intro e a' w' hq
  obtain ⟨R', μ', tm', h', s', st, kp, hq⟩ := hq
  cases e with
  | normal => exact fin a' w' R' μ' tm' h' s' st kp hq
  | ret => exact fin a' w' R' μ' tm' h' s' st kp hq
  | exit i => exact hq.2.elim
  | _ => exact hq.elim
end
end Go.V
