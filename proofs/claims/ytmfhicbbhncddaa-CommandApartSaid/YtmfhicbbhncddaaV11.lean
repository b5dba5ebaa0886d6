/-
  One operation, and a region whose order is fixed.
-/
import Derived.Test.YtmfhicbbhncddaaV10
set_option linter.unusedVariables false
set_option linter.unusedSimpArgs false
namespace Go.V

variable {P : Program} {R : RO} {μ : List Bind} {h : List Ch} {w : World}

abbrev KT := AV → List Ch → Prop

/-- what a call must lead to -/
def Leads (R : RO) (μ : List Bind) (h : List Ch) (w : World) (K : KT) : Ending → World → Prop := fun e w' =>
  ∃ v R' μ' h' av, e = .returned v ∧ K av h' ∧ Rel R' μ' av v ∧ HOk R' μ' h' w' ∧ Ext μ μ' ∧ Step (ownH h μ) R w (ownH h' μ') R' w'
/-- the function's place in the program -/
def Here (P : Program) (g : FuncId) : Prop := ∃ fn, P.funcs[g]? = some fn ∧ fn.body.isNone = false ∧ (fn.name == "runtime.NumGoroutine") = false
/-- what function g does, called with these arguments over this memory: K holds behind it -/
structure Does (P : Program) (g : FuncId) (args : List AV) (h : List Ch) (K : KT) : Prop where
  here : Here P g
  run : ∀ (R : RO) (μ : List Bind) (w : World) (vs : List Value), LRel R μ args vs → HOk R μ h w → Calls P g vs.toArray w (Leads R μ h w K)

/-! ### Objects are opened -/
mutual
def renA (ρ : Nat → Nat) : AV → AV
  | .ptr t o => .ptr (ρ t) o
  | .ep t e i o => .ep (ρ t) e i o
  | .sl t e s l => .sl (ρ t) e s l
  | .mp t => .mp (ρ t)
  | .agg l => .agg (renL ρ l)
  | .tup l => .tup (renL ρ l)
  | .fn f l => .fn f (renL ρ l)
  | .ifc t a => .ifc t (renA ρ a)
  | .int k n => .int k n
  | .bool b => .bool b
  | .str s => .str s
  | .lit v => .lit v
  | .ro e xs => .ro e xs
  | .rp e xs i o => .rp e xs i o
  | .any => .any
def renL (ρ : Nat → Nat) : List AV → List AV
  | [] => []
  | a :: l => renA ρ a :: renL ρ l
end
def renC (ρ : Nat → Nat) : Ch → Ch
  | .cells vs => .cells (renL ρ vs)
  | .rows e xs => .rows e xs
  | .gone => .gone
  | .pack l => .pack l
  | .map kv => .map kv
def renCs (ρ : Nat → Nat) : List Ch → List Ch
  | [] => []
  | c :: l => renC ρ c :: renCs ρ l
/-- tag 0 is b, the others lie from n on -/
def rhoO (b n : Nat) : Nat → Nat
  | 0 => b
  | j + 1 => n + j
/-- object b, opened -/
def openH (h : List Ch) (b : Nat) (vs : List AV) (rest : List Ch) : List Ch := h.set b (.cells (renL (rhoO b h.length) vs)) ++ renCs (rhoO b h.length) rest
def openK (a : AV) (h : List Ch) (F : List Ch → Prop) : Prop :=
  match a with
  | .ptr b _ => (match hth h b with
    | .pack (.cells vs :: rest) => F (openH h b vs rest)
    | _ => F h)
  | _ => F h

mutual
theorem Rel.ren {m : List Bind} {ρ : Nat → Nat} (hm : ∀ (t : Nat) (B : Bind), m[t]? = some B → μ[ρ t]? = some B) : ∀ {a : AV} {v : Value}, Rel R m a v → Rel R μ (renA ρ a) v
  | .int _ _, _, h => by cases h; exact .int
  | .bool _, _, h => by cases h; exact .bool
  | .str _, _, h => by cases h; exact .str
  | .lit _, _, h => by cases h; exact .lit
  | .any, _, _ => .any
  | .agg l, _, h => by cases h with | agg h => exact .agg (LRel.ren hm h)
  | .tup l, _, h => by cases h with | tup h => exact .tup (LRel.ren hm h)
  | .fn _ l, _, h => by cases h with | fn h => exact .fn (LRel.ren hm h)
  | .ifc _ a, _, h => by cases h with | ifc h => exact .ifc (Rel.ren hm h)
  | .mp _, _, h => by cases h with | mp h => exact .mp (hm _ _ h)
  | .ptr _ _, _, h => by cases h with | ptr h hb => exact .ptr (hm _ _ h) hb
  | .ep _ _ _ _, _, h => by cases h with | ep h => exact .ep (hm _ _ h)
  | .sl t _ _ _, _, h => by
    cases h with
    | sl h hc hl hx => exact .sl (hm _ _ h) hc hl hx
    | sl0 h =>
      have := hm t _ (List.getElem?_eq_getElem h)
      exact .sl0 (List.getElem?_eq_some_iff.1 this).1
  | .ro _ _, _, h => by
    cases h with
    | ro h hl hc hx => exact .ro h hl hc hx
    | ro0 hx => exact .ro0 hx
  | .rp _ _ _ _, _, h => by cases h with | rp h hl hi => exact .rp h hl hi
theorem LRel.ren {m : List Bind} {ρ : Nat → Nat} (hm : ∀ (t : Nat) (B : Bind), m[t]? = some B → μ[ρ t]? = some B) : ∀ {l : List AV} {vs : List Value}, LRel R m l vs → LRel R μ (renL ρ l) vs
  | [], _, h => by cases h; exact .nil
  | a :: l, _, h => by cases h with | cons ha hl => exact .cons (Rel.ren hm ha) (LRel.ren hm hl)
end
theorem CRel.ren {m : List Bind} {ρ : Nat → Nat} (hm : ∀ (t : Nat) (B : Bind), m[t]? = some B → μ[ρ t]? = some B) {c : Ch} {B : Bind} (h : CRel R w m c B) : CRel R w μ (renC ρ c) B := by
  cases c with
  | cells vs =>
    obtain ⟨n, arr, ty, h1, h2, h3⟩ := h
    exact ⟨n, arr, ty, h1, h2, h3.ren hm⟩
  | rows e xs => exact h
  | gone => trivial
  | pack l => exact h
  | map kv => exact h
theorem HRel.ren {m : List Bind} {ρ : Nat → Nat} (hm : ∀ (t : Nat) (B : Bind), m[t]? = some B → μ[ρ t]? = some B) : ∀ {l : List Ch} {bl : List Bind}, HRel R w m l bl → HRel R w μ (renCs ρ l) bl
  | [], [], _ => trivial
  | c :: l, b :: bl, h => ⟨h.1.ren hm, HRel.ren hm h.2⟩
  | [], _ :: _, h => h.elim
  | _ :: _, [], h => h.elim
theorem renCs_own (ρ : Nat → Nat) : ∀ (l : List Ch) (bl : List Bind), ownH (renCs ρ l) bl = ownH l bl
  | [], _ => rfl
  | c :: l, [] => by simp [renCs, ownH]
  | c :: l, b :: bl => by
    simp only [renCs, ownH, renCs_own ρ l bl]
    congr 1
    cases c <;> cases b <;> rfl

/-- what a step that the machine does not see leaves -/
def GhostM (R : RO) (μ : List Bind) (h : List Ch) (w : World) (F : RO → List Bind → List Ch → Prop) : Prop :=
  ∃ R' μ' h', F R' μ' h' ∧ HOk R' μ' h' w ∧ R.le R' ∧ Ext μ μ' ∧ Step (ownH h μ) R w (ownH h' μ') R' w
theorem Ext.set {μ : List Bind} {t : Nat} {B B' : Bind} (h : μ[t]? = some B) (hb : BLe B B') : Ext μ (μ.set t B') := by
  refine ⟨by simp, fun {s C} hs => ?_⟩
  by_cases e : s = t
  · subst e
    rw [h] at hs
    cases hs
    exact ⟨B', by rw [List.getElem?_set_self (List.getElem?_eq_some_iff.1 h).1], hb⟩
  · exact ⟨C, by rw [List.getElem?_set_ne (Ne.symm e)]; exact hs, .refl _⟩

theorem HRel.swap {R R' : RO} (hR : R.le R') {w w' : World} {μ μ' : List Bind} (hm : Ext μ μ') {c c' : Ch} {B B' : Bind} (hc' : CRel R' w' μ' c' B') : ∀ {h : List Ch} {m : List Bind} {t : Nat}, HRel R w μ h m → (ownH h m).Nodup → h[t]? = some c → m[t]? = some B →
    (∀ n ∈ ownH h m, n ∉ ownC c B → w'.heap[n]? = w.heap[n]?) → HRel R' w' μ' (h.set t c') (m.set t B')
  | [], _, _, _, _, e, _, _ => by simp at e
  | _ :: _, [], _, h, _, _, _, _ => h.elim
  | c0 :: l, B0 :: m, 0, h, hn, e, e', hk => by
    simp at e e'; subst e; subst e'
    simp only [ownH, List.nodup_append] at hn
    exact ⟨hc', HRel.keep hR hm l m h.2 fun n hx => hk n (by simp [ownH, hx]) fun hy => hn.2.2 n hy n hx rfl⟩
  | c0 :: l, B0 :: m, t + 1, h, hn, e, e', hk => by
    simp only [ownH, List.nodup_append] at hn
    have e1 : l[t]? = some c := by simpa using e
    have e2 : m[t]? = some B := by simpa using e'
    refine ⟨CRel.keep hR hm c0 B0 h.1 fun n hx => hk n (by simp [ownH, hx]) fun hy => hn.2.2 n hx n (own_mem e1 e2 n hy) rfl, ?_⟩
    exact HRel.swap hR hm hc' h.2 hn.2.1 e1 e2 (fun n hx hy => hk n (by simp [ownH, hx]) hy)
theorem own_swap {c c' : Ch} {B B' : Bind} : ∀ {h : List Ch} {m : List Bind} {t : Nat}, (ownH h m).Nodup → h[t]? = some c → m[t]? = some B → ∀ b ∈ ownH (h.set t c') (m.set t B'), b ∈ ownC c' B' ∨ (b ∈ ownH h m ∧ b ∉ ownC c B)
  | [], _, _, _, e, _, _, _ => by simp at e
  | _ :: _, [], _, _, _, e, _, _ => by simp at e
  | c0 :: l, B0 :: m, 0, hn, e, e', b, hb => by
    simp at e e'; subst e; subst e'
    simp only [ownH, List.nodup_append] at hn
    simp only [List.set_cons_zero, ownH, List.mem_append] at hb ⊢
    rcases hb with hb | hb
    · exact .inl hb
    · exact .inr ⟨.inr hb, fun hx => hn.2.2 b hx b hb rfl⟩
  | c0 :: l, B0 :: m, t + 1, hn, e, e', b, hb => by
    simp only [ownH, List.nodup_append] at hn
    have e1 : l[t]? = some c := by simpa using e
    have e2 : m[t]? = some B := by simpa using e'
    simp only [List.set_cons_succ, ownH, List.mem_append] at hb ⊢
    rcases hb with hb | hb
    · exact .inr ⟨.inl hb, fun hx => hn.2.2 b hb b (own_mem e1 e2 b hx) rfl⟩
    · rcases own_swap hn.2.1 e1 e2 b hb with hb | hb
      · exact .inl hb
      · exact .inr ⟨.inr hb.1, hb.2⟩
theorem own_swap_nodup {c c' : Ch} {B B' : Bind} (hnd : (ownC c' B').Nodup) : ∀ {h : List Ch} {m : List Bind} {t : Nat}, (ownH h m).Nodup → h[t]? = some c → m[t]? = some B → (∀ b ∈ ownC c' B', b ∈ ownH h m → b ∈ ownC c B) → (ownH (h.set t c') (m.set t B')).Nodup
  | [], _, _, _, e, _, _ => by simp at e
  | _ :: _, [], _, _, _, e, _ => by simp at e
  | c0 :: l, B0 :: m, 0, hn, e, e', hd => by
    simp at e e'; subst e; subst e'
    simp only [ownH, List.nodup_append] at hn
    simp only [List.set_cons_zero, ownH, List.nodup_append]
    refine ⟨hnd, hn.2.1, fun a ha b hb hab => ?_⟩
    subst hab
    exact hn.2.2 a (hd a ha (by simp [ownH, hb])) a hb rfl
  | c0 :: l, B0 :: m, t + 1, hn, e, e', hd => by
    simp only [ownH, List.nodup_append] at hn
    have e1 : l[t]? = some c := by simpa using e
    have e2 : m[t]? = some B := by simpa using e'
    simp only [List.set_cons_succ, ownH, List.nodup_append]
    refine ⟨hn.1, own_swap_nodup hnd hn.2.1 e1 e2 (fun b hb hx => hd b hb (by simp [ownH, hx])), fun a ha b hb hab => ?_⟩
    subst hab
    rcases own_swap hn.2.1 e1 e2 a hb with hb | hb
    · exact hn.2.2 a ha a (own_mem e1 e2 a (hd a hb (by simp [ownH, ha]))) rfl
    · exact hn.2.2 a ha a hb.1 rfl
theorem own_nodup {c : Ch} {B : Bind} : ∀ {h : List Ch} {m : List Bind} {t : Nat}, (ownH h m).Nodup → h[t]? = some c → m[t]? = some B → (ownC c B).Nodup
  | [], _, _, _, e, _ => by simp at e
  | _ :: _, [], _, _, _, e => by simp at e
  | c0 :: l, B0 :: m, 0, hn, e1, e2 => by
    simp at e1 e2; subst e1; subst e2
    simp only [ownH, List.nodup_append] at hn
    exact hn.1
  | c0 :: l, B0 :: m, t + 1, hn, e1, e2 => by
    simp only [ownH, List.nodup_append] at hn
    exact own_nodup hn.2.1 (by simpa using e1) (by simpa using e2)

theorem open_ok (H : HOk R μ h w) {b : Nat} {vs : List AV} {rest : List Ch} (hc : hth h b = .pack (.cells vs :: rest)) :
    ∃ μ', HOk R μ' (openH h b vs rest) w ∧ Ext μ μ' ∧ Step (ownH h μ) R w (ownH (openH h b vs rest) μ') R w := by
  have hct := hth_get hc (by simp)
  obtain ⟨B, hB, ⟨bl, rfl, hl⟩, hown⟩ := H.rel.get hct
  cases bl with
  | nil => exact hl.elim
  | cons B0 bl =>
    have hrel : CRel R w (B0 :: bl) (.cells vs) B0 := hl.1
    have hB0 : ∃ n, B0 = .cel n := by obtain ⟨n, _, _, e, _⟩ := hrel; exact ⟨n, e⟩
    obtain ⟨n, rfl⟩ := hB0
    have hlen := H.rel.len
    have hbl : rest.length = bl.length := hl.2.len
    have hlt : b < μ.length := (List.getElem?_eq_some_iff.1 hB).1
    have hnd := own_nodup H.nodup hct hB
    simp only [ownC, ownH, List.singleton_append, List.nodup_cons] at hnd
    have hext : Ext μ (μ.set b (.cel n)) := Ext.set hB (.inr ⟨n, rfl, rfl⟩)
    have hm : ∀ (t : Nat) (C : Bind), (Bind.cel n :: bl)[t]? = some C → (μ.set b (.cel n) ++ bl)[rhoO b h.length t]? = some C := by
      intro t C ht
      cases t with
      | zero =>
        simp only [List.getElem?_cons_zero, Option.some.injEq] at ht
        subst ht
        simp only [rhoO]
        rw [List.getElem?_append_left (by simpa using hlt), List.getElem?_set_self hlt]
      | succ t =>
        simp only [List.getElem?_cons_succ] at ht
        simp only [rhoO]
        rw [List.getElem?_append_right (by simp; omega)]
        simpa [hlen] using ht
    have hext2 : Ext μ (μ.set b (.cel n) ++ bl) := hext.trans (Ext.app _ _)
    have hr1 : HRel R w (μ.set b (.cel n) ++ bl) (h.set b (.cells (renL (rhoO b h.length) vs))) (μ.set b (.cel n)) :=
      HRel.swap (RO.le.refl R) hext2 (c' := .cells (renL (rhoO b h.length) vs)) (B' := .cel n) (hrel.ren hm) H.rel H.nodup hct hB (fun _ _ _ => rfl)
    have hr2 : HRel R w (μ.set b (.cel n) ++ bl) (renCs (rhoO b h.length) rest) bl := hl.2.ren hm
    have ho : ownH (openH h b vs rest) (μ.set b (.cel n) ++ bl) = ownH (h.set b (.cells (renL (rhoO b h.length) vs))) (μ.set b (.cel n)) ++ ownH rest bl := by
      unfold openH
      rw [ownH_app _ _ _ _ (by simpa using hlen), renCs_own]
    have hsub1 : ∀ x ∈ ownH (h.set b (.cells (renL (rhoO b h.length) vs))) (μ.set b (.cel n)), x = n ∨ (x ∈ ownH h μ ∧ x ∉ ownC (.pack (.cells vs :: rest)) (.pack (.cel n :: bl))) := fun x hx => by
      rcases own_swap H.nodup hct hB x hx with h1 | h1
      · simp only [ownC, List.mem_singleton] at h1; exact .inl h1
      · exact .inr h1
    have hn : n ∈ ownH h μ := hown n (by simp [ownC, ownH])
    have hrest : ∀ x ∈ ownH rest bl, x ∈ ownH h μ := fun x hx => hown x (by simp [ownC, ownH, hx])
    have hmem : ∀ x ∈ ownH (openH h b vs rest) (μ.set b (.cel n) ++ bl), x ∈ ownH h μ := fun x hx => by
      rw [ho, List.mem_append] at hx
      rcases hx with hx | hx
      · rcases hsub1 x hx with rfl | h1
        · exact hn
        · exact h1.1
      · exact hrest x hx
    refine ⟨_, ⟨HRel.app hr1 hr2, ?_, fun x hx => H.own x (hmem x hx), H.ro⟩, hext2, ⟨RO.le.refl R, Nat.le_refl _, fun _ _ _ => rfl, fun x hx => .inl (hmem x hx), fun _ _ hx => .inl hx, rfl, rfl, rfl⟩⟩
    rw [ho, List.nodup_append]
    refine ⟨own_swap_nodup (by simp [ownC]) H.nodup hct hB (fun x hx _ => by simp [ownC, ownH] at hx ⊢; exact .inl hx), hnd.2, fun x hx y hy e => ?_⟩
    subst e
    rcases hsub1 x hx with rfl | h1
    · exact hnd.1 hy
    · exact h1.2 (by simp [ownC, ownH, hy])
theorem openK_ok (H : HOk R μ h w) {a : AV} {F : List Ch → Prop} (hK : openK a h F) : GhostM R μ h w fun R' _ h' => F h' ∧ R' = R := by
  unfold openK at hK
  split at hK
  · split at hK
    · rename_i hc
      obtain ⟨μ', h1, h2, h3⟩ := open_ok H hc
      exact ⟨R, μ', _, ⟨hK, rfl⟩, h1, RO.le.refl R, h2, h3⟩
    · exact ⟨R, μ, h, ⟨hK, rfl⟩, H, RO.le.refl R, Ext.refl μ, Step.refl _ _ _⟩
  · exact ⟨R, μ, h, ⟨hK, rfl⟩, H, RO.le.refl R, Ext.refl μ, Step.refl _ _ _⟩

def fieldK (P : Program) (f : Option (Nat × TypeId)) (x : AV) (K : AV → Prop) : Prop :=
  match f, x with
  | some (o, ft), .agg l => (o + szT P ft ≤ l.length ∧ szT P ft ≠ 0 ∧ kdT P ft ≠ .other) ∧ K (partA P ft l o)
  | _, _ => False
def mmK (mx : Bool) : List AV → (AV → Prop) → Prop
  | [], _ => False
  | .int k x :: r, K => go k x r K
  | _ :: _, _ => False
  where go (k : IntKind) (x : Int) : List AV → (AV → Prop) → Prop
  | [], K => K (.int k x)
  | .int _ y :: r, K => go k (if mx then max x y else min x y) r K
  | _ :: _, _ => False
def optA (tm : List AV) : Option Operand → Option AV
  | none => none
  | some x => some (evA tm x)
def evAs (tm : List AV) (l : List Operand) : List AV := l.map (evA tm)
def evPs (tm : List AV) (l : List (Nat × Operand)) : List (Nat × AV) := l.map fun p => (p.1, evA tm p.2)
variable [ETab]
def callK (P : Program) (c : Call) (tm : List AV) (h : List Ch) (K : KT) : Prop :=
  match c.callee with
  | .value f => (match evA tm f with
    | .fn g caps => Does P g (evAs tm c.args.toList ++ caps) h K
    | _ => False)
  | .builtin .len => (match c.args.toList, c.argTypes.toList with
    | [x], [t] => lenTK (kdT P t) (evA tm x) fun v => K v h
    | _, _ => False)
  | .builtin .append => (match c.args.toList, c.argTypes.toList with
    | [s, x], [t, tx] => appK P t tx (evA tm s) (evA tm x) h K
    | _, _ => False)
  | .builtin .min => mmK false (evAs tm c.args.toList) fun v => K v h
  | .builtin .max => mmK true (evAs tm c.args.toList) fun v => K v h
  | _ => False
def opK (P : Program) (o : Op) (tm : List AV) (h : List Ch) (K : KT) : Prop :=
  match o with
  | .move x => K (evA tm x) h
  | .assign x => K (evA tm x) h
  | .pick c a b => pickK (evA tm c) (evA tm a) (evA tm b) fun v => K v h
  | .alloc t => allocK P t h K
  | .box _ x => boxK (evA tm x) h K
  | .build t parts => buildK P t (evPs tm parts.toList) fun v => K v h
  | .buildSlice t n parts => bsK P t n (evPs tm parts.toList) h K
  | .load t a => openK (evA tm a) h fun h => loadK P t (evA tm a) h fun v => K v h
  | .store t a x => openK (evA tm a) h fun h => storeK P t (evA tm a) (evA tm x) h fun h => K .any h
  | .nilCheck x => nilCheckK (evA tm x) fun v => K v h
  | .binOp op t x y _ => binK P op t (evA tm x) (evA tm y) fun v => K v h
  | .unOp op _ x => unK op (evA tm x) fun v => K v h
  | .convert src dst x => convHK P src dst (evA tm x) h K
  | .extract x i => extractK (evA tm x) i fun v => K v h
  | .fieldAddr s x f => fldAddrK (fldT P s f) (evA tm x) fun v => K v h
  | .field s x f => fieldK P (fldT P s f) (evA tm x) fun v => K v h
  | .indexAddr t x i => idxAddrK P (kdT P t) (evA tm x) (evA tm i) fun v => K v h
  | .index t x i => (match kdT P t with | .array _ e => szT P e ≠ 0 ∧ kdT P e ≠ .other | _ => True) ∧ idxK P (kdT P t) (evA tm x) (evA tm i) fun v => K v h
  | .slice t x lo hi none => sliceK P (kdT P t) (evA tm x) (optA tm lo) (optA tm hi) fun v => K v h
  | .makeSlice t l c => mkK P t (evA tm l) (evA tm c) h K
  | .makeFunc (.func f) first caps => (first.toList = []) ∧ K (.fn f (evAs tm caps.toList)) h
  | .call c => callK P c tm h K
  | _ => False

omit [ETab] in
theorem evAs_rel {tm : List AV} {a : Act} (ht : LRel R μ tm a.tmps.toList) : ∀ l : List Operand, LRel R μ (evAs tm l) (l.map a.eval)
  | [] => .nil
  | x :: l => .cons (evA_rel ht x) (evAs_rel ht l)
omit [ETab] in
theorem evPs_rel {tm : List AV} {a : Act} (ht : LRel R μ tm a.tmps.toList) : ∀ l : List (Nat × Operand), PRel R μ (evPs tm l) (l.map fun p => (p.1, a.eval p.2))
  | [] => .nil
  | x :: l => .cons (evA_rel ht x.2) (evPs_rel ht l)

/-- what holds behind an operation -/
def Aft (R : RO) (μ : List Bind) (h : List Ch) (w : World) (a : Act) (dst : Option Tmp) (K : KT) : Act → World → Prop := fun a' w' =>
  ∃ R' μ' h' av v, K av h' ∧ a' = a.put dst v ∧ Rel R' μ' av v ∧ HOk R' μ' h' w' ∧ Ext μ μ' ∧ Step (ownH h μ) R w (ownH h' μ') R' w'

omit [ETab] in
theorem aft_pure {o : Oper} {a : Act} {K : KT} {Q : Exit → Act → World → Prop} {s : Sem Value} (H : HOk R μ h w) (hx : execOp a.eval o = (do pure (.value (← s)))) (hg : Gives P R μ (fun v => K v h) s) : Oper.wp P o a w (Aft R μ h w a o.dst K) Q := by
  obtain ⟨v, av, h1, h2, h3⟩ := hg
  unfold Oper.wp
  rw [hx, Sem.run_bind, h3]
  exact ⟨R, μ, h, av, v, h1, rfl, h2, H, Ext.refl μ, Step.refl _ _ _⟩
omit [ETab] in
theorem aft_mem {o : Oper} {a : Act} {K : KT} {Q : Exit → Act → World → Prop} {s : Sem Value} (hx : execOp a.eval o = (do pure (.value (← s)))) (hg : GivesH P R μ h w K s) : Oper.wp P o a w (Aft R μ h w a o.dst K) Q := by
  obtain ⟨v, w', R', μ', h', av, h1, h2, h3, h4, h5, h6⟩ := hg
  unfold Oper.wp
  rw [hx, Sem.run_bind, h1]
  exact ⟨R', μ', h', av, v, h2, rfl, h3, h4, h5, h6⟩
omit [ETab] in
theorem aft_call {o : Oper} {a : Act} {K : KT} {Q : Exit → Act → World → Prop} {g : FuncId} {args : List AV} {vs : List Value} (H : HOk R μ h w) (hv : LRel R μ args vs) (hK : Does P g args h K) (hx : execOp a.eval o = callFunc g vs.toArray) : Oper.wp P o a w (Aft R μ h w a o.dst K) Q := by
  obtain ⟨⟨fn, h1, h2, h3⟩, h4⟩ := hK
  unfold Oper.wp
  have hrun : (callFunc g vs.toArray).run P w = .ok (.enter g vs.toArray) w := by
    simp only [callFunc, Sem.run_bind, run_program, Result.andThen_ok, h1, h3, h2, Bool.false_eq_true, if_false, Sem.run_pure]
  rw [hx, hrun, Oper.upon_enter]
  refine (h4 R μ w vs hv H).mono fun e w' hl => ?_
  obtain ⟨v, R', μ', h', av, rfl, hk, hr, H', he, hs⟩ := hl
  exact ⟨R', μ', h', av, v, hk, rfl, hr, H', he, hs⟩
omit [ETab] in
theorem Aft.ghost {R' : RO} {μ' : List Bind} {h' : List Ch} {a : Act} {dst : Option Tmp} {K : KT} (hm : Ext μ μ') (st : Step (ownH h μ) R w (ownH h' μ') R' w) {a' : Act} {w' : World} (hq : Aft R' μ' h' w a dst K a' w') : Aft R μ h w a dst K a' w' := by
  obtain ⟨R2, μ2, h2, av, v, h1, h3, h4, h5, h6, h7⟩ := hq
  exact ⟨R2, μ2, h2, av, v, h1, h3, h4, h5, hm.trans h6, st.trans h7⟩

omit [ETab] in
theorem fieldK_ok {s f : Nat} {x : AV} {vx : Value} {K : AV → Prop} (hx : Rel R μ x vx) (hK : fieldK P (fldT P s f) x K) : Gives P R μ K (Instr.field s vx f) := by
  unfold fieldK at hK
  split at hK
  · rename_i o ft l hf
    obtain ⟨⟨h1, h2, h3⟩, hK⟩ := hK
    obtain ⟨fs, y, hu, hy, rfl, rfl, _⟩ := fld_ok hf
    cases hx with
    | agg hl =>
      obtain ⟨v, hv, hr⟩ := part_ok h2 h3 hl _ h1
      exact .mk hK hv fun w => by simp [Instr.field, run_underlying hu, hy, asAgg, hr]
  · exact hK.elim
omit [ETab] in
theorem mm_go {mx : Bool} {k : IntKind} {K : AV → Prop} (f : Value → Value → Sem Value) (hf : ∀ k x k' y, f (.int k x) (.int k' y) = pure (.int k (if mx then max x y else min x y))) : ∀ (l : List AV) (vs : List Value) (x : Int), LRel R μ l vs → mmK.go mx k x l K → Gives P R μ K (vs.foldlM f (.int k x))
  | [], _, x, hl, hK => by cases hl; exact .mk hK .int fun w => rfl
  | a :: l, _, x, hl, hK => by
    cases hl with
    | cons ha hl =>
      cases a <;> simp only [mmK.go] at hK
      case int k' y =>
        cases ha
        rw [List.foldlM_cons, hf]
        exact mm_go f hf l _ _ hl hK
omit [ETab] in
theorem mmK_ok {mx : Bool} {K : AV → Prop} (f : Value → Value → Sem Value) (hf : ∀ k x k' y, f (.int k x) (.int k' y) = pure (.int k (if mx then max x y else min x y))) {l : List AV} {vs : List Value} (hl : LRel R μ l vs) (hK : mmK mx l K) :
    ∃ v vs', vs = v :: vs' ∧ Gives P R μ K (vs'.foldlM f v) := by
  unfold mmK at hK
  split at hK
  · exact hK.elim
  · cases hl with
    | cons ha hl => cases ha; exact ⟨_, _, rfl, mm_go f hf _ _ _ hl hK⟩
  · exact hK.elim

theorem opK_ok {o : Oper} {tm : List AV} {a : Act} {K : KT} {Q : Exit → Act → World → Prop} (H : HOk R μ h w) (ht : LRel R μ tm a.tmps.toList) (hK : opK P o.op tm h K) : Oper.wp P o a w (Aft R μ h w a o.dst K) Q := by
  unfold opK at hK
  split at hK <;> rename_i ho <;> try exact hK.elim
  · exact aft_pure (s := pure _) H (by simp [execOp, ho]) (.mk hK (evA_rel ht _) fun w => rfl)
  · exact aft_pure (s := pure _) H (by simp [execOp, ho]) (.mk hK (evA_rel ht _) fun w => rfl)
  · rename_i c x y
    have hc := evA_rel ht c
    unfold pickK at hK
    split at hK
    · rename_i b hb
      rw [hb] at hc
      have hK' := splitB_ite hK
      refine aft_pure (s := do pure (if ← asBool (a.eval c) then a.eval x else a.eval y)) H (by simp [execOp, ho]) ?_
      cases hcv : a.eval c with
      | bool b' =>
        rw [hcv] at hc
        cases hc
        cases b
        · exact .mk hK' (evA_rel ht y) fun w => by simp [asBool]
        · exact .mk hK' (evA_rel ht x) fun w => by simp [asBool]
      | _ => rw [hcv] at hc; cases hc
    · exact hK.elim
  · exact aft_mem (by simp only [execOp, ho]) (allocK_ok H hK)
  · rename_i t x
    exact aft_mem (s := Instr.box t (a.eval x)) (by simp only [execOp, ho]) (boxK_ok H (evA_rel ht _) hK)
  · rename_i t parts
    have := buildK_ok (evPs_rel ht parts.toList) hK
    rw [show ((parts.toList.map fun p => (p.1, a.eval p.2)).toArray) = parts.map fun (i, x) => (i, a.eval x) from by apply Array.ext'; simp] at this
    exact aft_pure H (by simp only [execOp, ho]) this
  · rename_i t n parts
    have := bsK_ok H (evPs_rel ht parts.toList) hK
    rw [show ((parts.toList.map fun p => (p.1, a.eval p.2)).toArray) = parts.map fun (i, x) => (i, a.eval x) from by apply Array.ext'; simp] at this
    exact aft_mem (by simp only [execOp, ho]) this
  · obtain ⟨R', μ', h', ⟨hK, rfl⟩, H', hR, hm, hst⟩ := openK_ok H hK
    obtain ⟨v, av, h1, h2, h3⟩ := loadK_ok H' (evA_rel (ht.mono hR hm) _) hK
    refine Oper.wp_mono (fun _ _ => Aft.ghost hm hst) (aft_mem (by simp only [execOp, ho]) ⟨v, w, _, μ', h', av, h3, h1, h2, H', Ext.refl μ', Step.refl _ _ _⟩)
  · obtain ⟨R', μ, h, ⟨hK, rfl⟩, H, hR, hm, hst⟩ := openK_ok H hK
    replace ht := ht.mono hR hm
    refine Oper.wp_mono (fun _ _ => Aft.ghost hm hst) ?_
    obtain ⟨w', h', h1, h2, h3, h4⟩ := storeK_ok H (evA_rel ht _) (evA_rel ht _) hK
    unfold Oper.wp
    simp only [execOp, ho, Sem.run_bind, h1, Result.andThen_ok, Sem.run_pure, Oper.upon_skip]
    exact ⟨_, μ, h', .any, undef, h2, rfl, .any, h3, Ext.refl μ, h4⟩
  · rename_i x
    have hx := evA_rel ht x
    have key : K (evA tm x) h ∧ execOp a.eval o = pure (.value (a.eval x)) := by
      unfold nilCheckK at hK
      generalize hv : a.eval x = v at hx
      split at hK
      case h_5 => exact hK.elim
      all_goals
        rename_i he
        rw [he] at hx
        cases hx
        exact ⟨he ▸ hK, by simp [execOp, ho, hv]⟩
    refine aft_pure (s := pure (a.eval x)) H (by rw [key.2]; rfl) (.mk key.1 hx fun w => rfl)
  · rename_i op t x y yt
    exact aft_pure H (by simp only [execOp, ho]) (binK_ok (op := op) (t := t) (X := x) (Y := y) (evA_rel ht _) (evA_rel ht _) hK)
  · exact aft_pure H (by simp only [execOp, ho]) (unK_ok (evA_rel ht _) hK)
  · exact aft_mem (by simp only [execOp, ho]) (convHK_ok H (evA_rel ht _) hK)
  · exact aft_pure H (by simp only [execOp, ho]) (extractK_ok (evA_rel ht _) hK)
  · exact aft_pure H (by simp only [execOp, ho]) (fldAddrK_ok (evA_rel ht _) hK)
  · exact aft_pure H (by simp only [execOp, ho]) (fieldK_ok (evA_rel ht _) hK)
  · exact aft_pure H (by simp only [execOp, ho]) (idxAddrK_ok (evA_rel ht _) (evA_rel ht _) hK)
  · obtain ⟨h1, hK⟩ := hK
    exact aft_pure H (by simp only [execOp, ho]) (idxK_ok (evA_rel ht _) (evA_rel ht _) (fun n e he => by rw [he] at h1; exact h1) hK)
  · rename_i t x lo hi
    refine aft_pure H (s := Instr.sliceAt t (a.eval x) (lo.map a.eval) (hi.map a.eval) none) (by simp only [execOp, ho, Option.map_none]) (sliceK_ok (evA_rel ht _) ?_ ?_ ?_ ?_ hK)
    · intro b hb; cases lo <;> simp [optA] at hb; subst hb; exact ⟨_, rfl, evA_rel ht _⟩
    · intro hb; cases lo <;> simp [optA] at hb; rfl
    · intro b hb; cases hi <;> simp [optA] at hb; subst hb; exact ⟨_, rfl, evA_rel ht _⟩
    · intro hb; cases hi <;> simp [optA] at hb; rfl
  · exact aft_mem (by simp only [execOp, ho]) (mkK_ok H (evA_rel ht _) (evA_rel ht _) hK)
  · rename_i f first caps
    obtain ⟨h1, hK⟩ := hK
    have h2 : first = #[] := Array.ext' (by simpa using h1)
    subst h2
    refine aft_pure (s := pure (.func (.func f) #[] (caps.map a.eval))) H (by simp [execOp, ho, Instr.makeFunc]) (.mk hK ?_ fun w => rfl)
    have := Rel.fn (f := f) (evAs_rel ht caps.toList)
    rw [show (caps.toList.map a.eval).toArray = caps.map a.eval from by apply Array.ext'; simp] at this
    exact this
  · rename_i c
    unfold callK at hK
    split at hK
    · rename_i f hc
      have hf := evA_rel ht f
      split at hK
      · rename_i g caps hg
        rw [hg] at hf
        cases hfv : a.eval f with
        | func fn first captured =>
          rw [hfv] at hf
          cases hf with
          | @fn _ _ _ vs hcaps =>
            refine aft_call H ((evAs_rel ht c.args.toList).app hcaps) hK ?_
            simp [execOp, ho, resolve, hc, hfv, Deferred.ofValue, invoke]
            congr 1
            apply Array.ext'
            simp
        | _ => rw [hfv] at hf; cases hf
      · exact hK.elim
    · rename_i hc
      split at hK
      · rename_i x t h1 h2
        refine aft_pure (s := Builtin.len_ #[t] o.type #[a.eval x]) H ?_ (lenK_ok (evA_rel ht x) hK)
        have e1 : c.args = #[x] := Array.ext' (by simpa using h1)
        have e2 : c.argTypes = #[t] := Array.ext' (by simpa using h2)
        simp [execOp, ho, resolve, hc, invoke, builtin, e1, e2]
      · exact hK.elim
    · rename_i hc
      split at hK
      · rename_i s x t tx h1 h2
        refine aft_mem (s := Builtin.append_ #[t, tx] o.type #[a.eval s, a.eval x]) ?_ (appK_ok H (evA_rel ht s) (evA_rel ht x) hK)
        have e1 : c.args = #[s, x] := Array.ext' (by simpa using h1)
        have e2 : c.argTypes = #[t, tx] := Array.ext' (by simpa using h2)
        simp [execOp, ho, resolve, hc, invoke, builtin, e1, e2]
      · exact hK.elim
    · rename_i hc
      obtain ⟨v, vs', h1, h2⟩ := mmK_ok Builtin.min2 (fun k x k' y => by simp only [Builtin.min2, Bool.false_eq_true, if_false]; congr 2; omega) (evAs_rel ht c.args.toList) hK
      refine aft_pure (s := vs'.foldlM Builtin.min2 v) H ?_ h2
      simp [execOp, ho, resolve, hc, invoke, builtin, Builtin.min_, h1]
    · rename_i hc
      obtain ⟨v, vs', h1, h2⟩ := mmK_ok Builtin.max2 (fun k x k' y => by simp only [Builtin.max2, if_true]; congr 2; omega) (evAs_rel ht c.args.toList) hK
      refine aft_pure (s := vs'.foldlM Builtin.max2 v) H ?_ h2
      simp [execOp, ho, resolve, hc, invoke, builtin, Builtin.max_, h1]
    · exact hK.elim
end Go.V
