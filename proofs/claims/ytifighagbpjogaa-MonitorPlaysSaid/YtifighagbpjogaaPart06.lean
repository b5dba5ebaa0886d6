/-
  One operation, and a region whose order is fixed.
-/
import Derived.Test.YtifighagbpjogaaPart05
import Derived.Maps.RangeRun
set_option linter.unusedVariables false
set_option linter.unusedSimpArgs false
namespace Go.V

variable {P : Program} {R : RO} {μ : List Bind} {h : List Ch} {w : World}

abbrev KT := AV → List Ch → Prop

/-- what a call must lead to -/
def Leads (R : RO) (μ : List Bind) (h : List Ch) (w : World) (K : KT) : Ending → World → Prop := fun e w' =>
  ∃ v R' μ' h' av, e = .returned v ∧ K av h' ∧ Rel R' μ' av v ∧ HOk R' μ' h' w' ∧ Ext μ μ' ∧ Step (ownH h μ) R w (ownH h' μ') R' w'
/-- the function's place in the program -/
def Here (P : Program) (g : FuncId) : Prop := ∃ fn, P.funcs[g]? = some fn ∧ fn.body.isNone = false ∧ (fn.name == "runtime.NumGoroutine") = false
/-- what function g does, called with these arguments over this memory: K holds behind it -/
structure Does (P : Program) (g : FuncId) (args : List AV) (h : List Ch) (K : KT) : Prop where
  here : Here P g
  run : ∀ (R : RO) (μ : List Bind) (w : World) (vs : List Value), LRel R μ args vs → HOk R μ h w → Calls P g vs.toArray w (Leads R μ h w K)

/-! ### Objects are opened -/
mutual
def renA (ρ : Nat → Nat) : AV → AV
  | .ptr t o => .ptr (ρ t) o
  | .csl t n s => .csl (ρ t) n s
  | .ep t e i o => .ep (ρ t) e i o
  | .sl t e s l => .sl (ρ t) e s l
  | .mp t => .mp (ρ t)
  | .agg l => .agg (renL ρ l)
  | .tup l => .tup (renL ρ l)
  | .fn f l => .fn f (renL ρ l)
  | .ifc t a => .ifc t (renA ρ a)
  | .int k n => .int k n
  | .bool b => .bool b
  | .str s => .str s
  | .lit v => .lit v
  | .ro e xs => .ro e xs
  | .rp e xs i o => .rp e xs i o
  | .rc e xs => .rc e xs
  | .any => .any
def renL (ρ : Nat → Nat) : List AV → List AV
  | [] => []
  | a :: l => renA ρ a :: renL ρ l
end
def renC (ρ : Nat → Nat) : Ch → Ch
  | .cells vs => .cells (renL ρ vs)
  | .crow vs => .crow (renL ρ vs)
  | .rows e xs => .rows e xs
  | .gone => .gone
  | .pack l => .pack l
  | .map k e kv => .map k e kv
  | .iter g k e kv todo last => .iter (ρ g) k e kv todo last
def renCs (ρ : Nat → Nat) : List Ch → List Ch
  | [] => []
  | c :: l => renC ρ c :: renCs ρ l
/-- tag 0 is b, the others lie from n on -/
def rhoO (b n : Nat) : Nat → Nat
  | 0 => b
  | j + 1 => n + j
/-- object b, opened -/
def openH (h : List Ch) (b : Nat) (vs : List AV) (rest : List Ch) : List Ch := h.set b (.cells (renL (rhoO b h.length) vs)) ++ renCs (rhoO b h.length) rest
def openK (a : AV) (h : List Ch) (F : List Ch → Prop) : Prop :=
  match a with
  | .ptr b _ => (match hth h b with
    | .pack (.cells vs :: rest) => F (openH h b vs rest)
    | _ => F h)
  | _ => F h

mutual
theorem Rel.ren {m : List Bind} {ρ : Nat → Nat} (hm : ∀ (t : Nat) (B : Bind), m[t]? = some B → μ[ρ t]? = some B) : ∀ {a : AV} {v : Value}, Rel R m a v → Rel R μ (renA ρ a) v
  | .int _ _, _, h => by cases h; exact .int
  | .bool _, _, h => by cases h; exact .bool
  | .str _, _, h => by cases h; exact .str
  | .lit _, _, h => by cases h; exact .lit
  | .any, _, _ => .any
  | .agg l, _, h => by cases h with | agg h => exact .agg (LRel.ren hm h)
  | .tup l, _, h => by cases h with | tup h => exact .tup (LRel.ren hm h)
  | .fn _ l, _, h => by cases h with | fn h => exact .fn (LRel.ren hm h)
  | .ifc _ a, _, h => by cases h with | ifc h => exact .ifc (Rel.ren hm h)
  | .mp _, _, h => by cases h with | mp h => exact .mp (hm _ _ h)
  | .ptr _ _, _, h => by cases h with | ptr h hb => exact .ptr (hm _ _ h) hb
  | .csl _ _ _, _, h => by cases h with | csl h hb hl hx => exact .csl (hm _ _ h) hb hl hx
  | .ep _ _ _ _, _, h => by cases h with | ep h => exact .ep (hm _ _ h)
  | .sl t _ _ _, _, h => by
    cases h with
    | sl h hc hl hx => exact .sl (hm _ _ h) hc hl hx
    | sl0 h =>
      exact .sl0 (h.imp (hm t _) fun q => ⟨q.1, (List.getElem?_eq_some_iff.1 (hm t _ (List.getElem?_eq_getElem q.2))).1⟩)
  | .ro _ _, _, h => by
    cases h with
    | ro h hl hc hx => exact .ro h hl hc hx
    | ro0 hx => exact .ro0 hx
  | .rp _ _ _ _, _, h => by cases h with | rp h hl hi => exact .rp h hl hi
  | .rc _ _, _, h => by
    cases h with
    | rc h hl hx => exact .rc h hl hx
    | rc0 => exact .rc0
theorem LRel.ren {m : List Bind} {ρ : Nat → Nat} (hm : ∀ (t : Nat) (B : Bind), m[t]? = some B → μ[ρ t]? = some B) : ∀ {l : List AV} {vs : List Value}, LRel R m l vs → LRel R μ (renL ρ l) vs
  | [], _, h => by cases h; exact .nil
  | a :: l, _, h => by cases h with | cons ha hl => exact .cons (Rel.ren hm ha) (LRel.ren hm hl)
end
theorem CRel.ren {m : List Bind} {ρ : Nat → Nat} (hm : ∀ (t : Nat) (B : Bind), m[t]? = some B → μ[ρ t]? = some B) {c : Ch} {B : Bind} (h : CRel R w m c B) : CRel R w μ (renC ρ c) B := by
  cases c with
  | cells vs =>
    obtain ⟨n, arr, ty, h1, h2, h3⟩ := h
    exact ⟨n, arr, ty, h1, h2, h3.ren hm⟩
  | crow vs =>
    obtain ⟨n, arr, ty, h1, h2, h3⟩ := h
    have h4 := h3.ren hm
    exact ⟨n, arr, ty, h1, h2, by rw [show (renL ρ vs).length = vs.length from h4.len.trans h3.len.symm]; exact h4⟩
  | rows e xs => exact h
  | gone => trivial
  | pack l => exact h
  | map kv => exact h
  | iter g k e kv todo last =>
    obtain ⟨r, n, es, clock, seen, kv0, td0, h1, h2, h3⟩ := h
    exact ⟨r, n, es, clock, seen, kv0, td0, h1, hm _ _ h2, h3⟩
theorem HRel.ren {m : List Bind} {ρ : Nat → Nat} (hm : ∀ (t : Nat) (B : Bind), m[t]? = some B → μ[ρ t]? = some B) : ∀ {l : List Ch} {bl : List Bind}, HRel R w m l bl → HRel R w μ (renCs ρ l) bl
  | [], [], _ => trivial
  | c :: l, b :: bl, h => ⟨h.1.ren hm, HRel.ren hm h.2⟩
  | [], _ :: _, h => h.elim
  | _ :: _, [], h => h.elim
theorem renCs_own (ρ : Nat → Nat) : ∀ (l : List Ch) (bl : List Bind), ownH (renCs ρ l) bl = ownH l bl
  | [], _ => rfl
  | c :: l, [] => by simp [renCs, ownH]
  | c :: l, b :: bl => by
    simp only [renCs, ownH, renCs_own ρ l bl]
    congr 1
    cases c <;> cases b <;> rfl

/-- what a step that the machine does not see leaves -/
def GhostM (R : RO) (μ : List Bind) (h : List Ch) (w : World) (F : RO → List Bind → List Ch → Prop) : Prop :=
  ∃ R' μ' h', F R' μ' h' ∧ HOk R' μ' h' w ∧ R.le R' ∧ Ext μ μ' ∧ Step (ownH h μ) R w (ownH h' μ') R' w
theorem Ext.set {μ : List Bind} {t : Nat} {B B' : Bind} (h : μ[t]? = some B) (hb : BLe B B') : Ext μ (μ.set t B') := by
  refine ⟨by simp, fun {s C} hs => ?_⟩
  by_cases e : s = t
  · subst e
    rw [h] at hs
    cases hs
    exact ⟨B', by rw [List.getElem?_set_self (List.getElem?_eq_some_iff.1 h).1], hb⟩
  · exact ⟨C, by rw [List.getElem?_set_ne (Ne.symm e)]; exact hs, .refl _⟩

theorem HRel.swap {R R' : RO} (hR : R.le R') {w w' : World} {μ μ' : List Bind} (hm : Ext μ μ') {c c' : Ch} {B B' : Bind} (hc' : CRel R' w' μ' c' B') : ∀ {h : List Ch} {m : List Bind} {t : Nat}, HRel R w μ h m → (ownH h m).Nodup → h[t]? = some c → m[t]? = some B →
    (∀ n ∈ ownH h m, n ∉ ownC c B → w'.heap[n]? = w.heap[n]?) → HRel R' w' μ' (h.set t c') (m.set t B')
  | [], _, _, _, _, e, _, _ => by simp at e
  | _ :: _, [], _, h, _, _, _, _ => h.elim
  | c0 :: l, B0 :: m, 0, h, hn, e, e', hk => by
    simp at e e'; subst e; subst e'
    simp only [ownH, List.nodup_append] at hn
    exact ⟨hc', HRel.keep hR hm l m h.2 fun n hx => hk n (by simp [ownH, hx]) fun hy => hn.2.2 n hy n hx rfl⟩
  | c0 :: l, B0 :: m, t + 1, h, hn, e, e', hk => by
    simp only [ownH, List.nodup_append] at hn
    have e1 : l[t]? = some c := by simpa using e
    have e2 : m[t]? = some B := by simpa using e'
    refine ⟨CRel.keep hR hm c0 B0 h.1 fun n hx => hk n (by simp [ownH, hx]) fun hy => hn.2.2 n hx n (own_mem e1 e2 n hy) rfl, ?_⟩
    exact HRel.swap hR hm hc' h.2 hn.2.1 e1 e2 (fun n hx hy => hk n (by simp [ownH, hx]) hy)
theorem own_swap {c c' : Ch} {B B' : Bind} : ∀ {h : List Ch} {m : List Bind} {t : Nat}, (ownH h m).Nodup → h[t]? = some c → m[t]? = some B → ∀ b ∈ ownH (h.set t c') (m.set t B'), b ∈ ownC c' B' ∨ (b ∈ ownH h m ∧ b ∉ ownC c B)
  | [], _, _, _, e, _, _, _ => by simp at e
  | _ :: _, [], _, _, _, e, _, _ => by simp at e
  | c0 :: l, B0 :: m, 0, hn, e, e', b, hb => by
    simp at e e'; subst e; subst e'
    simp only [ownH, List.nodup_append] at hn
    simp only [List.set_cons_zero, ownH, List.mem_append] at hb ⊢
    rcases hb with hb | hb
    · exact .inl hb
    · exact .inr ⟨.inr hb, fun hx => hn.2.2 b hx b hb rfl⟩
  | c0 :: l, B0 :: m, t + 1, hn, e, e', b, hb => by
    simp only [ownH, List.nodup_append] at hn
    have e1 : l[t]? = some c := by simpa using e
    have e2 : m[t]? = some B := by simpa using e'
    simp only [List.set_cons_succ, ownH, List.mem_append] at hb ⊢
    rcases hb with hb | hb
    · exact .inr ⟨.inl hb, fun hx => hn.2.2 b hb b (own_mem e1 e2 b hx) rfl⟩
    · rcases own_swap hn.2.1 e1 e2 b hb with hb | hb
      · exact .inl hb
      · exact .inr ⟨.inr hb.1, hb.2⟩
theorem own_swap_nodup {c c' : Ch} {B B' : Bind} (hnd : (ownC c' B').Nodup) : ∀ {h : List Ch} {m : List Bind} {t : Nat}, (ownH h m).Nodup → h[t]? = some c → m[t]? = some B → (∀ b ∈ ownC c' B', b ∈ ownH h m → b ∈ ownC c B) → (ownH (h.set t c') (m.set t B')).Nodup
  | [], _, _, _, e, _, _ => by simp at e
  | _ :: _, [], _, _, _, e, _ => by simp at e
  | c0 :: l, B0 :: m, 0, hn, e, e', hd => by
    simp at e e'; subst e; subst e'
    simp only [ownH, List.nodup_append] at hn
    simp only [List.set_cons_zero, ownH, List.nodup_append]
    refine ⟨hnd, hn.2.1, fun a ha b hb hab => ?_⟩
    subst hab
    exact hn.2.2 a (hd a ha (by simp [ownH, hb])) a hb rfl
  | c0 :: l, B0 :: m, t + 1, hn, e, e', hd => by
    simp only [ownH, List.nodup_append] at hn
    have e1 : l[t]? = some c := by simpa using e
    have e2 : m[t]? = some B := by simpa using e'
    simp only [List.set_cons_succ, ownH, List.nodup_append]
    refine ⟨hn.1, own_swap_nodup hnd hn.2.1 e1 e2 (fun b hb hx => hd b hb (by simp [ownH, hx])), fun a ha b hb hab => ?_⟩
    subst hab
    rcases own_swap hn.2.1 e1 e2 a hb with hb | hb
    · exact hn.2.2 a ha a (own_mem e1 e2 a (hd a hb (by simp [ownH, ha]))) rfl
    · exact hn.2.2 a ha a hb.1 rfl
theorem own_nodup {c : Ch} {B : Bind} : ∀ {h : List Ch} {m : List Bind} {t : Nat}, (ownH h m).Nodup → h[t]? = some c → m[t]? = some B → (ownC c B).Nodup
  | [], _, _, _, e, _ => by simp at e
  | _ :: _, [], _, _, _, e => by simp at e
  | c0 :: l, B0 :: m, 0, hn, e1, e2 => by
    simp at e1 e2; subst e1; subst e2
    simp only [ownH, List.nodup_append] at hn
    exact hn.1
  | c0 :: l, B0 :: m, t + 1, hn, e1, e2 => by
    simp only [ownH, List.nodup_append] at hn
    exact own_nodup hn.2.1 (by simpa using e1) (by simpa using e2)

/-! ### A range over a map -/
theorem HOk.push2 {w w' : World} {c : Ch} {B : Bind} (H : HOk R μ h w) (hk : ∀ n, n < w.heap.size → w'.heap[n]? = w.heap[n]?) (hz : w.heap.size ≤ w'.heap.size)
    (hn : (ownC c B).Nodup) (ho : ∀ n ∈ ownC c B, n ∉ ownH h μ ∧ n < w'.heap.size ∧ R n = none) (hr : CRel R w' (μ ++ [B]) c B) : HOk R (μ ++ [B]) (h ++ [c]) w' := by
  have he : ownH (h ++ [c]) (μ ++ [B]) = ownH h μ ++ ownC c B := by
    rw [ownH_app _ _ _ _ H.rel.len]; simp [ownH]
  refine ⟨?_, ?_, fun b hb => ?_, fun b o hb => ?_⟩
  · exact HRel.app (HRel.keep (RO.le.refl R) (Ext.app _ _) h μ H.rel fun n hn => hk n (H.own n hn).1) ⟨hr, trivial⟩
  · rw [he, List.nodup_append]
    exact ⟨H.nodup, hn, fun a ha b hb e => by subst e; exact (ho a hb).1 ha⟩
  · rw [he, List.mem_append] at hb
    rcases hb with hb | hb
    · exact ⟨Nat.lt_of_lt_of_le (H.own b hb).1 hz, (H.own b hb).2⟩
    · exact (ho b hb).2
  · have h4 := H.ro b o hb
    rw [hk b (Array.getElem?_eq_some_iff.1 h4).1]; exact h4
theorem HOk.fill (H : HOk R μ h w) {g : Nat} {c' : Ch} {B : Bind} (hc : h[g]? = some .gone) (hB : μ[g]? = some B) (hn : (ownC c' B).Nodup) (ho : ∀ n ∈ ownC c' B, n ∉ ownH h μ ∧ n < w.heap.size ∧ R n = none) (hr : CRel R w μ c' B) :
    HOk R μ (h.set g c') w ∧ ∀ b ∈ ownH (h.set g c') μ, b ∈ ownC c' B ∨ b ∈ ownH h μ := by
  have hBs : μ.set g B = μ := by
    apply List.ext_getElem?
    intro i
    by_cases e : i = g
    · subst e
      rw [List.getElem?_set_self (List.getElem?_eq_some_iff.1 hB).1, hB]
    · rw [List.getElem?_set_ne (Ne.symm e)]
  have h1 := HRel.swap (RO.le.refl R) (Ext.refl μ) hr H.rel H.nodup hc hB (fun _ _ _ => rfl)
  rw [hBs] at h1
  have h2 := own_swap_nodup (c' := c') (B' := B) hn H.nodup hc hB (fun b hb hx => absurd hx (ho b hb).1)
  rw [hBs] at h2
  have h3 : ∀ b ∈ ownH (h.set g c') μ, b ∈ ownC c' B ∨ b ∈ ownH h μ := fun b hb => by
    rcases own_swap (c' := c') (B' := B) H.nodup hc hB b (by rw [hBs]; exact hb) with hx | hx
    · exact .inl hx
    · exact .inr hx.1
  refine ⟨⟨h1, h2, fun b hb => ?_, H.ro⟩, h3⟩
  rcases h3 b hb with hx | hx
  · exact (ho b hx).2
  · exact H.own b hx
theorem born_erase : ∀ {l : List MapEntry} {j : Nat} {x : MapEntry}, (l.map (·.born)).Nodup → l[j]? = some x → l.filter (fun y => !(y.born == x.born)) = l.eraseIdx j
  | [], _, _, _, h => by simp at h
  | a :: l, 0, x, hn, h => by
    simp only [List.getElem?_cons_zero, Option.some.injEq] at h
    subst h
    simp only [List.map_cons, List.nodup_cons] at hn
    rw [List.filter_cons, if_neg (by simp), List.eraseIdx_cons_zero, List.filter_eq_self]
    intro y hy
    simp only [Bool.not_eq_true', beq_eq_false_iff_ne]
    intro e
    exact hn.1 (List.mem_map.2 ⟨y, hy, e⟩)
  | a :: l, j + 1, x, hn, h => by
    simp only [List.getElem?_cons_succ] at h
    simp only [List.map_cons, List.nodup_cons] at hn
    have hx : a.born ≠ x.born := fun e => hn.1 (List.mem_map.2 ⟨x, List.mem_of_getElem? h, e.symm⟩)
    rw [List.filter_cons, if_pos (by simpa using hx), List.eraseIdx_cons_succ, born_erase hn.2 h]
theorem left_push {es : Array MapEntry} {seen : Array Nat} {j : Nat} {x : MapEntry} (hn : (es.toList.map (·.born)).Nodup) (h : (leftB es seen)[j]? = some x) : leftB es (seen.push x.born) = (leftB es seen).eraseIdx j := by
  have h1 : ((leftB es seen).map (·.born)).Nodup := hn.sublist (List.Sublist.map _ List.filter_sublist)
  rw [← born_erase h1 h]
  unfold leftB
  rw [List.filter_filter]
  apply List.filter_congr
  intro y _
  simp only [Array.contains_push, Bool.not_or]
  rw [Bool.and_comm]
theorem LRel.erase : ∀ {μ : List Bind} {l : List AV} {vs : List Value} (j : Nat), LRel R μ l vs → LRel R μ (l.eraseIdx j) (vs.eraseIdx j)
  | _, _, _, _, .nil => by simp; exact .nil
  | _, _, _, 0, .cons _ hs => by simpa using hs
  | _, _, _, j + 1, .cons h hs => by simp only [List.eraseIdx_cons_succ]; exact .cons h (LRel.erase j hs)
theorem map_erase {α β : Type} (f : α → β) : ∀ (l : List α) (j : Nat), (l.eraseIdx j).map f = (l.map f).eraseIdx j
  | [], _ => by simp
  | a :: l, 0 => rfl
  | a :: l, j + 1 => by simp only [List.eraseIdx_cons_succ, List.map_cons, map_erase f l j]
theorem pick_perm {α : Type} : ∀ {l : List α} {j : Nat} (hj : j < l.length), (l[j] :: l.eraseIdx j).Perm l
  | [], _, h => by simp at h
  | a :: l, 0, _ => List.Perm.refl _
  | a :: l, j + 1, h => by
    simp only [List.getElem_cons_succ, List.eraseIdx_cons_succ]
    exact (List.Perm.swap a _ _).trans ((pick_perm (by simpa using h)).cons a)
/-- whichever element comes next -/
def allP {α : Type} (todo : List α) (F : α → List α → Prop) : Prop := ∀ p rest, (p :: rest).Perm todo → F p rest
theorem allP_nil {α : Type} (F : α → List α → Prop) : allP [] F = True := by
  apply propext
  refine ⟨fun _ => trivial, fun _ p rest h => ?_⟩
  have := h.length_eq
  simp at this
def rangeK (P : Program) (t : TypeId) (x : AV) (h : List Ch) (K : KT) : Prop :=
  match kdT P t, x with
  | .map _ _, .mp g => (match hth h g with
    | .map k e kv => K (.ptr h.length 0) (h.set g .gone ++ [.iter g k e kv kv none])
    | _ => False)
  | _, _ => False
theorem rangeK_ok (H : HOk R μ h w) {t : TypeId} {x : AV} {vx : Value} {K : KT} (hx : Rel R μ x vx) (hK : rangeK P t x h K) : GivesH P R μ h w K (Instr.range t vx) := by
  unfold rangeK at hK
  split at hK
  · rename_i kt et g hk
    split at hK
    · rename_i k e kv hc
      cases hx with
      | mp hm =>
        rename_i b
        have hcg := hth_get hc (by simp)
        obtain ⟨B, h1, h2, h3⟩ := H.rel.get hcg
        rw [hm] at h1
        cases h1
        obtain ⟨n, es, clock, kv0, h4, h5, h6, h7, h8, h9⟩ := h2
        cases h4
        have hbo : b ∈ ownH h μ := h3 b (by simp [ownC])
        have hbs := (H.own b hbo).1
        obtain ⟨H1, st1⟩ := H.set (w' := w) (c' := .gone) hcg hm (gone_sub _ _) (fun _ _ _ => rfl) (Nat.le_refl _) trivial rfl rfl rfl
        have hbn : b ∉ ownH (h.set g .gone) μ := own_gone H.nodup hcg hm b (by simp [ownC])
        have hal : ∀ n, n < w.heap.size → (w.alloc (.mapIter (some b) clock #[] clock)).heap[n]? = w.heap[n]? := fun n hn => RowKit.Below.heap_alloc w _ n hn
        have H2 := H1.push2 (w' := w.alloc (.mapIter (some b) clock #[] clock)) (c := .iter g k e kv kv none) (B := .it w.heap.size b) hal (by simp)
          (by simp [ownC]; omega)
          (fun n hn => by
            simp only [ownC, List.mem_cons, List.not_mem_nil, or_false] at hn
            rcases hn with rfl | rfl
            · refine ⟨fun q => ?_, by simp, ?_⟩
              · have := (H1.own _ q).1; omega
              · cases hR : R w.heap.size with
                | none => rfl
                | some o =>
                  have := (Array.getElem?_eq_some_iff.1 (H.ro _ o hR)).1
                  omega
            · exact ⟨hbn, by simp; omega, (H.own _ hbo).2⟩)
          ⟨w.heap.size, b, es, clock, #[], kv0, kv0, rfl, by rw [List.getElem?_append_left (List.getElem?_eq_some_iff.1 hm).1]; exact hm, heap_alloc_new w _, by rw [hal b hbs]; exact h5, h6, h7, h8, h9, by
            have : leftB es #[] = es.toList := by unfold leftB; simp
            rw [this]; exact h6, by
            have : leftB es #[] = es.toList := by unfold leftB; simp
            rw [this]; exact h7, h9.1, fun p hp => by cases hp⟩
        refine ⟨.pointer (some ⟨w.heap.size, 0, none⟩), _, R, _, _, _, ?_, hK, ?_, H2, Ext.app _ _, ⟨RO.le.refl R, by simp, fun n hn _ => hal n hn, fun n hn => ?_, fun _ _ hb => .inl hb, rfl, rfl, rfl, Nat.le_refl _⟩⟩
        · have e1 : (newObj (.mapIter (some b) clock #[] clock)).run P w = .ok w.heap.size (w.alloc (.mapIter (some b) clock #[] clock)) := rfl
          simp only [Instr.range, Sem.run_bind, run_underlying (kd_map hk), Result.andThen_ok, Go.MapKept.run_getObj_map h5, Sem.run_pure, e1]
        · exact .ptr (B := .it w.heap.size b) (by rw [H.rel.len]; simp) rfl
        · have he : ownH (h.set g .gone ++ [.iter g k e kv kv none]) (μ ++ [.it w.heap.size b]) = ownH (h.set g .gone) μ ++ [w.heap.size, b] := by
            rw [ownH_app _ _ _ _ H1.rel.len]; simp [ownH, ownC]
          rw [he, List.mem_append] at hn
          rcases hn with hn | hn
          · exact st1.own n hn
          · simp only [List.mem_cons, List.not_mem_nil, or_false] at hn
            rcases hn with rfl | rfl
            · exact .inr (Nat.le_refl _)
            · exact .inl hbo
    · exact hK.elim
  · exact hK.elim
def nextK (x : AV) (h : List Ch) (K : KT) : Prop :=
  match x with
  | .ptr t 0 => (match hth h t with
    | .iter g k e kv todo _ => (todo = [] → K (.tup [.bool false]) ((h.set t .gone).set g (.map k e kv))) ∧ allP todo fun p rest => K (.tup [.bool true, k.av p.1, valA e p.2]) (h.set t (.iter g k e kv rest (some p)))
    | _ => False)
  | _ => False
theorem nextK_ok (H : HOk R μ h w) {x : AV} {vx : Value} {ty : TypeId} {K : KT} (hx : Rel R μ x vx) (hK : nextK x h K) : GivesH P R μ h w K (Instr.next vx false ty) := by
  unfold nextK at hK
  split at hK
  · rename_i t
    split at hK
    · rename_i g k e kv todo last hc
      have hct := hth_get hc (by simp)
      obtain ⟨B, h1, h2, h3⟩ := H.rel.get hct
      obtain ⟨r, m, es, clock, seen, kv0, td0, rfl, hg, hr, hm, a1, a2, a3, a7, a4, a5, a8, a6⟩ := h2
      cases hx with
      | ptr hB hob =>
        rw [h1] at hB
        cases hB
        simp only [Bind.obj, Option.some.injEq] at hob
        subst hob
        have hro : r ∈ ownH h μ := h3 r (by simp [ownC])
        have hmo : m ∈ ownH h μ := h3 m (by simp [ownC])
        have hleft : (leftOf es seen).toList = leftB es seen := by unfold leftOf leftB; simp
        rcases run_next_at (P := P) w ty r m clock clock seen es clock hr hm a3.1 (Nat.le_refl _) with ⟨b1, b2⟩ | ⟨x, b1, w1, b2, b3⟩
        · have hnil : leftB es seen = [] := by
            rw [← hleft]
            apply List.eq_nil_of_length_eq_zero
            rw [Array.length_toList]; exact b1
          rw [hnil] at a4
          have htd : td0 = [] := by
            have := a4.len
            simpa using this
          have htodo : todo = [] := by
            rw [htd] at a8
            exact List.Perm.eq_nil a8.symm
          have hK1 := hK.1 htodo
          obtain ⟨H1, st1⟩ := H.set (w' := w) (c' := .gone) hct h1 (gone_sub _ _) (fun _ _ _ => rfl) (Nat.le_refl _) trivial rfl rfl rfl
          have hmn : m ∉ ownH (h.set t .gone) μ := own_gone H.nodup hct h1 m (by simp [ownC])
          have hgt : g ≠ t := fun e => by subst e; rw [hg] at h1; cases h1
          have hgl : g < h.length := by
            have := (List.getElem?_eq_some_iff.1 hg).1
            rw [H.rel.len]; exact this
          have hgone : h[g]? = some .gone := by
            rw [List.getElem?_eq_getElem hgl]
            obtain ⟨B', c1, c2, c3⟩ := H.rel.get (List.getElem?_eq_getElem hgl)
            rw [hg] at c1
            cases c1
            cases hcg : h[g] with
            | gone => rfl
            | cells vs => rw [hcg] at c2; obtain ⟨_, _, _, q, _⟩ := c2; cases q
            | crow vs => rw [hcg] at c2; obtain ⟨_, _, _, q, _⟩ := c2; cases q
            | rows e' xs => rw [hcg] at c2; rcases c2 with ⟨q, _⟩ | ⟨_, _, _, _, q, _⟩ <;> cases q
            | pack l => rw [hcg] at c2; obtain ⟨_, q, _⟩ := c2; cases q
            | iter g' k' e' kv' todo' last' => rw [hcg] at c2; obtain ⟨_, _, _, _, _, _, _, q, _⟩ := c2; cases q
            | map k' e' kv' =>
              exfalso
              rw [hcg] at c2
              obtain ⟨n, es', clock', _, q, _⟩ := c2
              cases q
              have hx1 : h[g]? = some (.map k' e' kv') := by rw [List.getElem?_eq_getElem hgl, hcg]
              have hx2 : (h.set t .gone)[g]? = some (.map k' e' kv') := by rw [List.getElem?_set_ne (Ne.symm hgt)]; exact hx1
              exact hmn (own_mem hx2 hg m (by simp [ownC]))
          have hgone' : (h.set t .gone)[g]? = some .gone := by rw [List.getElem?_set_ne (Ne.symm hgt)]; exact hgone
          obtain ⟨H2, hown⟩ := H1.fill (c' := .map k e kv) hgone' hg (by simp [ownC]) (fun n hn => by
            simp only [ownC, List.mem_cons, List.not_mem_nil, or_false] at hn
            subst hn
            exact ⟨hmn, (H.own _ hmo).1, (H.own _ hmo).2⟩) ⟨m, es, clock, kv0, rfl, hm, a1, a2, a3, a7⟩
          refine ⟨_, w, R, μ, _, _, b2, hK1, .tup (.cons .bool .nil), H2, Ext.refl _, ⟨RO.le.refl R, Nat.le_refl _, fun _ _ _ => rfl, fun n hn => ?_, fun _ _ hb => .inl hb, rfl, rfl, rfl, Nat.le_refl _⟩⟩
          rcases hown n hn with hn | hn
          · simp only [ownC, List.mem_cons, List.not_mem_nil, or_false] at hn
            subst hn
            exact .inl hmo
          · exact st1.own n hn
        · rw [hleft] at b1
          obtain ⟨j, hj⟩ := List.getElem?_of_mem b1
          have hjl := (List.getElem?_eq_some_iff.1 hj).1
          have hlen : td0.length = (leftB es seen).length := by
            have := a4.len
            simpa using this
          have hjt : j < td0.length := by omega
          have hperm := pick_perm hjt
          have hK2 := hK.2 td0[j] (td0.eraseIdx j) (hperm.trans a8)
          obtain ⟨v1, c1, c2⟩ := a4.get j (a := k.av td0[j].1) (by simp [hjt])
          obtain ⟨v2, d1, d2⟩ := a5.get j (a := valA e td0[j].2) (by simp [hjt])
          rw [List.getElem?_map, hj] at c1 d1
          simp only [Option.map_some, Option.some.injEq] at c1 d1
          subst c1; subst d1
          have hxes : x ∈ es.toList := (List.mem_filter.1 b1).1
          have hw1 : w1.heap = w.heap ∧ w1.os = w.os ∧ w1.tape = w.tape ∧ w1.output = w.output := by rcases b2 with rfl | rfl <;> exact ⟨rfl, rfl, rfl, rfl⟩
          have hw2 : w.drawn ≤ w1.drawn := by rcases b2 with rfl | rfl <;> first | exact Nat.le_refl _ | exact Nat.le_succ _
          have hrs : r < w.heap.size := (H.own r hro).1
          have hsz : (Go.ChangeMaps.setBlock w1 r (.mapIter (some m) clock (seen.push x.born) clock)).heap.size = w.heap.size := by
            simp [Go.ChangeMaps.setBlock, hw1.1]
          have hne : ∀ n, n ≠ r → (Go.ChangeMaps.setBlock w1 r (.mapIter (some m) clock (seen.push x.born) clock)).heap[n]? = w.heap[n]? := fun n hn => by
            simp [Go.ChangeMaps.setBlock, hw1.1, Array.getElem?_setIfInBounds, Ne.symm hn]
          have heq : (Go.ChangeMaps.setBlock w1 r (.mapIter (some m) clock (seen.push x.born) clock)).heap[r]? = some (.mapIter (some m) clock (seen.push x.born) clock) := by
            simp [Go.ChangeMaps.setBlock, hw1.1, Array.getElem?_setIfInBounds, hrs]
          have hrm : m ≠ r := by
            have := own_nodup H.nodup hct h1
            simp [ownC] at this
            exact fun q => this q.symm
          obtain ⟨H1, st1⟩ := H.set (w' := Go.ChangeMaps.setBlock w1 r (.mapIter (some m) clock (seen.push x.born) clock)) (c' := .iter g k e kv (td0.eraseIdx j) (some td0[j])) hct h1 (List.Sublist.refl _)
            (fun n _ hn => hne n fun q => hn (by simp [ownC, q])) (by rw [hsz]; exact Nat.le_refl _)
            ⟨r, m, es, clock, seen.push x.born, kv0, td0.eraseIdx j, rfl, hg, heq, by rw [hne m hrm]; exact hm, a1, a2, a3, a7, by rw [left_push a3.2 hj, map_erase, map_erase]; exact a4.erase j,
              by rw [left_push a3.2 hj, map_erase, map_erase]; exact a5.erase j, List.Perm.refl _, fun p hp => by
                cases hp
                exact ⟨x, hxes, by simp, c2, d2⟩⟩ hw1.2.1 hw1.2.2.1 hw1.2.2.2 hw2
          exact ⟨_, _, R, μ, _, _, b3, hK2, .tup (.cons .bool (.cons (c2.mono (RO.le.refl R) (Ext.nil μ)) (.cons (d2.mono (RO.le.refl R) (Ext.nil μ)) .nil))), H1, Ext.refl _, st1⟩
    · exact hK.elim
  · exact hK.elim
def entryK (x : AV) (h : List Ch) (K : AV → Prop) : Prop :=
  match x with
  | .ptr t 0 => (match hth h t with
    | .iter _ k e _ _ (some p) => K (.tup [k.av p.1, valA e p.2])
    | _ => False)
  | _ => False
theorem entryK_ok (H : HOk R μ h w) {x : AV} {vx : Value} {K : AV → Prop} (hx : Rel R μ x vx) (hK : entryK x h K) : ∃ v a, (Instr.entry vx).run P w = .ok v w ∧ K a ∧ Rel R μ a v := by
  unfold entryK at hK
  split at hK
  · rename_i t
    split at hK
    · rename_i g k e kv todo p hc
      have hct := hth_get hc (by simp)
      obtain ⟨B, h1, h2, h3⟩ := H.rel.get hct
      obtain ⟨r, m, es, clock, seen, kv0, td0, rfl, hg, hr, hm, a1, a2, a3, a7, a4, a5, a8, a6⟩ := h2
      obtain ⟨x, b1, b2, b3, b4⟩ := a6 p rfl
      cases hx with
      | ptr hB hob =>
        rw [h1] at hB
        cases hB
        simp only [Bind.obj, Option.some.injEq] at hob
        subst hob
        obtain ⟨seen', rfl⟩ : ∃ s : Array Nat, seen = s.push x.born := by
          have h4 : seen.toList.getLast? = some x.born := by rw [Array.getLast?_toList]; exact b2
          obtain ⟨ys, hys⟩ := List.getLast?_eq_some_iff.1 h4
          exact ⟨⟨ys⟩, by apply Array.ext'; rw [Array.toList_push]; exact hys⟩
        exact ⟨_, _, run_entry_at w r m clock seen' es clock x hr hm b1 a3.2, hK, .tup (.cons (b3.mono (RO.le.refl R) (Ext.nil μ)) (.cons (b4.mono (RO.le.refl R) (Ext.nil μ)) .nil))⟩
    · exact hK.elim
  · exact hK.elim
theorem open_ok (H : HOk R μ h w) {b : Nat} {vs : List AV} {rest : List Ch} (hc : hth h b = .pack (.cells vs :: rest)) :
    ∃ μ', HOk R μ' (openH h b vs rest) w ∧ Ext μ μ' ∧ Step (ownH h μ) R w (ownH (openH h b vs rest) μ') R w := by
  have hct := hth_get hc (by simp)
  obtain ⟨B, hB, ⟨bl, rfl, hl⟩, hown⟩ := H.rel.get hct
  cases bl with
  | nil => exact hl.elim
  | cons B0 bl =>
    have hrel : CRel R w (B0 :: bl) (.cells vs) B0 := hl.1
    have hB0 : ∃ n, B0 = .cel n := by obtain ⟨n, _, _, e, _⟩ := hrel; exact ⟨n, e⟩
    obtain ⟨n, rfl⟩ := hB0
    have hlen := H.rel.len
    have hbl : rest.length = bl.length := hl.2.len
    have hlt : b < μ.length := (List.getElem?_eq_some_iff.1 hB).1
    have hnd := own_nodup H.nodup hct hB
    simp only [ownC, ownH, List.singleton_append, List.nodup_cons] at hnd
    have hext : Ext μ (μ.set b (.cel n)) := Ext.set hB (.inr ⟨n, rfl, rfl, fun _ _ h => by cases h⟩)
    have hm : ∀ (t : Nat) (C : Bind), (Bind.cel n :: bl)[t]? = some C → (μ.set b (.cel n) ++ bl)[rhoO b h.length t]? = some C := by
      intro t C ht
      cases t with
      | zero =>
        simp only [List.getElem?_cons_zero, Option.some.injEq] at ht
        subst ht
        simp only [rhoO]
        rw [List.getElem?_append_left (by simpa using hlt), List.getElem?_set_self hlt]
      | succ t =>
        simp only [List.getElem?_cons_succ] at ht
        simp only [rhoO]
        rw [List.getElem?_append_right (by simp; omega)]
        simpa [hlen] using ht
    have hext2 : Ext μ (μ.set b (.cel n) ++ bl) := hext.trans (Ext.app _ _)
    have hr1 : HRel R w (μ.set b (.cel n) ++ bl) (h.set b (.cells (renL (rhoO b h.length) vs))) (μ.set b (.cel n)) :=
      HRel.swap (RO.le.refl R) hext2 (c' := .cells (renL (rhoO b h.length) vs)) (B' := .cel n) (hrel.ren hm) H.rel H.nodup hct hB (fun _ _ _ => rfl)
    have hr2 : HRel R w (μ.set b (.cel n) ++ bl) (renCs (rhoO b h.length) rest) bl := hl.2.ren hm
    have ho : ownH (openH h b vs rest) (μ.set b (.cel n) ++ bl) = ownH (h.set b (.cells (renL (rhoO b h.length) vs))) (μ.set b (.cel n)) ++ ownH rest bl := by
      unfold openH
      rw [ownH_app _ _ _ _ (by simpa using hlen), renCs_own]
    have hsub1 : ∀ x ∈ ownH (h.set b (.cells (renL (rhoO b h.length) vs))) (μ.set b (.cel n)), x = n ∨ (x ∈ ownH h μ ∧ x ∉ ownC (.pack (.cells vs :: rest)) (.pack (.cel n :: bl))) := fun x hx => by
      rcases own_swap H.nodup hct hB x hx with h1 | h1
      · simp only [ownC, List.mem_singleton] at h1; exact .inl h1
      · exact .inr h1
    have hn : n ∈ ownH h μ := hown n (by simp [ownC, ownH])
    have hrest : ∀ x ∈ ownH rest bl, x ∈ ownH h μ := fun x hx => hown x (by simp [ownC, ownH, hx])
    have hmem : ∀ x ∈ ownH (openH h b vs rest) (μ.set b (.cel n) ++ bl), x ∈ ownH h μ := fun x hx => by
      rw [ho, List.mem_append] at hx
      rcases hx with hx | hx
      · rcases hsub1 x hx with rfl | h1
        · exact hn
        · exact h1.1
      · exact hrest x hx
    refine ⟨_, ⟨HRel.app hr1 hr2, ?_, fun x hx => H.own x (hmem x hx), H.ro⟩, hext2, ⟨RO.le.refl R, Nat.le_refl _, fun _ _ _ => rfl, fun x hx => .inl (hmem x hx), fun _ _ hx => .inl hx, rfl, rfl, rfl, Nat.le_refl _⟩⟩
    rw [ho, List.nodup_append]
    refine ⟨own_swap_nodup (by simp [ownC]) H.nodup hct hB (fun x hx _ => by simp [ownC, ownH] at hx ⊢; exact .inl hx), hnd.2, fun x hx y hy e => ?_⟩
    subst e
    rcases hsub1 x hx with rfl | h1
    · exact hnd.1 hy
    · exact h1.2 (by simp [ownC, ownH, hy])
theorem openK_ok (H : HOk R μ h w) {a : AV} {F : List Ch → Prop} (hK : openK a h F) : GhostM R μ h w fun R' _ h' => F h' ∧ R' = R := by
  unfold openK at hK
  split at hK
  · split at hK
    · rename_i hc
      obtain ⟨μ', h1, h2, h3⟩ := open_ok H hc
      exact ⟨R, μ', _, ⟨hK, rfl⟩, h1, RO.le.refl R, h2, h3⟩
    · exact ⟨R, μ, h, ⟨hK, rfl⟩, H, RO.le.refl R, Ext.refl μ, Step.refl _ _ _⟩
  · exact ⟨R, μ, h, ⟨hK, rfl⟩, H, RO.le.refl R, Ext.refl μ, Step.refl _ _ _⟩

def fieldK (P : Program) (f : Option (Nat × TypeId)) (x : AV) (K : AV → Prop) : Prop :=
  match f, x with
  | some (o, ft), .agg l => (o + szT P ft ≤ l.length ∧ szT P ft ≠ 0 ∧ kdT P ft ≠ .other) ∧ K (partA P ft l o)
  | _, _ => False
def mmK (mx : Bool) : List AV → (AV → Prop) → Prop
  | [], _ => False
  | .int k x :: r, K => go k x r K
  | _ :: _, _ => False
  where go (k : IntKind) (x : Int) : List AV → (AV → Prop) → Prop
  | [], K => K (.int k x)
  | .int _ y :: r, K => go k (if mx then max x y else min x y) r K
  | _ :: _, _ => False
def optA (tm : List AV) : Option Operand → Option AV
  | none => none
  | some x => some (evA tm x)
def evAs (tm : List AV) (l : List Operand) : List AV := l.map (evA tm)
def evPs (tm : List AV) (l : List (Nat × Operand)) : List (Nat × AV) := l.map fun p => (p.1, evA tm p.2)
variable [ETab]
def callK (P : Program) (c : Call) (tm : List AV) (h : List Ch) (K : KT) : Prop :=
  match c.callee with
  | .value f => (match evA tm f with
    | .fn g caps => Does P g (evAs tm c.args.toList ++ caps) h K
    | _ => False)
  | .builtin .len => (match c.args.toList, c.argTypes.toList with
    | [x], [t] => len2K P t (kdT P t) (evA tm x) h fun v => K v h
    | _, _ => False)
  | .builtin .append => (match c.args.toList, c.argTypes.toList with
    | [s, x], [t, tx] => app3K P t tx (evA tm s) (evA tm x) h K
    | _, _ => False)
  | .builtin .min => mmK false (evAs tm c.args.toList) fun v => K v h
  | .builtin .max => mmK true (evAs tm c.args.toList) fun v => K v h
  | .builtin .delete => (match c.args.toList, c.argTypes.toList with
    | [m, i], t :: _ => mdelK P t (evA tm m) (evA tm i) h fun h => K (.tup []) h
    | _, _ => False)
  | .builtin .clear => (match c.args.toList, c.argTypes.toList with
    | [x], [t] => clearK P t (evA tm x) h fun h => K (.tup []) h
    | _, _ => False)
  | .invoke r m => (match evA tm r with
    | .ifc t x => (match mthT P t m with
      | some g => Does P g (x :: evAs tm c.args.toList) h K
      | none => False)
    | _ => False)
  | _ => False
/-- the nil of an interface beside the literal nil -/
def nilIK (P : Program) (op : BinOp) (t : TypeId) (a : AV) (Y : Operand) (b : AV) (K : AV → Prop) : Prop :=
  match Y with
  | .const .nilIface => (match op, a with
    | .eql, .lit .nilIface => kdT P t = .iface ∧ K (.bool true)
    | .neq, .lit .nilIface => kdT P t = .iface ∧ K (.bool false)
    | _, _ => binK P op t a b K)
  | _ => binK P op t a b K
omit [ETab] in
theorem eqIn_iface1 {P : Program} {t : TypeId} {e} (hu : P.underlying t = some (.interface e)) (d : Nat) (w : World) : (Op.equalIn (d + 1) t .nilIface .nilIface).run P w = .ok true w := by
  simp [Op.equalIn, run_underlying hu]
omit [ETab] in
theorem eqIn_iface0 {P : Program} {t : TypeId} {e} (hu : P.underlying t = some (.interface e)) (w : World) : (Op.equal t .nilIface .nilIface).run P w = .ok true w := eqIn_iface1 hu 9999 w
omit [ETab] in
theorem nilIK_ok {P : Program} {R : RO} {μ : List Bind} {op : BinOp} {t : TypeId} {X Y : Operand} {x y : AV} {vx vy : Value} {K : AV → Prop} (hx : Rel R μ x vx) (hy : Rel R μ y vy) (hY : ∀ v, Y = .const v → vy = v) (h : nilIK P op t x Y y K) :
    Gives P R μ K (do eqGuard op t X Y vx vy; binOp op t vx vy) := by
  unfold nilIK at h
  split at h
  · have hv := hY _ rfl
    split at h
    · obtain ⟨hk, h⟩ := h
      obtain ⟨e, hu⟩ := kd_iface hk
      subst hv
      cases hx
      exact .guard (fun w => by simp [eqGuard]) (.mk h .bool fun w => by
        show (do pure (Value.bool (← Op.equal t .nilIface .nilIface)) : Sem Value).run P w = _
        rw [Sem.run_bind, eqIn_iface0 hu]; rfl)
    · obtain ⟨hk, h⟩ := h
      obtain ⟨e, hu⟩ := kd_iface hk
      subst hv
      cases hx
      exact .guard (fun w => by simp [eqGuard]) (.mk h .bool fun w => by
        show (do pure (Value.bool (!(← Op.equal t .nilIface .nilIface))) : Sem Value).run P w = _
        rw [Sem.run_bind, eqIn_iface0 hu]; rfl)
    · exact binK_ok hx hy h
  · exact binK_ok hx hy h
def opK (P : Program) (o : Op) (tm : List AV) (h : List Ch) (K : KT) : Prop :=
  match o with
  | .move x => K (evA tm x) h
  | .assign x => K (evA tm x) h
  | .pick c a b => pickK (evA tm c) (evA tm a) (evA tm b) fun v => K v h
  | .alloc t => allocK P t h K
  | .box _ x => boxK (evA tm x) h K
  | .build t parts => buildK P t (evPs tm parts.toList) fun v => K v h
  | .buildSlice t n parts => bs3K P t n (evPs tm parts.toList) h K
  | .makeInterface t x => conK (kdT P t) = true ∧ K (.ifc t (evA tm x)) h
  | .typeAssert x _ t true => taK P t (evA tm x) fun v => K v h
  | .load t a => openK (evA tm a) h fun h => loadK P t (evA tm a) h fun v => K v h
  | .store t a x => openK (evA tm a) h fun h => storeK P t (evA tm a) (evA tm x) h fun h => K .any h
  | .nilCheck x => nilCheckK (evA tm x) fun v => K v h
  | .binOp op t x y _ => nilIK P op t (evA tm x) y (evA tm y) fun v => K v h
  | .unOp op _ x => unK op (evA tm x) fun v => K v h
  | .convert src dst x => convHK P src dst (evA tm x) h K
  | .extract x i => extractK (evA tm x) i fun v => K v h
  | .fieldAddr s x f => fldAddrK (fldT P s f) (evA tm x) fun v => K v h
  | .field s x f => fieldK P (fldT P s f) (evA tm x) fun v => K v h
  | .indexAddr t x i => idxAddrK P (kdT P t) (evA tm x) (evA tm i) fun v => K v h
  | .index t x i => (match kdT P t with | .array _ e => szT P e ≠ 0 ∧ kdT P e ≠ .other | _ => True) ∧ idxK P (kdT P t) (evA tm x) (evA tm i) fun v => K v h
  | .slice t x lo hi none => sliceHK P (kdT P t) (evA tm x) (optA tm lo) (optA tm hi) h fun v => K v h
  | .slice t x lo (some hi) (some m) => slice3K P t (evA tm x) (optA tm lo) (some (evA tm hi)) (some (evA tm m)) (isTmp hi) fun v => K v h
  | .makeSlice t l c => mkK P t (evA tm l) (evA tm c) h K
  | .makeFunc (.func f) first caps => (first.toList = []) ∧ K (.fn f (evAs tm caps.toList)) h
  | .call c => callK P c tm h K
  | .makeMap t r => mmapK P t (optA tm r) h K
  | .lookup t x i c => lookupK P t (evA tm x) (evA tm i) c h fun v => K v h
  | .range t x => rangeK P t (evA tm x) h K
  | .next x false => nextK (evA tm x) h K
  | .entry x => entryK (evA tm x) h fun v => K v h
  | .mapUpdate t m i x => frzX (evA tm x) h fun x h => mupdK P t (evA tm m) (evA tm i) x h fun h => K .any h
  | _ => False

omit [ETab] in
theorem evAs_rel {tm : List AV} {a : Act} (ht : LRel R μ tm a.tmps.toList) : ∀ l : List Operand, LRel R μ (evAs tm l) (l.map a.eval)
  | [] => .nil
  | x :: l => .cons (evA_rel ht x) (evAs_rel ht l)
omit [ETab] in
theorem evPs_rel {tm : List AV} {a : Act} (ht : LRel R μ tm a.tmps.toList) : ∀ l : List (Nat × Operand), PRel R μ (evPs tm l) (l.map fun p => (p.1, a.eval p.2))
  | [] => .nil
  | x :: l => .cons (evA_rel ht x.2) (evPs_rel ht l)

/-- what holds behind an operation -/
def Aft (R : RO) (μ : List Bind) (h : List Ch) (w : World) (a : Act) (dst : Option Tmp) (K : KT) : Act → World → Prop := fun a' w' =>
  ∃ R' μ' h' av v, K av h' ∧ a' = a.put dst v ∧ Rel R' μ' av v ∧ HOk R' μ' h' w' ∧ Ext μ μ' ∧ Step (ownH h μ) R w (ownH h' μ') R' w'

omit [ETab] in
theorem aft_pure {o : Oper} {a : Act} {K : KT} {Q : Exit → Act → World → Prop} {s : Sem Value} (H : HOk R μ h w) (hx : execOp a.eval o = (do pure (.value (← s)))) (hg : Gives P R μ (fun v => K v h) s) : Oper.wp P o a w (Aft R μ h w a o.dst K) Q := by
  obtain ⟨v, av, h1, h2, h3⟩ := hg
  unfold Oper.wp
  rw [hx, Sem.run_bind, h3]
  exact ⟨R, μ, h, av, v, h1, rfl, h2, H, Ext.refl μ, Step.refl _ _ _⟩
omit [ETab] in
theorem aft_mem {o : Oper} {a : Act} {K : KT} {Q : Exit → Act → World → Prop} {s : Sem Value} (hx : execOp a.eval o = (do pure (.value (← s)))) (hg : GivesH P R μ h w K s) : Oper.wp P o a w (Aft R μ h w a o.dst K) Q := by
  obtain ⟨v, w', R', μ', h', av, h1, h2, h3, h4, h5, h6⟩ := hg
  unfold Oper.wp
  rw [hx, Sem.run_bind, h1]
  exact ⟨R', μ', h', av, v, h2, rfl, h3, h4, h5, h6⟩
omit [ETab] in
theorem aft_call {o : Oper} {a : Act} {K : KT} {Q : Exit → Act → World → Prop} {g : FuncId} {args : List AV} {vs : List Value} (H : HOk R μ h w) (hv : LRel R μ args vs) (hK : Does P g args h K) (hx : execOp a.eval o = callFunc g vs.toArray) : Oper.wp P o a w (Aft R μ h w a o.dst K) Q := by
  obtain ⟨⟨fn, h1, h2, h3⟩, h4⟩ := hK
  unfold Oper.wp
  have hrun : (callFunc g vs.toArray).run P w = .ok (.enter g vs.toArray) w := by
    simp only [callFunc, Sem.run_bind, run_program, Result.andThen_ok, h1, h3, h2, Bool.false_eq_true, if_false, Sem.run_pure]
  rw [hx, hrun, Oper.upon_enter]
  refine (h4 R μ w vs hv H).mono fun e w' hl => ?_
  obtain ⟨v, R', μ', h', av, rfl, hk, hr, H', he, hs⟩ := hl
  exact ⟨R', μ', h', av, v, hk, rfl, hr, H', he, hs⟩
omit [ETab] in
theorem aft_call2 {o : Oper} {a : Act} {K : KT} {Q : Exit → Act → World → Prop} {g : FuncId} {args : List AV} {vs : List Value} (H : HOk R μ h w) (hv : LRel R μ args vs) (hK : Does P g args h K) (hx : (execOp a.eval o).run P w = (callFunc g vs.toArray).run P w) : Oper.wp P o a w (Aft R μ h w a o.dst K) Q := by
  obtain ⟨⟨fn, h1, h2, h3⟩, h4⟩ := hK
  unfold Oper.wp
  have hrun : (callFunc g vs.toArray).run P w = .ok (.enter g vs.toArray) w := by
    simp only [callFunc, Sem.run_bind, run_program, Result.andThen_ok, h1, h3, h2, Bool.false_eq_true, if_false, Sem.run_pure]
  rw [hx, hrun, Oper.upon_enter]
  refine (h4 R μ w vs hv H).mono fun e w' hl => ?_
  obtain ⟨v, R', μ', h', av, rfl, hk, hr, H', he, hs⟩ := hl
  exact ⟨R', μ', h', av, v, hk, rfl, hr, H', he, hs⟩
omit [ETab] in
theorem taK_ok {ty xt : TypeId} {x : AV} {vx : Value} {K : AV → Prop} (hx : Rel R μ x vx) (hK : taK P ty x K) : Gives P R μ K (Instr.typeAssert vx xt ty true) := by
  unfold taK at hK
  split at hK
  · rename_i t a
    obtain ⟨hc, hK⟩ := hK
    obtain ⟨d, hu, hd⟩ := conK_under hc
    cases hx with
    | @ifc _ _ _ v hx =>
    split at hK
    · rename_i e
      subst e
      refine .mk hK (.tup (.cons hx (.cons .bool .nil))) fun w => ?_
      simp only [Instr.typeAssert, Sem.run_bind, run_underlying hu, Result.andThen_ok]
      cases d with
      | interface y => exact absurd rfl (hd y)
      | _ => simp
    · rename_i e
      split at hK
      · rename_i z hz
        obtain ⟨zv, h1, h2⟩ : ∃ zv, Rel R μ z zv ∧ ∀ w, (zeroValue ty).run P w = .ok zv w := by
          unfold zeroV at hz
          split at hz
          · rename_i i hi
            split at hz
            · rename_i cs hzz
              simp only [Option.some.injEq] at hz
              subst hz
              exact ⟨.agg cs, .agg (vs := cs.toList) (ofV_rels R μ cs.toList), fun w => by simp [zeroValue, typeInfo, hi, hzz]⟩
            · rename_i u _ hzz
              simp only [Option.some.injEq] at hz
              subst hz
              exact ⟨u, ofV_rel R μ u, fun w => by simp [zeroValue, typeInfo, hi, hzz]⟩
            · simp at hz
          · simp at hz
        refine .mk hK (.tup (.cons h1 (.cons .bool .nil))) fun w => ?_
        simp only [Instr.typeAssert, Sem.run_bind, run_underlying hu, Result.andThen_ok]
        cases d with
        | interface y => exact absurd rfl (hd y)
        | _ => simp [e, h2]
      · exact hK.elim
  · exact hK.elim
omit [ETab] in
theorem callMethod_run {t : TypeId} {m : String} {g : FuncId} (hg : mthT P t m = some g) (v : Value) (args : Array Value) : (callMethod (.iface t v) m args).run P w = (callFunc g (#[v] ++ args)).run P w := by
  unfold mthT at hg
  split at hg
  · rename_i i hi
    split at hg
    · rename_i r hr
      split at hg
      · rename_i hp
        have hp' : r.path.toList = [] := by
          have : r.path = #[] := Array.isEmpty_iff.1 hp
          rw [this]
        have hfuel : ∃ k, P.types.size + Made.depth = k + 1 := ⟨P.types.size + Made.depth - 1, by
          have : 0 < Made.depth := by decide
          omega⟩
        obtain ⟨k, hk⟩ := hfuel
        split at hg
        · rename_i f hf hkd
          simp only [Option.some.injEq] at hg
          subst hg
          obtain ⟨e, hu⟩ := kd_ptr hkd
          simp [callMethod, hk, method, typeInfo, hi, hr, hp', follow, hf, receiverAt, run_underlying hu, Place.get]
        · rename_i f hf hkd
          simp only [Option.some.injEq] at hg
          subst hg
          have hu : ∃ fs, P.underlying t = some (.struct fs) := by
            unfold kdT at hkd; split at hkd <;> simp_all
          obtain ⟨fs, hu⟩ := hu
          simp [callMethod, hk, method, typeInfo, hi, hr, hp', follow, hf, receiverAt, run_underlying hu, Place.get]
        · simp at hg
      · simp at hg
    · simp at hg
  · simp at hg
omit [ETab] in
theorem Aft.ghost {R' : RO} {μ' : List Bind} {h' : List Ch} {a : Act} {dst : Option Tmp} {K : KT} (hm : Ext μ μ') (st : Step (ownH h μ) R w (ownH h' μ') R' w) {a' : Act} {w' : World} (hq : Aft R' μ' h' w a dst K a' w') : Aft R μ h w a dst K a' w' := by
  obtain ⟨R2, μ2, h2, av, v, h1, h3, h4, h5, h6, h7⟩ := hq
  exact ⟨R2, μ2, h2, av, v, h1, h3, h4, h5, hm.trans h6, st.trans h7⟩

omit [ETab] in
theorem fieldK_ok {s f : Nat} {x : AV} {vx : Value} {K : AV → Prop} (hx : Rel R μ x vx) (hK : fieldK P (fldT P s f) x K) : Gives P R μ K (Instr.field s vx f) := by
  unfold fieldK at hK
  split at hK
  · rename_i o ft l hf
    obtain ⟨⟨h1, h2, h3⟩, hK⟩ := hK
    obtain ⟨fs, y, hu, hy, rfl, rfl, _⟩ := fld_ok hf
    cases hx with
    | agg hl =>
      obtain ⟨v, hv, hr⟩ := part_ok h2 h3 hl _ h1
      exact .mk hK hv fun w => by simp [Instr.field, run_underlying hu, hy, asAgg, hr]
  · exact hK.elim
omit [ETab] in
theorem mm_go {mx : Bool} {k : IntKind} {K : AV → Prop} (f : Value → Value → Sem Value) (hf : ∀ k x k' y, f (.int k x) (.int k' y) = pure (.int k (if mx then max x y else min x y))) : ∀ (l : List AV) (vs : List Value) (x : Int), LRel R μ l vs → mmK.go mx k x l K → Gives P R μ K (vs.foldlM f (.int k x))
  | [], _, x, hl, hK => by cases hl; exact .mk hK .int fun w => rfl
  | a :: l, _, x, hl, hK => by
    cases hl with
    | cons ha hl =>
      cases a <;> simp only [mmK.go] at hK
      case int k' y =>
        cases ha
        rw [List.foldlM_cons, hf]
        exact mm_go f hf l _ _ hl hK
omit [ETab] in
theorem mmK_ok {mx : Bool} {K : AV → Prop} (f : Value → Value → Sem Value) (hf : ∀ k x k' y, f (.int k x) (.int k' y) = pure (.int k (if mx then max x y else min x y))) {l : List AV} {vs : List Value} (hl : LRel R μ l vs) (hK : mmK mx l K) :
    ∃ v vs', vs = v :: vs' ∧ Gives P R μ K (vs'.foldlM f v) := by
  unfold mmK at hK
  split at hK
  · exact hK.elim
  · cases hl with
    | cons ha hl => cases ha; exact ⟨_, _, rfl, mm_go f hf _ _ _ hl hK⟩
  · exact hK.elim

theorem opK_ok {o : Oper} {tm : List AV} {a : Act} {K : KT} {Q : Exit → Act → World → Prop} (H : HOk R μ h w) (ht : LRel R μ tm a.tmps.toList) (hK : opK P o.op tm h K) : Oper.wp P o a w (Aft R μ h w a o.dst K) Q := by
  unfold opK at hK
  split at hK <;> rename_i ho <;> try exact hK.elim
  · exact aft_pure (s := pure _) H (by simp [execOp, ho]) (.mk hK (evA_rel ht _) fun w => rfl)
  · exact aft_pure (s := pure _) H (by simp [execOp, ho]) (.mk hK (evA_rel ht _) fun w => rfl)
  · rename_i c x y
    have hc := evA_rel ht c
    unfold pickK at hK
    split at hK
    · rename_i b hb
      rw [hb] at hc
      have hK' := splitB_ite hK
      refine aft_pure (s := do pure (if ← asBool (a.eval c) then a.eval x else a.eval y)) H (by simp [execOp, ho]) ?_
      cases hcv : a.eval c with
      | bool b' =>
        rw [hcv] at hc
        cases hc
        cases b
        · exact .mk hK' (evA_rel ht y) fun w => by simp [asBool]
        · exact .mk hK' (evA_rel ht x) fun w => by simp [asBool]
      | _ => rw [hcv] at hc; cases hc
    · exact hK.elim
  · exact aft_mem (by simp only [execOp, ho]) (allocK_ok H hK)
  · rename_i t x
    exact aft_mem (s := Instr.box t (a.eval x)) (by simp only [execOp, ho]) (boxK_ok H (evA_rel ht _) hK)
  · rename_i t parts
    have := buildK_ok (evPs_rel ht parts.toList) hK
    rw [show ((parts.toList.map fun p => (p.1, a.eval p.2)).toArray) = parts.map fun (i, x) => (i, a.eval x) from by apply Array.ext'; simp] at this
    exact aft_pure H (by simp only [execOp, ho]) this
  · rename_i t n parts
    have := bs3K_ok H (evPs_rel ht parts.toList) hK
    rw [show ((parts.toList.map fun p => (p.1, a.eval p.2)).toArray) = parts.map fun (i, x) => (i, a.eval x) from by apply Array.ext'; simp] at this
    exact aft_mem (by simp only [execOp, ho]) this
  · rename_i t x
    obtain ⟨hc, hK⟩ := hK
    obtain ⟨d, hu, hd⟩ := conK_under hc
    refine aft_pure (s := Instr.makeInterface t (a.eval x)) H (by simp only [execOp, ho]) (.mk hK (.ifc (evA_rel ht x)) fun w => ?_)
    simp only [Instr.makeInterface, Sem.run_bind, run_underlying hu, Result.andThen_ok]
    cases d with
    | interface y => exact absurd rfl (hd y)
    | _ => rfl
  · rename_i x xt t
    refine aft_pure (s := Instr.typeAssert (a.eval x) xt t true) H (by simp only [execOp, ho]) (taK_ok (evA_rel ht x) hK)
  · obtain ⟨R', μ', h', ⟨hK, rfl⟩, H', hR, hm, hst⟩ := openK_ok H hK
    obtain ⟨v, av, h1, h2, h3⟩ := loadK_ok H' (evA_rel (ht.mono hR hm) _) hK
    refine Oper.wp_mono (fun _ _ => Aft.ghost hm hst) (aft_mem (by simp only [execOp, ho]) ⟨v, w, _, μ', h', av, h3, h1, h2, H', Ext.refl μ', Step.refl _ _ _⟩)
  · obtain ⟨R', μ, h, ⟨hK, rfl⟩, H, hR, hm, hst⟩ := openK_ok H hK
    replace ht := ht.mono hR hm
    refine Oper.wp_mono (fun _ _ => Aft.ghost hm hst) ?_
    obtain ⟨w', h', h1, h2, h3, h4⟩ := storeK_ok H (evA_rel ht _) (evA_rel ht _) hK
    unfold Oper.wp
    simp only [execOp, ho, Sem.run_bind, h1, Result.andThen_ok, Sem.run_pure, Oper.upon_skip]
    exact ⟨_, μ, h', .any, undef, h2, rfl, .any, h3, Ext.refl μ, h4⟩
  · rename_i x
    have hx := evA_rel ht x
    have key : K (evA tm x) h ∧ execOp a.eval o = pure (.value (a.eval x)) := by
      unfold nilCheckK at hK
      generalize hv : a.eval x = v at hx
      split at hK
      case h_5 => exact hK.elim
      all_goals
        rename_i he
        rw [he] at hx
        cases hx
        exact ⟨he ▸ hK, by simp [execOp, ho, hv]⟩
    refine aft_pure (s := pure (a.eval x)) H (by rw [key.2]; rfl) (.mk key.1 hx fun w => rfl)
  · rename_i op t x y yt
    exact aft_pure H (by simp only [execOp, ho]) (nilIK_ok (op := op) (t := t) (X := x) (Y := y) (evA_rel ht _) (evA_rel ht _) (fun v e => by rw [e]; rfl) hK)
  · exact aft_pure H (by simp only [execOp, ho]) (unK_ok (evA_rel ht _) hK)
  · exact aft_mem (by simp only [execOp, ho]) (convHK_ok H (evA_rel ht _) hK)
  · exact aft_pure H (by simp only [execOp, ho]) (extractK_ok (evA_rel ht _) hK)
  · exact aft_pure H (by simp only [execOp, ho]) (fldAddrK_ok (evA_rel ht _) hK)
  · exact aft_pure H (by simp only [execOp, ho]) (fieldK_ok (evA_rel ht _) hK)
  · exact aft_pure H (by simp only [execOp, ho]) (idxAddrK_ok (evA_rel ht _) (evA_rel ht _) hK)
  · obtain ⟨h1, hK⟩ := hK
    exact aft_pure H (by simp only [execOp, ho]) (idxK_ok (evA_rel ht _) (evA_rel ht _) (fun n e he => by rw [he] at h1; exact h1) hK)
  · rename_i t x lo hi
    refine aft_pure H (s := Instr.sliceAt t (a.eval x) (lo.map a.eval) (hi.map a.eval) none) (by simp only [execOp, ho, Option.map_none]) (sliceHK_ok H (evA_rel ht _) ?_ ?_ ?_ ?_ hK)
    · intro b hb; cases lo <;> simp [optA] at hb; subst hb; exact ⟨_, rfl, evA_rel ht _⟩
    · intro hb; cases lo <;> simp [optA] at hb; rfl
    · intro b hb; cases hi <;> simp [optA] at hb; subst hb; exact ⟨_, rfl, evA_rel ht _⟩
    · intro hb; cases hi <;> simp [optA] at hb; rfl
  · rename_i t x lo hi m
    refine aft_pure H (s := Instr.sliceAt t (a.eval x) (lo.map a.eval) (some (a.eval hi)) (some (a.eval m))) (by simp only [execOp, ho, Option.map_some]) (slice3K_ok (evA_rel ht _) ?_ ?_ (evA_rel ht _) (evA_rel ht _) hK)
    · intro b hb; cases lo <;> simp [optA] at hb; subst hb; exact ⟨_, rfl, evA_rel ht _⟩
    · intro hb; cases lo <;> simp [optA] at hb; rfl
  · exact aft_mem (by simp only [execOp, ho]) (mkK_ok H (evA_rel ht _) (evA_rel ht _) hK)
  · rename_i f first caps
    obtain ⟨h1, hK⟩ := hK
    have h2 : first = #[] := Array.ext' (by simpa using h1)
    subst h2
    refine aft_pure (s := pure (.func (.func f) #[] (caps.map a.eval))) H (by simp [execOp, ho, Instr.makeFunc]) (.mk hK ?_ fun w => rfl)
    have := Rel.fn (f := f) (evAs_rel ht caps.toList)
    rw [show (caps.toList.map a.eval).toArray = caps.map a.eval from by apply Array.ext'; simp] at this
    exact this
  · rename_i c
    unfold callK at hK
    split at hK
    · rename_i f hc
      have hf := evA_rel ht f
      split at hK
      · rename_i g caps hg
        rw [hg] at hf
        cases hfv : a.eval f with
        | func fn first captured =>
          rw [hfv] at hf
          cases hf with
          | @fn _ _ _ vs hcaps =>
            refine aft_call H ((evAs_rel ht c.args.toList).app hcaps) hK ?_
            simp [execOp, ho, resolve, hc, hfv, Deferred.ofValue, invoke]
            congr 1
            apply Array.ext'
            simp
        | _ => rw [hfv] at hf; cases hf
      · exact hK.elim
    · rename_i hc
      split at hK
      · rename_i x t h1 h2
        have e1 : c.args = #[x] := Array.ext' (by simpa using h1)
        have e2 : c.argTypes = #[t] := Array.ext' (by simpa using h2)
        unfold len2K at hK
        split at hK
        · obtain ⟨n, h3, h4⟩ := mlenK_ok (ts := #[t]) (ty := o.type) H rfl (evA_rel ht x) hK
          exact aft_mem (s := Builtin.len_ #[t] o.type #[a.eval x]) (by simp [execOp, ho, resolve, hc, invoke, builtin, e1, e2]) ⟨_, w, R, μ, h, _, h3, h4, .int, H, Ext.refl μ, Step.refl _ _ _⟩
        · refine aft_pure (s := Builtin.len_ #[t] o.type #[a.eval x]) H ?_ (lenK_ok (evA_rel ht x) hK)
          simp [execOp, ho, resolve, hc, invoke, builtin, e1, e2]
      · exact hK.elim
    · rename_i hc
      split at hK
      · rename_i s x t tx h1 h2
        refine aft_mem (s := Builtin.append_ #[t, tx] o.type #[a.eval s, a.eval x]) ?_ (app3K_ok H (evA_rel ht s) (evA_rel ht x) hK)
        have e1 : c.args = #[s, x] := Array.ext' (by simpa using h1)
        have e2 : c.argTypes = #[t, tx] := Array.ext' (by simpa using h2)
        simp [execOp, ho, resolve, hc, invoke, builtin, e1, e2]
      · exact hK.elim
    · rename_i hc
      obtain ⟨v, vs', h1, h2⟩ := mmK_ok Builtin.min2 (fun k x k' y => by simp only [Builtin.min2, Bool.false_eq_true, if_false]; congr 2; omega) (evAs_rel ht c.args.toList) hK
      refine aft_pure (s := vs'.foldlM Builtin.min2 v) H ?_ h2
      simp [execOp, ho, resolve, hc, invoke, builtin, Builtin.min_, h1]
    · rename_i hc
      obtain ⟨v, vs', h1, h2⟩ := mmK_ok Builtin.max2 (fun k x k' y => by simp only [Builtin.max2, if_true]; congr 2; omega) (evAs_rel ht c.args.toList) hK
      refine aft_pure (s := vs'.foldlM Builtin.max2 v) H ?_ h2
      simp [execOp, ho, resolve, hc, invoke, builtin, Builtin.max_, h1]
    · rename_i hc
      split at hK
      · rename_i m i t ts h1 h2
        have e1 : c.args = #[m, i] := Array.ext' (by simpa using h1)
        have e2 : c.argTypes[0]? = some t := by rw [← Array.getElem?_toList, h2]; rfl
        obtain ⟨w', h', h3, h4, h5, h6⟩ := mdelK_ok (ts := c.argTypes) (ty := o.type) H e2 (evA_rel ht m) (evA_rel ht i) hK
        exact aft_mem (s := Builtin.delete_ c.argTypes o.type #[a.eval m, a.eval i]) (by simp [execOp, ho, resolve, hc, invoke, builtin, e1]) ⟨_, w', R, μ, h', _, h3, h4, .tup .nil, h5, Ext.refl μ, h6⟩
      · exact hK.elim
    · rename_i hc
      split at hK
      · rename_i x t h1 h2
        have e1 : c.args = #[x] := Array.ext' (by simpa using h1)
        have e2 : c.argTypes = #[t] := Array.ext' (by simpa using h2)
        obtain ⟨w', h', h3, h4, h5, h6⟩ := clearK_ok (ty := o.type) H (evA_rel ht x) hK
        exact aft_mem (s := Builtin.clear_ #[t] o.type #[a.eval x]) (by simp [execOp, ho, resolve, hc, invoke, builtin, e1, e2]) ⟨_, w', R, μ, h', _, h3, h4, .tup .nil, h5, Ext.refl μ, h6⟩
      · exact hK.elim
    · rename_i r m hc
      split at hK
      · rename_i t x hr
        split at hK
        · rename_i g hg
          have hv := evA_rel ht r
          rw [hr] at hv
          cases hrv : a.eval r with
          | iface t' v =>
            rw [hrv] at hv
            cases hv with
            | ifc hv =>
              refine aft_call2 H (.cons hv (evAs_rel ht c.args.toList)) hK ?_
              have e1 : execOp a.eval o = callMethod (.iface t v) m (c.args.map a.eval) := by
                have tk : List.take c.args.size (List.map a.eval c.args.toList) = List.map a.eval c.args.toList := List.take_of_length_le (by rw [List.length_map, Array.length_toList]; exact Nat.le_refl _)
                have e3 : (#[Value.iface t v] ++ c.args.map a.eval)[0]? = some (.iface t v) := by rw [Array.getElem?_append_left (by simp)]; rfl
                simp only [execOp, ho, resolve, hc, hrv, invoke, pure_bind]
                rw [e3]
                simp only []
                rw [show (#[Value.iface t v] ++ c.args.map a.eval).extract 1 (#[Value.iface t v] ++ c.args.map a.eval).size = c.args.map a.eval from by apply Array.ext'; simp [tk]]
              rw [e1, callMethod_run hg v]
              congr 2
              apply Array.ext'
              simp
          | _ => rw [hrv] at hv; cases hv
        · exact hK.elim
      · exact hK.elim
    · exact hK.elim
  · rename_i t r
    refine aft_mem (by simp only [execOp, ho]) (mmapK_ok (vr := r.map a.eval) H ?_ hK)
    cases r with
    | none => trivial
    | some x => exact evA_rel ht x
  · obtain ⟨v, av, h1, h2, h3⟩ := lookupK_ok H (evA_rel ht _) (evA_rel ht _) hK
    exact aft_mem (by simp only [execOp, ho]) ⟨v, w, R, μ, h, av, h1, h2, h3, H, Ext.refl μ, Step.refl _ _ _⟩
  · rename_i t x
    exact aft_mem (s := Instr.range t (a.eval x)) (by simp only [execOp, ho]) (rangeK_ok H (evA_rel ht _) hK)
  · rename_i x
    exact aft_mem (s := Instr.next (a.eval x) false o.type) (by simp only [execOp, ho]) (nextK_ok H (evA_rel ht _) hK)
  · rename_i x
    obtain ⟨v, av, h1, h2, h3⟩ := entryK_ok H (evA_rel ht _) hK
    exact aft_mem (s := Instr.entry (a.eval x)) (by simp only [execOp, ho]) ⟨v, w, R, μ, h, av, h1, h2, h3, H, Ext.refl μ, Step.refl _ _ _⟩
  · obtain ⟨R', h', ⟨x', hK, hx'⟩, H', hR, hst⟩ := frzX_ok H (evA_rel ht _) hK
    refine Oper.wp_mono (fun _ _ => Aft.ghost (Ext.refl μ) hst) ?_
    obtain ⟨w', h2, h3, h4, h5, h6⟩ := mupdK_ok H' (evA_rel (ht.mono hR (Ext.refl μ)) _) (evA_rel (ht.mono hR (Ext.refl μ)) _) hx' hK
    unfold Oper.wp
    simp only [execOp, ho, Sem.run_bind, h3, Result.andThen_ok, Sem.run_pure, Oper.upon_skip]
    exact ⟨_, μ, h2, .any, undef, h4, rfl, .any, h5, Ext.refl μ, h6⟩
end Go.V
