/-
  The code of a function: what it means that it does what is asked; freezing.
-/
import Derived.Test.YtmfhicbbhncddaaVC
set_option linter.unusedVariables false
set_option linter.unusedSimpArgs false
namespace Go.V

variable {P : Program} {R : RO} {μ : List Bind} {h : List Ch} {w : World}

def putA (tm : List AV) (d : Option Nat) (v : AV) : List AV :=
  match d with
  | none => tm
  | some d => tm.set d v
def dstAt : List Oper → Nat → Option Nat
  | [], _ => none
  | o :: _, 0 => o.dst
  | _ :: l, n + 1 => dstAt l n

structure Post where
  n : List AV → List Ch → Prop
  x : Nat → List AV → List Ch → Prop
  r : List AV → List Ch → Prop
def Post.at (q : Post) : Exit → List AV → List Ch → Prop
  | .normal, tm, h => q.n tm h
  | .exit i, tm, h => q.x i tm h
  | .ret, tm, h => q.r tm h
  | _, _, _ => False

def dsts : List Oper → List Nat
  | [] => []
  | o :: l => (match o.dst with | some d => d :: dsts l | none => dsts l)
/-- slots that a code writes -/
def writes : Code → List Nat
  | .region _ ops _ => dsts ops.toList
  | .seq a b => writes a ++ writes b
  | .cond _ a b => writes a ++ writes b
  | .block _ c => writes c
  | .loop c => writes c
  | .scope c => writes c
  | _ => []
def killT (tm : List AV) : List Nat → List AV
  | [] => tm
  | d :: l => killT (tm.set d .any) l
def liveT (tm : List AV) : List (Nat × AV) → List AV
  | [] => tm
  | (d, v) :: l => liveT (tm.set d v) l
def setH (h : List Ch) : List (Nat × Ch) → List Ch
  | [] => h
  | (t, c) :: l => setH (h.set t c) l

structure SR (R : RO) (μ : List Bind) (tm : List AV) (h : List Ch) (a : Act) (w : World) : Prop where
  mem : HOk R μ h w
  tm : LRel R μ tm a.tmps.toList
  dfr : a.defers = []

theorem SR.put {tm : List AV} {a : Act} {R' : RO} {μ' : List Bind} {h' : List Ch} {w' : World} {av : AV} {v : Value} (s : SR R μ tm h a w) (d : Option Tmp) (hr : Rel R' μ' av v) (H' : HOk R' μ' h' w') (hR : R.le R') (hm : Ext μ μ') : SR R' μ' (putA tm d av) h' (a.put d v) w' := by
  have h1 := s.tm.mono hR hm
  refine ⟨H', ?_, ?_⟩
  · cases d with
    | none => exact h1
    | some d => simpa [putA, Act.put] using h1.set d hr
  · cases d <;> exact s.dfr
theorem SR.tag {tm : List AV} {a : Act} (s : SR R μ tm h a w) {t : Nat} {b : Bool} (hb : nthA tm t = .bool b) : SR R μ (tm.set t (.bool b)) h a w := by
  refine ⟨s.mem, ?_, s.dfr⟩
  have h1 := s.tm
  generalize a.tmps.toList = vs at h1
  clear s
  induction tm generalizing t vs with
  | nil => simpa using h1
  | cons x l ih =>
    cases h1 with
    | cons hx hl =>
      cases t with
      | zero => simp only [nthA] at hb; subst hb; exact .cons hx hl
      | succ n => exact .cons hx (ih (by simpa [nthA] using hb) _ hl)

theorem nth_rel {tm : List AV} {a : Act} (s : SR R μ tm h a w) {t : Nat} {b : Bool} (hb : nthA tm t = .bool b) : a.tmps[t]? = some (.bool b) := by
  have h1 := s.tm
  cases e : a.tmps[t]? with
  | none =>
    have : tm.length ≤ t := by rw [h1.len]; simpa using e
    rw [nthA_none tm t this] at hb
    simp at hb
  | some v =>
    have := h1.nth t (v := v) (by simpa using e)
    rw [hb] at this
    cases this; rfl
theorem dstAt_get : ∀ (l : List Oper) (j : Nat), dstAt l j = (l[j]?).bind (·.dst)
  | [], _ => by simp [dstAt]
  | o :: l, 0 => by simp [dstAt]
  | o :: l, n + 1 => by simp [dstAt, dstAt_get l n]

/-! ### A loop, by a relation with a number -/
theorem wp_loop_rel {c : Code} {Q : Exit → Act → World → Prop} {a : Act} {w : World} (I : Nat → Act → World → Prop) (n : Nat) (h₀ : I n a w)
    (round : ∀ n a w, I n a w → c.wp P (Exit.then (fun a' w' => ∃ m, m < n ∧ I m a' w') Q) a w) : (Code.loop c).wp P Q a w := by
  intro b k cs
  have key : ∀ n a w, I n a w → ∃ e a' w', Q e a' w' ∧ Arrives P (lone (b.at a (.code c :: .inLoop c :: k)) cs w) b k cs e a' w' := by
    intro n
    induction n using Nat.strongRecOn with
    | _ n ih =>
      intro a w hI
      obtain ⟨e, a₁, w₁, hq, harr⟩ := round n a w hI b (.inLoop c :: k) cs
      cases e with
      | normal =>
        obtain ⟨m, hlt, hI₁⟩ := hq
        obtain ⟨e₂, a₂, w₂, hq₂, harr₂⟩ := ih m hlt a₁ w₁ hI₁
        exact ⟨e₂, a₂, w₂, hq₂, .of_steps (Steps.trans harr (.one step_inLoop)) harr₂⟩
      | exit id => exact ⟨_, a₁, w₁, hq, .pass (x := .inLoop c) rfl (fun _ _ => .inl (by simp)) harr⟩
      | goto l => exact ⟨_, a₁, w₁, hq, .pass (x := .inLoop c) rfl (fun _ _ => .inl (by simp)) harr⟩
      | ret => exact ⟨_, a₁, w₁, hq, .pass (x := .inLoop c) rfl (fun _ _ => .inl (by simp)) harr⟩
      | panic ch => exact ⟨_, a₁, w₁, hq, .pass (x := .inLoop c) rfl (fun _ _ => .inl (by simp)) harr⟩
      | outgrown => exact ⟨_, a₁, w₁, hq, .pass (x := .inLoop c) rfl (fun _ _ => .inl (by simp)) harr⟩
  obtain ⟨e, a', w', hq, harr⟩ := key n a w h₀
  exact ⟨e, a', w', hq, .of_steps (.one step_loop) harr⟩

/-- the first k tags are as they were -/
structure Keeps (k : Nat) (μ μ' : List Bind) : Prop where
  len : k ≤ μ'.length
  get : ∀ {t : Nat} {B : Bind}, t < k → μ[t]? = some B → ∃ B', μ'[t]? = some B' ∧ BLe B B'
theorem Keeps.refl {k : Nat} {μ : List Bind} (h : k ≤ μ.length) : Keeps k μ μ := ⟨h, fun _ h => ⟨_, h, .refl _⟩⟩
theorem Keeps.trans {k : Nat} {a b c : List Bind} (h : Keeps k a b) (g : Keeps k b c) : Keeps k a c := ⟨g.len, fun ht hb => by
  obtain ⟨B', h1, h2⟩ := h.get ht hb
  obtain ⟨B2, h3, h4⟩ := g.get ht h1
  exact ⟨B2, h3, h2.trans h4⟩⟩
theorem Keeps.ext {k : Nat} {μ μ' : List Bind} (h : k ≤ μ.length) (e : Ext μ μ') : Keeps k μ μ' := ⟨Nat.le_trans h e.len, fun _ hb => e.get hb⟩
theorem Keeps.pick {k : Nat} {μ : List Bind} {σ : List Nat} (h : σ.take k = List.range k) : Keeps k μ (pickB σ μ) := by
  have h1 : k ≤ σ.length := by
    have := congrArg List.length h
    simp at this
    omega
  refine ⟨by simp [pickB, h1], fun {t B} ht hb => ⟨B, pickB_get (t' := t) ?_ hb, .refl _⟩⟩
  have := congrArg (·[t]?) h
  simpa [List.getElem?_take, ht] using this
theorem Keeps.toExt {μ μ' : List Bind} (h : Keeps μ.length μ μ') : Ext μ μ' := ⟨h.len, fun {t _} hb => h.get (List.getElem?_eq_some_iff.1 hb).1 hb⟩


/-! ### What a code does -/
/-- what holds at an end -/
def EndQ (k : Nat) (R : RO) (μ : List Bind) (h : List Ch) (w : World) (q : Post) : Exit → Act → World → Prop := fun e a' w' =>
  ∃ R' μ' tm' h', SR R' μ' tm' h' a' w' ∧ Step (ownH h μ) R w (ownH h' μ') R' w' ∧ Keeps k μ μ' ∧ q.at e tm' h'
theorem EndQ.pre {k : Nat} {R' : RO} {μ' : List Bind} {h' : List Ch} {w' : World} {q : Post} (st : Step (ownH h μ) R w (ownH h' μ') R' w') (kp : Keeps k μ μ') {e : Exit} {a2 : Act} {w2 : World} (hq : EndQ k R' μ' h' w' q e a2 w2) : EndQ k R μ h w q e a2 w2 := by
  obtain ⟨R2, μ2, tm2, h2, s2, st2, kp2, hq⟩ := hq
  exact ⟨R2, μ2, tm2, h2, s2, st.trans st2, kp.trans kp2, hq⟩
/-- code c, from these slots and this memory, ends as asked; the first k tags stay -/
structure Wp (P : Program) (k : Nat) (c : Code) (tm : List AV) (h : List Ch) (q : Post) : Prop where
  run : ∀ (R : RO) (μ : List Bind) (a : Act) (w : World), SR R μ tm h a w → k ≤ μ.length → c.wp P (EndQ k R μ h w q) a w
/-- behind operations -/
def Then (k : Nat) (R : RO) (μ : List Bind) (h : List Ch) (w : World) (K : List AV → List Ch → Prop) (Q : Act → World → Prop) : Prop :=
  ∀ R' μ' tm' h' a' w', SR R' μ' tm' h' a' w' → Step (ownH h μ) R w (ownH h' μ') R' w' → Keeps k μ μ' → K tm' h' → Q a' w'
/-- operations, from these slots and this memory -/
structure Ops (P : Program) (k : Nat) (all l : List Oper) (tm : List AV) (h : List Ch) (K : List AV → List Ch → Prop) : Prop where
  run : ∀ (R : RO) (μ : List Bind) (a : Act) (w : World), SR R μ tm h a w → k ≤ μ.length → ∀ Q : Exit → Act → World → Prop, Then k R μ h w K (Q .normal) → wpList P all.toArray Q l a w

section
variable {k : Nat} {tm : List AV} {q : Post} {all r l : List Oper} {K : List AV → List Ch → Prop}
theorem Wp.of_ops {id : Nat} (H : Ops P k l l tm h q.n) : Wp P k (.region id l.toArray false) tm h q :=
  ⟨fun R μ a w s hl => wp_region_list (H.run R μ a w s hl _ fun R' μ' tm' h' a' w' s' st kp hq => ⟨R', μ', tm', h', s', st, kp, hq⟩)⟩
theorem Then.pre {R' : RO} {μ' : List Bind} {h' : List Ch} {w' : World} {Q : Act → World → Prop} (hq : Then k R μ h w K Q) (st : Step (ownH h μ) R w (ownH h' μ') R' w') (kp : Keeps k μ μ') : Then k R' μ' h' w' K Q :=
  fun R2 μ2 tm2 h2 a2 w2 s2 st2 kp2 hk => hq R2 μ2 tm2 h2 a2 w2 s2 (st.trans st2) (kp.trans kp2) hk

theorem Wp.ghost {c : Code} {tm' : List AV} {h' : List Ch} (hg : Gh tm h tm' h') (H : Wp P k c tm' h' q) : Wp P k c tm h q :=
  ⟨fun R μ a w s hl => by
    obtain ⟨R', μ', H', st, e, f⟩ := hg R μ w _ s.mem s.tm
    have kp := Keeps.ext hl e
    exact wp_mono (H.run R' μ' a w ⟨H', f _ s.tm, s.dfr⟩ kp.len) fun e a w hq => hq.pre st kp⟩
theorem Ops.ghost {tm' : List AV} {h' : List Ch} (hg : Gh tm h tm' h') (H : Ops P k all l tm' h' K) : Ops P k all l tm h K :=
  ⟨fun R μ a w s hl Q hQ => by
    obtain ⟨R', μ', H', st, e, f⟩ := hg R μ w _ s.mem s.tm
    have kp := Keeps.ext hl e
    exact H.run R' μ' a w ⟨H', f _ s.tm, s.dfr⟩ kp.len Q (hQ.pre st kp)⟩
theorem Does.ghost {g : FuncId} {as as' : List AV} {h' : List Ch} {K : KT} (hg : Gh as h as' h') (H : Does P g as' h' K) : Does P g as h K :=
  ⟨H.here, fun R μ w vs hv H0 => by
    obtain ⟨R', μ', H', st, e, f⟩ := hg R μ w _ H0 hv
    refine (H.run R' μ' w vs (f _ hv) H').mono fun e2 w2 hl => ?_
    obtain ⟨v, R2, μ2, h2, av, h3, h4, h5, h6, h7, h8⟩ := hl
    exact ⟨v, R2, μ2, h2, av, h3, h4, h5, h6, e.trans h7, st.trans h8⟩⟩
theorem Does.mono {g : FuncId} {as : List AV} {K K' : KT} (H : Does P g as h K) (hk : ∀ v h, K v h → K' v h) : Does P g as h K' :=
  ⟨H.here, fun R μ w vs hv H0 => (H.run R μ w vs hv H0).mono fun e2 w2 hl => by
    obtain ⟨v, R2, μ2, h2, av, h3, h4, h5, h6, h7, h8⟩ := hl
    exact ⟨v, R2, μ2, h2, av, h3, hk _ _ h4, h5, h6, h7, h8⟩⟩

/-! ### Rules for codes -/
theorem Wp.mono {c : Code} {q' : Post} (H : Wp P k c tm h q) (hn : ∀ tm h, q.n tm h → q'.n tm h) (hx : ∀ i tm h, q.x i tm h → q'.x i tm h) (hr : ∀ tm h, q.r tm h → q'.r tm h) : Wp P k c tm h q' :=
  ⟨fun R μ a w s hl => wp_mono (H.run R μ a w s hl) fun e a w hq => by
    obtain ⟨R', μ', tm', h', s', st, kp, hq⟩ := hq
    refine ⟨R', μ', tm', h', s', st, kp, ?_⟩
    cases e <;> first | exact hn _ _ hq | exact hx _ _ _ hq | exact hr _ _ hq | exact hq.elim⟩
theorem w_skip (H : q.n tm h) : Wp P k .skip tm h q := ⟨fun R μ a w s hl => wp_skip ⟨R, μ, tm, h, s, Step.refl _ _ _, .refl hl, H⟩⟩
theorem w_ret (H : q.r tm h) : Wp P k .ret tm h q := ⟨fun R μ a w s hl => wp_ret ⟨R, μ, tm, h, s, Step.refl _ _ _, .refl hl, H⟩⟩
theorem w_exit {i : Nat} (H : q.x i tm h) : Wp P k (.exit i) tm h q := ⟨fun R μ a w s hl => wp_exit ⟨R, μ, tm, h, s, Step.refl _ _ _, .refl hl, H⟩⟩
theorem w_seq_mid {a b : Code} (M : List AV → List Ch → Prop) (H : Wp P k a tm h ⟨M, q.x, q.r⟩) (H2 : ∀ tm h, M tm h → Wp P k b tm h q) : Wp P k (.seq a b) tm h q :=
  ⟨fun R μ x w s hl => wp_seq (wp_mono (H.run R μ x w s hl) fun e x' w' hq => by
    obtain ⟨R', μ', tm', h', s', st, kp, hq⟩ := hq
    cases e with
    | normal => exact wp_mono ((H2 tm' h' hq).run R' μ' x' w' s' kp.len) fun e a w hq => hq.pre st kp
    | exit i => exact ⟨R', μ', tm', h', s', st, kp, hq⟩
    | ret => exact ⟨R', μ', tm', h', s', st, kp, hq⟩
    | _ => exact hq.elim)⟩
theorem w_seq {a b : Code} (H : ∀ K : List AV → List Ch → Prop, (∀ tm h, Wp P k b tm h q → K tm h) → Wp P k a tm h ⟨K, q.x, q.r⟩) : Wp P k (.seq a b) tm h q :=
  w_seq_mid _ (H _ fun _ _ h => h) fun _ _ h => h
theorem w_block {id : Nat} {c : Code} (H : Wp P k c tm h ⟨q.n, fun i tm h => if i = id then q.n tm h else q.x i tm h, q.r⟩) : Wp P k (.block id c) tm h q :=
  ⟨fun R μ x w s hl => wp_block (wp_mono (H.run R μ x w s hl) fun e x' w' hq => by
    obtain ⟨R', μ', tm', h', s', st, kp, hq⟩ := hq
    cases e with
    | normal => exact ⟨R', μ', tm', h', s', st, kp, hq⟩
    | exit i =>
      simp only [Exit.inBlock]
      simp only [Post.at] at hq
      split
      · rename_i hi; rw [if_pos hi] at hq; exact ⟨R', μ', tm', h', s', st, kp, hq⟩
      · rename_i hi; rw [if_neg hi] at hq; exact ⟨R', μ', tm', h', s', st, kp, hq⟩
    | ret => exact ⟨R', μ', tm', h', s', st, kp, hq⟩
    | _ => exact hq.elim)⟩
theorem w_cond {t : Nat} {a b : Code} {c : Bool} (hc : nthA tm t = .bool c) (H1 : c = true → Wp P k a (tm.set t (.bool true)) h q) (H2 : c = false → Wp P k b (tm.set t (.bool false)) h q) : Wp P k (.cond (.tmp t) a b) tm h q :=
  ⟨fun R μ x w s hl => by
    have h1 := nth_rel s hc
    have h2 : x.eval (.tmp t) = .bool c := by simp [Act.eval, h1]
    cases c with
    | true => exact wp_cond_true h2 ((H1 rfl).run R μ x w (s.tag hc) hl)
    | false => exact wp_cond_false h2 ((H2 rfl).run R μ x w (s.tag hc) hl)⟩
theorem w_cond_t {t : Nat} {a b : Code} (hc : nthA tm t = .bool true) (H : Wp P k a tm h q) (hs : tm.set t (.bool true) = tm) : Wp P k (.cond (.tmp t) a b) tm h q := w_cond hc (fun _ => by rw [hs]; exact H) (fun h => by cases h)
theorem w_cond_f {t : Nat} {a b : Code} (hc : nthA tm t = .bool false) (H : Wp P k b tm h q) (hs : tm.set t (.bool false) = tm) : Wp P k (.cond (.tmp t) a b) tm h q := w_cond hc (fun h => by cases h) (fun _ => by rw [hs]; exact H)

/-- the state fits a general one -/
theorem w_fit {c : Code} {σ : List Nat} {gt : List AV} {gh : List Ch} (hσ : σ.take k = List.range k) (hf : Fit σ gt gh tm h) (H : Wp P k c gt gh q) : Wp P k c tm h q :=
  ⟨fun R μ a w s hl => by
    obtain ⟨H2, t2, st2⟩ := hf.ok s.mem s.tm
    have kp := Keeps.pick (μ := μ) hσ
    exact wp_mono (H.run R _ a w ⟨H2, t2, s.dfr⟩ kp.len) fun e a w hq => hq.pre st2 kp⟩

/-- the first time at a loop's head, and again: in state 'st x' -/
def At (k : Nat) (gt : List AV) (gh : List Ch) (tm : List AV) (h : List Ch) : Prop := ∃ tm' h', Gh tm h tm' h' ∧ ∃ σ : List Nat, σ.take k = List.range k ∧ Fit σ gt gh tm' h'
/-- again at a loop's head -/
def Back {A : Type} (k : Nat) (inv : A → Prop) (mu : A → Nat) (live : A → List AV) (heap : A → List Ch) (x : A) (tm : List AV) (h : List Ch) : Prop :=
  ∃ x', (inv x' ∧ mu x' < mu x) ∧ At k (live x') (heap x') tm h
theorem w_loop_at {c : Code} {A : Type} (inv : A → Prop) (mu : A → Nat) (live : A → List AV) (heap : A → List Ch) (x0 : A) (hi : inv x0) (h0 : At k (live x0) (heap x0) tm h)
    (H : ∀ (x : A) (E : List AV → List Ch → Prop), inv x → (∀ tm' h', Back k inv mu live heap x tm' h' → E tm' h') → Wp P k c (live x) (heap x) ⟨E, q.x, q.r⟩) : Wp P k (.loop c) tm h q :=
  ⟨fun R μ a w s hl => by
    obtain ⟨tm0', h0', hcl0, σ0, hσ0, hfit0⟩ := h0
    obtain ⟨Rc, μc, Hc, stc, ec, fc⟩ := hcl0 R μ w _ s.mem s.tm
    obtain ⟨H0, t0, st0'⟩ := hfit0.ok Hc (fc _ s.tm)
    have st0 := stc.trans st0'
    have kp0 := (Keeps.ext hl ec).trans (Keeps.pick (μ := μc) hσ0)
    refine wp_loop_rel (fun n a' w' => ∃ R' μ' x, inv x ∧ mu x = n ∧ SR R' μ' (live x) (heap x) a' w' ∧ Step (ownH h μ) R w (ownH (heap x) μ') R' w' ∧ Keeps k μ μ')
      (mu x0) ⟨Rc, _, x0, hi, rfl, ⟨H0, t0, s.dfr⟩, st0, kp0⟩ ?_
    rintro n a' w' ⟨R', μ', x, hinv, rfl, s', st, kp⟩
    refine wp_mono ((H x _ hinv fun tm' h' hb => hb).run R' μ' a' w' s' kp.len) ?_
    intro e a2 w2 hq
    obtain ⟨R2, μ2, tm2, h2, s2, st2, kp2, hq⟩ := hq
    cases e with
    | normal =>
      obtain ⟨x', ⟨hinv', hlt⟩, tc', hc', hcl, σ, hσ, hfit⟩ := hq
      obtain ⟨Rc, μc, Hc, stc, ec, fc⟩ := hcl R2 μ2 w2 _ s2.mem s2.tm
      obtain ⟨H3, t3, st3⟩ := hfit.ok Hc (fc _ s2.tm)
      exact ⟨_, hlt, Rc, _, x', hinv', rfl, ⟨H3, t3, s2.dfr⟩, (st.trans st2).trans (stc.trans st3), ((kp.trans kp2).trans (Keeps.ext kp2.len ec)).trans (Keeps.pick hσ)⟩
    | exit i => exact ⟨R2, μ2, tm2, h2, s2, st.trans st2, kp.trans kp2, hq⟩
    | ret => exact ⟨R2, μ2, tm2, h2, s2, st.trans st2, kp.trans kp2, hq⟩
    | _ => exact hq.elim⟩
/-- a loop: slots that it writes are forgotten but for those named; chunks that change are named -/
theorem w_loop {c : Code} {A : Type} (inv : A → Prop) (mu : A → Nat) (live : A → List (Nat × AV)) (heap : A → List (Nat × Ch)) (x0 : A) {ws : List Nat} {tk : List AV} (hw : writes c = ws) (ht : killT tm ws = tk) (hi : inv x0)
    (h0 : At k (liveT tk (live x0)) (setH h (heap x0)) tm h)
    (H : ∀ (x : A) (E : List AV → List Ch → Prop) t, inv x → (∀ tm' h', Back k inv mu (fun x => liveT tk (live x)) (fun x => setH h (heap x)) x tm' h' → E tm' h') → liveT tk (live x) = t →
      Wp P k c t (setH h (heap x)) ⟨E, q.x, q.r⟩) : Wp P k (.loop c) tm h q :=
  w_loop_at inv mu (fun x => liveT tk (live x)) (fun x => setH h (heap x)) x0 hi h0 fun x E hx hE => H x E _ hx hE rfl
/-- ways meet: in the middle a general state -/
def Meet {A : Type} (k : Nat) (inv : A → Prop) (live : A → List AV) (heap : A → List Ch) (tm : List AV) (h : List Ch) : Prop := ∃ x, inv x ∧ At k (live x) (heap x) tm h
theorem w_at {c : Code} {gt : List AV} {gh : List Ch} (hat : At k gt gh tm h) (H : Wp P k c gt gh q) : Wp P k c tm h q :=
  ⟨fun R μ a w s hl => by
    obtain ⟨tm', h', hcl, σ, hσ, hf⟩ := hat
    obtain ⟨Rc, μc, Hc, stc, ec, fc⟩ := hcl R μ w _ s.mem s.tm
    obtain ⟨H2, t2, st2⟩ := hf.ok Hc (fc _ s.tm)
    have kp := (Keeps.ext hl ec).trans (Keeps.pick (μ := μc) hσ)
    exact wp_mono (H.run Rc _ a w ⟨H2, t2, s.dfr⟩ kp.len) fun e a w hq => hq.pre (stc.trans st2) kp⟩
/-- ways meet behind a: slots that it writes are forgotten but for those named, chunks that change are named -/
theorem w_meet {a b : Code} {A : Type} (inv : A → Prop) (live : A → List (Nat × AV)) (heap : A → List (Nat × Ch)) {ws : List Nat} {tk : List AV} (hw : writes a = ws) (ht : killT tm ws = tk)
    (H : ∀ K : List AV → List Ch → Prop, (∀ tm' h', Meet k inv (fun x => liveT tk (live x)) (fun x => setH h (heap x)) tm' h' → K tm' h') → Wp P k a tm h ⟨K, q.x, q.r⟩)
    (H2 : ∀ x t, inv x → liveT tk (live x) = t → Wp P k b t (setH h (heap x)) q) : Wp P k (.seq a b) tm h q :=
  w_seq_mid _ (H _ fun _ _ h => h) fun _ _ ⟨x, hx, hat⟩ => w_at hat (H2 x _ hx rfl)
end
end Go.V
