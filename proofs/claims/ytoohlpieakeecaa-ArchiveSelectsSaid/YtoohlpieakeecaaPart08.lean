/-
  A region whose order is drawn: soundness.
  Calls on a part of the memory at hand: slices are lent, objects handed over.
-/
import Derived.Test.YtoohlpieakeecaaPart07
import Derived.Orders
set_option linter.unusedVariables false
set_option linter.unusedSimpArgs false
namespace Go.V

variable {P : Program}

theorem opK_congr [ETab] {o : Op} {tm tm' : List AV} {h : List Ch} {K : KT} (he : ∀ x ∈ o.operands, evA tm x = evA tm' x) (H : opK P o tm h K) : opK P o tm' h K := by
  have mp : ∀ l : List Operand, (∀ x ∈ l, evA tm x = evA tm' x) → evAs tm l = evAs tm' l := fun l hl => List.map_congr_left hl
  have mps : ∀ l : List (Nat × Operand), (∀ p ∈ l, evA tm p.2 = evA tm' p.2) → evPs tm l = evPs tm' l := fun l hl => List.map_congr_left fun p hp => by rw [hl p hp]
  cases o <;> simp only [Op.operands] at he <;> simp only [opK] at H ⊢
  case build t ps => rw [← mps ps.toList fun p hp => he _ (by simp; exact ⟨p.1, by simpa using hp⟩)]; exact H
  case buildSlice t n ps => rw [← mps ps.toList fun p hp => he _ (by simp; exact ⟨p.1, by simpa using hp⟩)]; exact H
  case next x b =>
    cases b <;> simp only at H ⊢
    rw [← he x (by simp)]; exact H
  case makeFunc fn first caps =>
    cases fn <;> simp only at H ⊢
    rw [← mp caps.toList fun x hx => he x (by simp; exact .inr (by simpa using hx))]; exact H
  case slice t x lo hi mx =>
    have h1 := he x (by simp)
    have h2 : optA tm lo = optA tm' lo := by cases lo <;> simp [optA]; exact he _ (by simp)
    have h3 : optA tm hi = optA tm' hi := by cases hi <;> simp [optA]; exact he _ (by simp)
    cases mx with
    | none =>
      simp only at H ⊢
      rw [← h1, ← h2, ← h3]; exact H
    | some m =>
      have h4 := he m (by simp)
      cases hi with
      | none => exact H.elim
      | some hi =>
        have h5 := he hi (by simp)
        simp only at H ⊢
        rw [← h1, ← h2, ← h4, ← h5]; exact H
  case call c =>
    simp only [Call.operands] at he
    have ha := mp c.args.toList fun x hx => he x (by simp; exact .inr (by simpa using hx))
    unfold callK at *
    cases hc : c.callee with
    | value f =>
      simp only [hc] at H ⊢
      rw [← he f (by simp [hc]), ← ha]; exact H
    | invoke r m =>
      simp only [hc] at H ⊢
      rw [← he r (by simp [hc]), ← ha]; exact H
    | builtin b =>
      simp only [hc] at H ⊢
      cases b <;> simp only at H ⊢
      case len =>
        split at H
        · rename_i x t h1 h2
          rw [← he x (by simp; exact .inr (by have : x ∈ c.args.toList := by rw [h1]; simp
                                              simpa using this))]
          exact H
        · exact H.elim
      case append =>
        split at H
        · rename_i s x t tx h1 h2
          rw [← he s (by simp; exact .inr (by have : s ∈ c.args.toList := by rw [h1]; simp
                                              simpa using this)), ← he x (by simp; exact .inr (by have : x ∈ c.args.toList := by rw [h1]; simp
                                                                                                  simpa using this))]
          exact H
        · exact H.elim
      case min => rw [← ha]; exact H
      case clear =>
        split at H
        · rename_i x t h1 h2
          rw [← he x (by simp; exact .inr (by have : x ∈ c.args.toList := by rw [h1]; simp
                                              simpa using this))]
          exact H
        · exact H.elim
      case max => rw [← ha]; exact H
      case delete =>
        split at H
        · rename_i s x t tx h1 h2
          rw [← he s (by simp; exact .inr (by have : s ∈ c.args.toList := by rw [h1]; simp
                                              simpa using this)), ← he x (by simp; exact .inr (by have : x ∈ c.args.toList := by rw [h1]; simp
                                                                                                  simpa using this))]
          exact H
        · exact H.elim
  case typeAssert x xt t b =>
    cases b <;> simp only at H ⊢
    rw [← he x (by simp)]; exact H
  case makeInterface t x =>
    rw [← he x (by simp)]; exact H
  case makeMap t r =>
    have h2 : optA tm r = optA tm' r := by cases r <;> simp [optA]; exact he _ (by simp)
    rw [← h2]; exact H
  all_goals first
    | exact H
    | (rw [← he _ (by simp)]; exact H)
    | (rw [← he _ (by simp), ← he _ (by simp)]; exact H)
    | (have h1 := he _ (Array.mem_def.2 (List.Mem.head _)); simp only [← h1]; exact H)
    | (simp only [List.mem_toArray, List.mem_cons, forall_eq_or_imp, List.not_mem_nil, false_imp_iff, implies_true, and_true] at he; simp only [← he.1, ← he.2]; exact H)
    | (simp only [List.mem_toArray, List.mem_cons, forall_eq_or_imp, List.not_mem_nil, false_imp_iff, implies_true, and_true] at he; simp only [← he.1, ← he.2.1, ← he.2.2]; exact H)
    | (simp only [List.mem_toArray, List.mem_cons, forall_eq_or_imp, List.not_mem_nil, false_imp_iff, implies_true, and_true] at he; simp only [← he]; exact H)

theorem putsD_ext {i : Nat} : ∀ (os : List Oper) (vs ws : List AV) (j : Nat) (tm : List AV), i ≤ j + vs.length → putsD (ltD i) os (vs ++ ws) j tm = putsD (ltD i) os vs j tm
  | [], vs, ws, j, tm, _ => by cases vs <;> cases ws <;> rfl
  | o :: os, [], ws, j, tm, h => by
    have key : ∀ (os : List Oper) (ws : List AV) (j : Nat) (tm : List AV), i ≤ j → putsD (ltD i) os ws j tm = tm := by
      intro os
      induction os with
      | nil => intro ws j tm _; cases ws <;> rfl
      | cons o os ih =>
        intro ws j tm hj
        cases ws with
        | nil => rfl
        | cons w ws =>
          simp only [putsD]
          rw [if_neg (by simp [ltD]; omega)]
          exact ih ws (j + 1) tm (by omega)
    rw [List.nil_append, key _ _ _ _ (by simpa using h)]
    rfl
  | o :: os, v :: vs, ws, j, tm, h => by
    simp only [List.cons_append, putsD]
    exact putsD_ext os vs ws (j + 1) _ (by simp at h; omega)
theorem putsD_snoc {all : List Oper} {i : Nat} {o : Oper} {v : AV} : ∀ (os : List Oper) (vs : List AV) (j : Nat) (tm : List AV), os[vs.length]? = some o → j + vs.length = i → putsD (ltD (i + 1)) os (vs ++ [v]) j tm = putA (putsD (ltD i) os vs j tm) o.dst v
  | [], vs, j, tm, h, _ => by simp at h
  | o' :: os, [], j, tm, h, hj => by
    simp at h hj
    subst h; subst hj
    simp only [List.nil_append, putsD, ltD, Nat.lt_succ_self, decide_true, if_true]
  | o' :: os, v' :: vs, j, tm, h, hj => by
    simp only [List.cons_append, putsD]
    have hlt : j < i := by simp at hj; omega
    rw [putsD_snoc (all := all) os vs (j + 1) _ (by simpa using h) (by simp at hj; omega)]
    simp [ltD, hlt, Nat.lt_succ_of_lt hlt]

variable [ETab]
/-- the past of a walk -/
structure Past (P : Program) (all : List Oper) (h0 : List Ch) (tm0 : List AV) (i : Nat) (tm : List AV) (h : List Ch) (ps : List Rec) (hs : List (Nat × List Ch)) (vs : List AV) : Prop where
  len : vs.length = i
  tm : tm = putsD (ltD i) all vs 0 tm0
  keys : ∀ p ∈ hs, p.1 < i
  first : heapR (fun _ => false) hs h = h0
  ops : ∀ j o v, j < i → all[j]? = some o → vs[j]? = some v → OpOK P all tm0 vs hs h j o v ∧ ((∀ p ∈ hs, p.1 ≠ j) → (∃ j' w t, o.guard = some (j', w) ∧ dstAt all j' = some t ∧ NoRun w (nthA (putsD (ltD j) all vs 0 tm0) t) ∧ v = .lit undef) ∨ ∃ p ∈ ps, p.i = j ∧ p.o = o.op ∧ p.tm = putsD (ltD j) all vs 0 tm0 ∧ p.v = v)

theorem OpOK.snoc {all : List Oper} {tm0 vs : List AV} {hs : List (Nat × List Ch)} {h : List Ch} {i : Nat} {o : Oper} {v u : AV} (H : OpOK P all tm0 vs hs h i o v) (hi : i ≤ vs.length) : OpOK P all tm0 (vs ++ [u]) hs h i o v := by
  unfold OpOK at *
  rw [putsD_ext all vs [u] 0 tm0 (by omega)]
  exact H
omit [ETab] in
theorem heapR_all {D : Nat → Bool} : ∀ (hs : List (Nat × List Ch)) (h : List Ch), (∀ p ∈ hs, D p.1 = true) → heapR D hs h = h
  | [], _, _ => rfl
  | (m, H) :: r, h, hd => by simp [heapR, hd (m, H) (by simp)]

theorem DW.data {all : List Oper} (C : ChkR all) {h0 : List Ch} {tm0 : List AV} {Fin : List AV → List Ch → Prop} : ∀ {l : List Oper} {i : Nat} {tm : List AV} {h : List Ch} {ps : List Rec} {hs : List (Nat × List Ch)}, DW P all Fin l i tm h ps hs → (∀ j, l[j]? = all[i + j]?) →
    ∀ vs, Past P all h0 tm0 i tm h ps hs vs → ∃ tm' h' ps' hs' vs', Fin tm' h' ∧ Past P all h0 tm0 (i + l.length) tm' h' ps' hs' vs' := by
  intro l i tm h ps hs hw
  induction hw with
  | nil H => intro _ vs hp; exact ⟨_, _, _, _, vs, H, by simpa using hp⟩
  | @skip o r i tm h ps hs j t w hg hd hb H ih =>
    intro hl vs hp
    have ho : all[i]? = some o := by simpa using (hl 0).symm
    obtain ⟨tm', h', ps', hs', vs', h1, h2⟩ := ih (fun j => by have := hl (j + 1); simpa [Nat.add_assoc, Nat.add_comm 1 j] using this) (vs ++ [.lit undef]) ⟨by simp [hp.len], by rw [hp.tm]; exact (putsD_snoc (all := all) all vs 0 tm0 (by rw [hp.len]; exact ho) (by rw [hp.len]; simp)).symm, fun p hq => Nat.lt_succ_of_lt (hp.keys p hq), hp.first, fun j' o' v' hj ho' hv => by
      by_cases e : j' = i
      · subst e
        rw [ho] at ho'
        cases ho'
        have hve : v' = .lit undef := by
          rw [List.getElem?_append_right (by rw [hp.len]; exact Nat.le_refl _), hp.len] at hv
          simpa using hv.symm
        subst hve
        rw [hp.tm] at hb
        have hb' : NoRun w (nthA (putsD (ltD j') all (vs ++ [.lit undef]) 0 tm0) t) := by rw [putsD_ext _ _ _ _ _ (by rw [hp.len]; simp)]; exact hb
        exact ⟨.inl ⟨j, w, t, hg, hd, hb', rfl, fun p hq => by have := hp.keys p hq; omega⟩, fun _ => .inl ⟨j, w, t, hg, hd, hb', rfl⟩⟩
      · have hlt : j' < i := by omega
        rw [List.getElem?_append_left (by rw [hp.len]; exact hlt)] at hv
        obtain ⟨h1, h2⟩ := hp.ops j' o' v' hlt ho' hv
        refine ⟨h1.snoc (by rw [hp.len]; omega), fun hk => ?_⟩
        rw [putsD_ext _ _ _ _ _ (by rw [hp.len]; omega)]
        exact h2 hk⟩
    exact ⟨tm', h', ps', hs', vs', h1, by simpa [Nat.add_assoc, Nat.add_comm 1] using h2⟩
  | @pure o r i tm h ps hs v hg hf hh H ih =>
    intro hl vs hp
    have ho : all[i]? = some o := by simpa using (hl 0).symm
    obtain ⟨tm', h', ps', hs', vs', h1, h2⟩ := ih (fun j => by have := hl (j + 1); simpa [Nat.add_assoc, Nat.add_comm 1 j] using this) (vs ++ [v]) ⟨by simp [hp.len], by rw [hp.tm]; exact (putsD_snoc (all := all) all vs 0 tm0 (by rw [hp.len]; exact ho) (by rw [hp.len]; simp)).symm, fun p hq => Nat.lt_succ_of_lt (hp.keys p hq), hp.first, fun j' o' v' hj ho' hv => by
      by_cases e : j' = i
      · subst e
        rw [ho] at ho'
        cases ho'
        have hve : v' = v := by
          rw [List.getElem?_append_right (by rw [hp.len]; exact Nat.le_refl _), hp.len] at hv
          simpa using hv.symm
        subst hve
        rw [hp.tm] at hg hf hh
        rw [putsD_ext _ _ _ _ _ (by rw [hp.len]; simp)]
        refine ⟨.inr ⟨by rw [putsD_ext _ _ _ _ _ (by rw [hp.len]; simp)]; exact hg, fun D hD hr => ?_⟩, fun _ => .inr ⟨⟨j', o.op, tm, v'⟩, by simp, rfl, rfl, hp.tm, rfl⟩⟩
        rw [putsD_ext _ _ _ _ _ (by rw [hp.len]; simp), heapR_upd hs h fun p hq => by have := hp.keys p hq; omega]
        rcases heapR_cases D hs h with h1 | ⟨p, h1, h2, h3⟩
        · rw [h1]; exact hf
        · rw [h3]
          refine hh p h1 ?_
          cases hrb : reachB all j' p.1 with
          | false => rfl
          | true => have := hr.reach C hD hrb; rw [h2] at this; cases this
      · have hlt : j' < i := by omega
        rw [List.getElem?_append_left (by rw [hp.len]; exact hlt)] at hv
        obtain ⟨h1, h2⟩ := hp.ops j' o' v' hlt ho' hv
        refine ⟨h1.snoc (by rw [hp.len]; omega), fun hk => ?_⟩
        rw [putsD_ext _ _ _ _ _ (by rw [hp.len]; omega)]
        exact (h2 hk).imp id fun ⟨p, h3, h4⟩ => ⟨p, by simp [h3], h4⟩⟩
    exact ⟨tm', h', ps', hs', vs', h1, by simpa [Nat.add_assoc, Nat.add_comm 1] using h2⟩
  | @heap o r i tm h ps hs v h2 hg hf hh hpp H ih =>
    intro hl vs hp
    have ho : all[i]? = some o := by simpa using (hl 0).symm
    obtain ⟨tm', h', ps', hs', vs', h1, h2⟩ := ih (fun j => by have := hl (j + 1); simpa [Nat.add_assoc, Nat.add_comm 1 j] using this) (vs ++ [v]) ⟨by simp [hp.len], by rw [hp.tm]; exact (putsD_snoc (all := all) all vs 0 tm0 (by rw [hp.len]; exact ho) (by rw [hp.len]; simp)).symm, fun p hq => by
      rcases List.mem_cons.1 hq with rfl | hq
      · exact Nat.lt_succ_self _
      · exact Nat.lt_succ_of_lt (hp.keys p hq), by simpa [heapR] using hp.first, fun j' o' v' hj ho' hv => by
      by_cases e : j' = i
      · subst e
        rw [ho] at ho'
        cases ho'
        have hve : v' = v := by
          rw [List.getElem?_append_right (by rw [hp.len]; exact Nat.le_refl _), hp.len] at hv
          simpa using hv.symm
        subst hve
        rw [hp.tm] at hg hf
        refine ⟨.inr ⟨by rw [putsD_ext _ _ _ _ _ (by rw [hp.len]; simp)]; exact hg, fun D hD hr => ?_⟩, fun hk => absurd rfl (hk (j', h) (by simp))⟩
        rw [putsD_ext _ _ _ _ _ (by rw [hp.len]; simp)]
        simp only [heapR, hr.1, Bool.false_eq_true, if_false]
        rw [heapR_all hs h fun p hq => hr.reach C hD (hh p hq), if_pos (by simp [updD])]
        exact hf
      · have hlt : j' < i := by omega
        rw [List.getElem?_append_left (by rw [hp.len]; exact hlt)] at hv
        obtain ⟨h1, h4⟩ := hp.ops j' o' v' hlt ho' hv
        rw [putsD_ext _ _ _ _ _ (by rw [hp.len]; omega)]
        refine ⟨?_, fun hk => h4 fun p hq => hk p (by simp [hq])⟩
        refine OpOK.snoc ?_ (by rw [hp.len]; omega)
        rcases h1 with ⟨jj, w, t, g1, g2, g3, g4, g5⟩ | ⟨g1, g2⟩
        · exact .inl ⟨jj, w, t, g1, g2, g3, g4, fun p hq => by
            rcases List.mem_cons.1 hq with rfl | hq
            · exact fun e' => e e'.symm
            · exact g5 p hq⟩
        · refine .inr ⟨g1, fun D hD hr => ?_⟩
          have hup : updD D j' i = D i := by
            have : ¬ i = j' := fun e' => e e'.symm
            simp [updD, this]
          simp only [heapR, hup]
          cases hDi : D i with
          | false => simpa using g2 D hD hr
          | true =>
            simp only [if_true]
            by_cases hk : ∀ p ∈ hs, p.1 ≠ j'
            · have hrb : reachB all i j' = false := by
                cases hrb : reachB all i j' with
                | false => rfl
                | true => have := hD.reach C hDi hrb; rw [hr.1] at this; cases this
              rcases h4 hk with ⟨jj, w, t, k1, k2, k3, k4⟩ | ⟨p, k1, k2, k3, k4, k5⟩
              · rcases g1 with g1 | ⟨j3, w3, t3, l1, l2, l3⟩
                · rw [g1] at k1; cases k1
                · rw [l1] at k1
                  cases k1
                  rw [l2] at k2
                  cases k2
                  rw [l3] at k3
                  cases w <;> simp [NoRun] at k3
              · have := hpp p k1 (by rw [k2]; exact hrb)
                rw [k3, k4, k5] at this
                exact this
            · have : ∃ p ∈ hs, p.1 = j' := by
                false_or_by_contra
                rename_i hc
                exact hk fun p hq e' => hc ⟨p, hq, e'⟩
              obtain ⟨p, hq, rfl⟩ := this
              have := hD.reach C hDi (hh p hq)
              rw [hr.1] at this
              cases this⟩
    exact ⟨tm', h', ps', hs', vs', h1, by simpa [Nat.add_assoc, Nat.add_comm 1] using h2⟩

def cntD (D : Nat → Bool) : Nat → Nat
  | 0 => 0
  | n + 1 => cntD D n + (if D n then 0 else 1)
omit [ETab] in
theorem cntD_upd {D : Nat → Bool} {i : Nat} (hi : D i = false) : ∀ n, i < n → cntD (updD D i) n + 1 = cntD D n := by
  have low : ∀ n, n ≤ i → cntD (updD D i) n = cntD D n := by
    intro n
    induction n with
    | zero => intro _; rfl
    | succ n ih =>
      intro hn
      have : updD D i n = D n := by have : ¬ n = i := by omega
                                    simp [updD, this]
      simp only [cntD, ih (by omega), this]
  intro n
  induction n with
  | zero => intro h; omega
  | succ n ih =>
    intro hn
    simp only [cntD]
    by_cases e : i = n
    · subst e
      rw [low i (Nat.le_refl _)]
      simp [updD, hi]
    · have : updD D i n = D n := by have : ¬ n = i := by omega
                                    simp [updD, this]
      rw [this]
      have := ih (by omega)
      omega
omit [ETab] in
theorem cntD_zero {D : Nat → Bool} : ∀ n, cntD D n = 0 → ∀ j, j < n → D j = true := by
  intro n
  induction n with
  | zero => intro _ j hj; omega
  | succ n ih =>
    intro h j hj
    simp only [cntD] at h
    by_cases e : j = n
    · subst e
      cases hd : D j with
      | true => rfl
      | false => simp [hd] at h
    · exact ih (by omega) j (by omega)

theorem any_ok {all : List Oper} (C : ChkR all) {k : Nat} {tm0 : List AV} {h0 : List Ch} {R0 : RO} {μ0 : List Bind} {w0 : World} {Q : Exit → Act → World → Prop} {Fin : List AV → List Ch → Prop} (hQ : Then k R0 μ0 h0 w0 Fin (Q .normal)) {tmF : List AV} {hF : List Ch} {ps : List Rec} {hs : List (Nat × List Ch)} {vs : List AV} (hfin : Fin tmF hF) {hS : List Ch} (hp : Past P all hS tm0 all.length tmF hF ps hs vs) :
    ∀ (fuel : Nat) (listed : Array Bool) (R : RO) (μ : List Bind) (a : Act) (w : World), listed.size = all.length → Closed all (fun j => listed.getD j false) → cntD (fun j => listed.getD j false) all.length ≤ fuel →
      SR R μ (putsD (fun j => listed.getD j false) all vs 0 tm0) (heapR (fun j => listed.getD j false) hs hF) a w → Step (ownH h0 μ0) R0 w0 (ownH (heapR (fun j => listed.getD j false) hs hF) μ) R w → Keeps k μ0 μ → wpAny P .any all.toArray Q fuel listed a w := by
  have done : ∀ (listed : Array Bool) (R : RO) (μ : List Bind) (a : Act) (w : World), (∀ j, j < all.length → listed.getD j false = true) →
      SR R μ (putsD (fun j => listed.getD j false) all vs 0 tm0) (heapR (fun j => listed.getD j false) hs hF) a w → Step (ownH h0 μ0) R0 w0 (ownH (heapR (fun j => listed.getD j false) hs hF) μ) R w → Keeps k μ0 μ → Q .normal a w := by
    intro listed R μ a w hall s st kp
    have e1 : putsD (fun j => listed.getD j false) all vs 0 tm0 = tmF := by
      rw [hp.tm]
      refine ext_nthA (by rw [putsD_len, putsD_len]) fun x hx => ?_
      rw [putsD_len] at hx
      rw [nthA_puts _ _ _ _ _ _ hx, nthA_puts _ _ _ _ _ _ hx]
      refine valD_eq _ _ _ _ fun j o hj _ => ?_
      have hlt := (List.getElem?_eq_some_iff.1 hj).1
      rw [Nat.zero_add, hall j hlt]
      simp [ltD, hlt]
    have e2 : heapR (fun j => listed.getD j false) hs hF = hF := heapR_all _ _ fun p hq => hall _ (hp.keys p hq)
    rw [e1, e2] at s
    rw [e2] at st
    exact hQ _ _ _ _ _ _ s st kp hfin
  intro fuel
  induction fuel with
  | zero =>
    intro listed R μ a w hsz hD hc s st kp
    have hall := cntD_zero all.length (Nat.le_zero.1 hc)
    refine ⟨?_, done listed R μ a w hall s st kp⟩
    apply List.eq_nil_iff_forall_not_mem.2
    intro j hj
    obtain ⟨h1, o, ho, _⟩ := mem_ready.1 hj
    have hlt : j < all.length := by
      have := (Array.getElem?_eq_some_iff.1 ho).1
      simpa using this
    have h2 := hall j hlt
    have hlt2 : j < listed.size := by omega
    simp [hlt2] at h1 h2
    rw [h1] at h2
    cases h2
  | succ fuel ih =>
    intro listed R μ a w hsz hD hc s st kp
    refine ⟨fun hnil => done listed R μ a w (fun j hj => ?_) s st kp, fun i hi => ?_⟩
    · -- the least that is not listed would be ready
      induction j using Nat.strongRecOn with
      | _ j ihj =>
        cases hl : listed.getD j false with
        | true => rfl
        | false =>
          have hmem : j ∈ Region.ready .any all.toArray listed := by
            refine mem_ready.2 ⟨?_, all[j], by simp [hj], fun e he hb => ?_⟩
            · have hlt2 : j < listed.size := by omega
              simp [hlt2] at hl ⊢
              exact hl
            · have hlt := C.lt j all[j] (by simp [hj]) e (by simpa using he) hb
              exact ihj e.on hlt (by omega)
          rw [hnil] at hmem
          cases hmem
    · obtain ⟨h1, o, ho, hall⟩ := mem_ready.1 hi
      have ho' : all[i]? = some o := by simpa using ho
      have hlt : i < all.length := (List.getElem?_eq_some_iff.1 ho').1
      have hlt2 : i < listed.size := by omega
      have h1' : listed.getD i false = false := by simp [hlt2] at h1 ⊢; exact h1
      have hr : Ready all (fun j => listed.getD j false) i := ⟨h1', fun o2 ho2 e he hb => by
        rw [ho'] at ho2
        cases ho2
        exact hall e (by simpa using he) hb⟩
      have hupd : (fun j => (listed.setIfInBounds i true).getD j false) = updD (fun j => listed.getD j false) i := by
        funext j
        unfold updD
        by_cases e : j = i
        · subst e
          simp [hlt2]
        · rw [getD_set_ne false (fun e' => e e'.symm)]
          simp [e]
      have hv : ∃ v, vs[i]? = some v := ⟨vs[i]'(by rw [hp.len]; exact hlt), by simp [hp.len, hlt]⟩
      obtain ⟨v, hv⟩ := hv
      have hok := (hp.ops i o v hlt ho' hv).1
      have next : ∀ (R' : RO) (μ' : List Bind) (h' : List Ch) (a' : Act) (w' : World), h' = heapR (updD (fun j => listed.getD j false) i) hs hF → SR R' μ' (putA (putsD (fun j => listed.getD j false) all vs 0 tm0) o.dst v) h' a' w' → Step (ownH h0 μ0) R0 w0 (ownH h' μ') R' w' → Keeps k μ0 μ' → wpAny P .any all.toArray Q fuel (listed.setIfInBounds i true) a' w' := by
        intro R' μ' h' a' w' he s' st' kp'
        subst he
        rw [put_upd C hD ho' hr hv] at s'
        refine ih (listed.setIfInBounds i true) R' μ' a' w' (by simpa using hsz) ?_ ?_ ?_ ?_ kp'
        · rw [hupd]; exact hD.upd hr
        · rw [hupd]
          have := cntD_upd (D := fun j => listed.getD j false) h1' all.length hlt
          omega
        · rw [hupd]; exact s'
        · rw [hupd]; exact st'
      unfold wpOp
      simp only [ho]
      rcases hok with ⟨j, wv, t, g1, g2, g3, g4, g5⟩ | ⟨g1, g2⟩
      · have hag := agree C hD ho' hr (vs := vs) (tm0 := tm0) (x := t) (by simp [namesO, g1, g2])
        rw [← hag] at g3
        have hw := wanted_no g2 g3 s g1
        rw [hw, if_neg (by simp)]
        rw [g4] at next
        refine next R μ _ _ w (heapR_upd hs hF g5).symm ?_ ?_ kp
        · exact s.put o.dst .lit s.mem (RO.le.refl R) (Ext.refl μ)
        · exact st
      · have hw : Region.wanted o (yielded all.toArray a.tmps) = true := by
          rcases g1 with g1 | ⟨j, wv, t, k1, k2, k3⟩
          · simp [Region.wanted, g1]
          · have hag := agree C hD ho' hr (vs := vs) (tm0 := tm0) (x := t) (by simp [namesO, k1, k2])
            rw [k3] at hag
            rw [wanted_of k2 hag s k1]
            cases wv <;> rfl
        rw [if_pos hw]
        refine .inl ?_
        have hop : opK P o.op (putsD (fun j => listed.getD j false) all vs 0 tm0) (heapR (fun j => listed.getD j false) hs hF) (fun v' h' => v' = v ∧ h' = heapR (updD (fun j => listed.getD j false) i) hs hF) := by
          refine opK_congr (fun x hx => ?_) (g2 _ hD hr _ ⟨rfl, rfl⟩)
          cases x with
          | tmp t => exact (agree C hD ho' hr (vs := vs) (tm0 := tm0) (x := t) (by simp only [namesO, List.mem_append, List.mem_flatMap]; exact .inl ⟨.tmp t, by simpa using hx, by simp [tmpOf]⟩)).symm
          | const c => rfl
          | func f => rfl
          | global g => rfl
        refine Oper.wp_mono (fun a' w' haft => ?_) (opK_ok s.mem s.tm hop (Q := Q))
        obtain ⟨R', μ', h', av, u, ⟨rfl, he⟩, rfl, hru, H', hx, hst⟩ := haft
        exact next R' μ' h' _ w' he (s.put o.dst hru H' hst.ro hx) (st.trans hst) (kp.trans (Keeps.ext kp.len hx))

/-- the rule -/
theorem w_draw {k : Nat} {id : Nat} {l : List Oper} {tm : List AV} {h : List Ch} {q : Post} (hm : P.follows .mixedOrders = true) (hc : chkR l = true) (H : ∀ Fin : List AV → List Ch → Prop, (∀ tm h, q.n tm h → Fin tm h) → DW P l Fin l 0 tm h [] []) : Wp P k (.region id l.toArray true) tm h q :=
  ⟨fun R μ a w s hl => by
    have C := chkR_ok hc
    have hw := H q.n fun _ _ h => h
    have hp0 : Past P l h tm 0 tm h [] [] [] := ⟨rfl, by cases l <;> rfl, fun p hp => (by cases hp), rfl, fun j o v hj => by omega⟩
    obtain ⟨tm', h', ps', hs', vs', h1, h2⟩ := hw.data C (fun j => by simp) [] hp0
    rw [Nat.zero_add] at h2
    refine wp_region_any hm ?_
    have hget : ∀ j, (Array.replicate l.length false).getD j false = false := by
      intro j
      by_cases hj : j < l.length <;> simp [hj]
    have hD0 : (fun j => (Array.replicate l.toArray.size false).getD j false) = fun _ => false := by
      funext j
      simpa using hget j
    have e1 : putsD (fun j => (Array.replicate l.toArray.size false).getD j false) l vs' 0 tm = tm := by
      rw [hD0]
      have key : ∀ (os : List Oper) (vs : List AV) (i : Nat), putsD (fun _ => false) os vs i tm = tm := by
        intro os
        induction os with
        | nil => intro vs i; cases vs <;> rfl
        | cons o os ih =>
          intro vs i
          cases vs with
          | nil => rfl
          | cons v vs => simp [putsD, ih]
      exact key ..
    have sm := s.mem.same (w' := { w with drawn := w.drawn + 1 }) (fun _ _ => rfl) (Nat.le_refl _) rfl rfl rfl
    have hheap : heapR (fun j => (Array.replicate l.toArray.size false).getD j false) hs' h' = h := by
      rw [hD0]
      exact h2.first
    refine any_ok C (Q := EndQ k R μ h w q) (k := k) (R0 := R) (μ0 := μ) (h0 := h) (w0 := w) (fun R' μ' tm' h' a' w' s' st kp hk => ⟨R', μ', tm', h', s', st, kp, hk⟩) h1 h2 _ _ R μ a _ (by simp) ?_ ?_ ?_ ?_ (.refl hl)
    · rw [hD0]
      intro i hi
      cases hi
    · rw [hD0]
      have : ∀ n, cntD (fun _ => false) n ≤ n := by
        intro n
        induction n with
        | zero => exact Nat.le_refl _
        | succ n ih => simp only [cntD]; simp; exact ih
      simpa using this l.length
    · rw [e1, hheap]
      exact ⟨sm.1, s.tm, s.dfr⟩
    · rw [hheap]
      exact sm.2⟩
end Go.V

namespace Go.V

variable {P : Program} {R : RO} {μ : List Bind} {h : List Ch} {w : World}

mutual
/-- nothing in it lies for good -/
def rfA : AV → Bool
  | .ro _ _ => false
  | .rp _ _ _ _ => false
  | .rc _ _ => false
  | .agg l => rfL l
  | .tup l => rfL l
  | .fn _ l => rfL l
  | .ifc _ a => rfA a
  | _ => true
def rfL : List AV → Bool
  | [] => true
  | a :: l => rfA a && rfL l
end
mutual
def rfC : Ch → Bool
  | .cells vs => rfL vs
  | .crow vs => rfL vs
  | .rows e _ => e.flat
  | .gone => true
  | .pack l => rfCs l
  | .map _ e _ => e.flat
  | .iter _ _ e _ _ _ => e.flat
def rfCs : List Ch → Bool
  | [] => true
  | c :: l => rfC c && rfCs l
end
mutual
/-- the value a is what g says, tags through σ; a slice that is owned may be given for one that lies for good -/
def brA (σ : List Nat) (h : List Ch) : AV → AV → Prop
  | .agg l, a => (match a with | .agg l' => brL σ h l l' | _ => False)
  | .ro e xs, a => (match a with
    | .sl t e' s n => (match hth h t with
      | .rows e'' ys => (match asE e e'' ys with
        | some ys => (s + n ≤ ys.length ∧ e' = e ∧ t ∉ σ) ∧ xs = (ys.drop s).take n
        | none => False)
      | _ => False)
    | a => fitA σ (.ro e xs) a)
  | g, a => fitA σ g a
def brL (σ : List Nat) (h : List Ch) : List AV → List AV → Prop
  | [], l => (match l with | [] => True | _ => False)
  | g :: gs, l => (match l with | a :: as => brA σ h g a ∧ brL σ h gs as | [] => False)
end
mutual
/-- the rows that are lent -/
def brT : AV → AV → List Nat
  | .agg l, a => (match a with | .agg l' => brTL l l' | _ => [])
  | .ro _ _, a => (match a with | .sl t _ _ _ => [t] | _ => [])
  | _, _ => []
def brTL : List AV → List AV → List Nat
  | [], _ => []
  | g :: gs, l => (match l with | a :: as => brT g a ++ brTL gs as | [] => [])
end

mutual
theorem Rel.rf {R R' : RO} : ∀ {a : AV} {v : Value}, rfA a = true → Rel R μ a v → Rel R' μ a v
  | .int _ _, _, _, h => by cases h; exact .int
  | .bool _, _, _, h => by cases h; exact .bool
  | .str _, _, _, h => by cases h; exact .str
  | .lit _, _, _, h => by cases h; exact .lit
  | .any, _, _, _ => .any
  | .agg l, _, hf, h => by cases h with | agg h => exact .agg (LRel.rf (by simpa [rfA] using hf) h)
  | .tup l, _, hf, h => by cases h with | tup h => exact .tup (LRel.rf (by simpa [rfA] using hf) h)
  | .fn _ l, _, hf, h => by cases h with | fn h => exact .fn (LRel.rf (by simpa [rfA] using hf) h)
  | .ifc _ a, _, hf, h => by cases h with | ifc h => exact .ifc (Rel.rf (by simpa [rfA] using hf) h)
  | .mp _, _, _, h => by cases h with | mp h => exact .mp h
  | .ptr _ _, _, _, h => by cases h with | ptr h hb => exact .ptr h hb
  | .csl _ _ _, _, _, h => by cases h with | csl h hb hl hm => exact .csl h hb hl hm
  | .ep _ _ _ _, _, _, h => by cases h with | ep h => exact .ep h
  | .sl _ _ _ _, _, _, h => by
    cases h with
    | sl h hc hl hm => exact .sl h hc hl hm
    | sl0 h => exact .sl0 h
  | .ro _ _, _, hf, _ => by simp [rfA] at hf
  | .rp _ _ _ _, _, hf, _ => by simp [rfA] at hf
  | .rc _ _, _, hf, _ => by simp [rfA] at hf
theorem LRel.rf {R R' : RO} : ∀ {l : List AV} {vs : List Value}, rfL l = true → LRel R μ l vs → LRel R' μ l vs
  | [], _, _, h => by cases h; exact .nil
  | a :: l, _, hf, h => by
    simp only [rfL, Bool.and_eq_true] at hf
    cases h with | cons ha hl => exact .cons (Rel.rf hf.1 ha) (LRel.rf hf.2 hl)
end
theorem LRel.ntf {R R' : RO} : ∀ {l : List AV} {vs : List Value}, (∀ a ∈ l, a.ntf = true) → LRel R μ l vs → LRel R' μ l vs
  | [], _, _, h => by cases h; exact .nil
  | a :: l, _, hf, h => by
    cases h with
    | cons ha hl =>
      refine .cons (ha.rf ?_) (LRel.ntf (fun b hb => hf b (by simp [hb])) hl)
      have := hf a (by simp)
      cases a <;> simp [AV.ntf] at this <;> rfl
theorem rf_of_ntf : ∀ {l : List AV}, (∀ a ∈ l, a.ntf = true) → rfL l = true
  | [], _ => rfl
  | a :: l, h => by
    have h1 := h a (by simp)
    have h2 := rf_of_ntf (l := l) fun b hb => h b (by simp [hb])
    have h3 : rfA a = true := by cases a <;> first | rfl | simp [AV.ntf] at h1
    simp [rfL, h2, h3]
theorem rf_valA (e : Ety) (hf : e.flat = true) (x : e.T) : rfA (valA e x) = true := by
  have h := rf_of_ntf (e.enc_flat hf x)
  unfold valA
  split
  · rename_i a ha
    rw [ha] at h
    simpa [rfL] using h
  · simpa [rfA] using h
theorem rfL_map {α : Type} {f : α → AV} (h : ∀ x, rfA (f x) = true) : ∀ {l : List α}, rfL (l.map f) = true
  | [] => rfl
  | x :: l => by simp [rfL, h x, rfL_map h (l := l)]
mutual
theorem CRel.rf {R R' : RO} {μ : List Bind} : ∀ {c : Ch} {B : Bind}, rfC c = true → CRel R w μ c B → CRel R' w μ c B
  | .cells vs, B, hf, h => by
    obtain ⟨n, arr, ty, h1, h2, h3⟩ := h
    exact ⟨n, arr, ty, h1, h2, h3.rf (by simpa [rfC] using hf)⟩
  | .crow vs, B, hf, h => by
    obtain ⟨n, arr, ty, h1, h2, h3⟩ := h
    exact ⟨n, arr, ty, h1, h2, h3.rf (by simpa [rfC] using hf)⟩
  | .rows e xs, B, hf, h => by
    rcases h with h | ⟨n, cap, arr, ty, h1, h2, h3, h4, h5, h6⟩
    · exact .inl h
    · exact .inr ⟨n, cap, arr, ty, h1, h2, h3, h4, h5, h6.ntf fun a ha => by
        obtain ⟨x, _, hx⟩ := List.mem_flatMap.1 ha
        exact e.enc_flat (by simpa [rfC] using hf) x a hx⟩
  | .gone, _, _, _ => trivial
  | .map k e kv, B, hf, h => by
    obtain ⟨n, es, clock, kv0, h1, h2, h3, h4, h5⟩ := h
    exact ⟨n, es, clock, kv0, h1, h2, h3.ntf fun a ha => by
        obtain ⟨p, _, rfl⟩ := List.mem_map.1 ha
        cases k <;> rfl, h4.rf (rfL_map (α := k.T × e.T) (f := fun p => valA e p.2) fun p => rf_valA e (by simpa [rfC] using hf) p.2), h5⟩
  | .iter g k e kv todo last, B, hf, h => by
    obtain ⟨r, m, es, clock, seen, kv0, td0, h0, h1, h2, h3, h4, h5, h6, hs, h7, h8, ht, h9⟩ := h
    have hk : ∀ x : k.T, (k.av x).ntf = true := fun x => by cases k <;> rfl
    have hv : ∀ x : e.T, rfA (valA e x) = true := fun x => rf_valA e (by simpa [rfC] using hf) x
    have hkl : ∀ l : List (k.T × e.T), ∀ a ∈ l.map fun p => k.av p.1, a.ntf = true := fun l a ha => by
      obtain ⟨p, _, rfl⟩ := List.mem_map.1 ha
      exact hk p.1
    refine ⟨r, m, es, clock, seen, kv0, td0, h0, h1, h2, h3, h4.ntf (hkl kv0), h5.rf (rfL_map (α := k.T × e.T) (f := fun p => valA e p.2) fun p => hv p.2), h6, hs, h7.ntf (hkl td0), h8.rf (rfL_map (α := k.T × e.T) (f := fun p => valA e p.2) fun p => hv p.2), ht, fun p hp => ?_⟩
    obtain ⟨x, b1, b2, b3, b4⟩ := h9 p hp
    exact ⟨x, b1, b2, by
      have e := KTy.av_val b3
      rw [e]
      cases k
      · exact .int
      · exact .str, b4.rf (hv p.2)⟩
  | .pack l, B, hf, h => by
    obtain ⟨bl, rfl, h⟩ := h
    exact ⟨bl, rfl, HRel.rf (by simpa [rfC] using hf) h⟩
theorem HRel.rf {R R' : RO} {μ : List Bind} : ∀ {l : List Ch} {m : List Bind}, rfCs l = true → HRel R w μ l m → HRel R' w μ l m
  | [], [], _, _ => trivial
  | c :: l, b :: m, hf, h => by
    simp only [rfCs, Bool.and_eq_true] at hf
    exact ⟨CRel.rf hf.1 h.1, HRel.rf hf.2 h.2⟩
  | [], _ :: _, _, h => h.elim
  | _ :: _, [], _, h => h.elim
end

mutual
theorem brA_ok (H : HOk R μ h w) {R1 : RO} (hle : R.le R1) {σ : List Nat} : ∀ {g a : AV} {v : Value}, brA σ h g a → (∀ t ∈ brT g a, ∀ b cap, μ[t]? = some (.blk b cap) → R1 b = w.heap[b]?) → Rel R μ a v → Rel R1 (pickB σ μ) g v
  | .agg l, a, v, hb, hl, hr => by
    cases a <;> simp only [brA] at hb
    cases hr with | agg hr => exact .agg (brL_ok H hle hb (by simpa only [brT] using hl) hr)
  | .ro e xs, a, v, hb, hl, hr => by
    simp only [brA] at hb
    split at hb
    · rename_i t e' s n
      split at hb
      · rename_i e'' ys hh
        split at hb
        · rename_i zs hz
          obtain ⟨he, hz⟩ := asE_some hz
          subst he
          simp only at hz
          subst hz
          obtain ⟨⟨hlen, rfl, _⟩, rfl⟩ := hb
          cases hr with
          | @sl _ _ _ _ _ b cap c h1 hc hn hm =>
            have htl : t < h.length := by rw [H.rel.len]; exact (List.getElem?_eq_some_iff.1 h1).1
            obtain ⟨B, hB, hr, _⟩ := H.rel.get (hth_some htl)
            rw [h1] at hB
            obtain rfl := (Option.some.inj hB)
            rw [hh] at hr
            rcases hr with ⟨h0, _⟩ | ⟨b', cap', arr, ty, h0, hb, hsz, hle2, hcap, hrel⟩
            · exact Bind.noConfusion h0
            · simp only [Bind.blk.injEq] at h0
              obtain ⟨rfl, rfl⟩ := h0
              have hll : ((ys.drop s).take n).length = n := by simp; omega
              have hR1 := hl t (by simp [brT]) b cap h1
              rw [hb] at hR1
              have h2 : Rel R1 (pickB σ μ) (.ro e' ((ys.drop s).take n)) (.slice (some ⟨b, s * e'.sz, none⟩) ((ys.drop s).take n).length c) := by
                refine .ro (arr := arr) (ty := ty) (fr := (0, 0)) hR1 ?_ (by omega) (by omega)
                have h3 := ((hrel.drop (s * e'.sz)).take (n * e'.sz)).mono hle (Ext.refl _)
                rw [flat_take, flat_drop, hll]
                have e1 : ((arr.toList.drop (s * e'.sz)).take (n * e'.sz)) = ((arr.toList.take (ys.length * e'.sz)).drop (s * e'.sz)).take (n * e'.sz) := by
                  rw [List.drop_take, List.take_take, Nat.min_eq_left]
                  rw [← Nat.sub_mul]
                  exact Nat.mul_le_mul_right _ (by omega)
                rw [e1]
                exact h3
              rw [hll] at h2
              exact h2
          | sl0 h1 => simp; exact .ro0 (Nat.zero_le _)
        · exact hb.elim
      · exact hb.elim
    · exact (fitA_ok (σ := σ) hb hr).mono hle (Ext.refl _)
  | .any, a, v, hb, hl, hr => .any
  | .int _ _, a, v, hb, hl, hr => (fitA_ok (σ := σ) hb hr).mono hle (Ext.refl _)
  | .bool _, a, v, hb, hl, hr => (fitA_ok (σ := σ) hb hr).mono hle (Ext.refl _)
  | .str _, a, v, hb, hl, hr => (fitA_ok (σ := σ) hb hr).mono hle (Ext.refl _)
  | .lit _, a, v, hb, hl, hr => (fitA_ok (σ := σ) hb hr).mono hle (Ext.refl _)
  | .tup _, a, v, hb, hl, hr => (fitA_ok (σ := σ) hb hr).mono hle (Ext.refl _)
  | .ptr _ _, a, v, hb, hl, hr => (fitA_ok (σ := σ) hb hr).mono hle (Ext.refl _)
  | .csl _ _ _, a, v, hb, hl, hr => (fitA_ok (σ := σ) hb hr).mono hle (Ext.refl _)
  | .ep _ _ _ _, a, v, hb, hl, hr => (fitA_ok (σ := σ) hb hr).mono hle (Ext.refl _)
  | .sl _ _ _ _, a, v, hb, hl, hr => (fitA_ok (σ := σ) hb hr).mono hle (Ext.refl _)
  | .rp _ _ _ _, a, v, hb, hl, hr => (fitA_ok (σ := σ) hb hr).mono hle (Ext.refl _)
  | .rc _ _, a, v, hb, hl, hr => (fitA_ok (σ := σ) hb hr).mono hle (Ext.refl _)
  | .fn _ _, a, v, hb, hl, hr => (fitA_ok (σ := σ) hb hr).mono hle (Ext.refl _)
  | .ifc _ _, a, v, hb, hl, hr => (fitA_ok (σ := σ) hb hr).mono hle (Ext.refl _)
  | .mp _, a, v, hb, hl, hr => (fitA_ok (σ := σ) hb hr).mono hle (Ext.refl _)
theorem brL_ok (H : HOk R μ h w) {R1 : RO} (hle : R.le R1) {σ : List Nat} : ∀ {gs as : List AV} {vs : List Value}, brL σ h gs as → (∀ t ∈ brTL gs as, ∀ b cap, μ[t]? = some (.blk b cap) → R1 b = w.heap[b]?) → LRel R μ as vs → LRel R1 (pickB σ μ) gs vs
  | [], as, vs, hb, hl, hr => by
    cases as <;> simp only [brL] at hb
    cases hr; exact .nil
  | g :: gs, as, vs, hb, hl, hr => by
    cases as <;> simp only [brL] at hb
    cases hr with
    | cons ha hs => exact .cons (brA_ok H hle hb.1 (fun t ht => hl t (by simp [brTL, ht])) ha) (brL_ok H hle hb.2 (fun t ht => hl t (by simp [brTL, ht])) hs)
end

mutual
theorem brT_rows {σ : List Nat} : ∀ {g a : AV}, brA σ h g a → ∀ t ∈ brT g a, (∃ e xs, hth h t = .rows e xs) ∧ t ∉ σ
  | .agg l, a, hb, t, ht => by
    cases a <;> simp only [brA] at hb
    exact brTL_rows hb t (by simpa only [brT] using ht)
  | .ro e xs, a, hb, t, ht => by
    simp only [brT] at ht
    split at ht
    · rename_i t' e' s n
      simp only [List.mem_singleton] at ht
      subst ht
      simp only [brA] at hb
      split at hb
      · rename_i e'' ys hh
        split at hb
        · exact ⟨⟨e'', ys, hh⟩, hb.1.2.2⟩
        · exact hb.elim
      · exact hb.elim
    · simp at ht
  | .any, _, _, t, ht => by simp [brT] at ht
  | .int _ _, _, _, t, ht => by simp [brT] at ht
  | .bool _, _, _, t, ht => by simp [brT] at ht
  | .str _, _, _, t, ht => by simp [brT] at ht
  | .lit _, _, _, t, ht => by simp [brT] at ht
  | .tup _, _, _, t, ht => by simp [brT] at ht
  | .ptr _ _, _, _, t, ht => by simp [brT] at ht
  | .csl _ _ _, _, _, t, ht => by simp [brT] at ht
  | .ep _ _ _ _, _, _, t, ht => by simp [brT] at ht
  | .sl _ _ _ _, _, _, t, ht => by simp [brT] at ht
  | .rp _ _ _ _, _, _, t, ht => by simp [brT] at ht
  | .rc _ _, _, _, t, ht => by simp [brT] at ht
  | .fn _ _, _, _, t, ht => by simp [brT] at ht
  | .ifc _ _, _, _, t, ht => by simp [brT] at ht
  | .mp _, _, _, t, ht => by simp [brT] at ht
theorem brTL_rows {σ : List Nat} : ∀ {gs as : List AV}, brL σ h gs as → ∀ t ∈ brTL gs as, (∃ e xs, hth h t = .rows e xs) ∧ t ∉ σ
  | [], _, _, t, ht => by simp [brTL] at ht
  | g :: gs, as, hb, t, ht => by
    cases as <;> simp only [brL] at hb
    simp only [brTL, List.mem_append] at ht
    rcases ht with ht | ht
    · exact brT_rows hb.1 t ht
    · exact brTL_rows hb.2 t ht
end

def lentB (μ : List Bind) : List Nat → List Nat
  | [] => []
  | t :: ts => (match μ[t]? with | some (.blk b _) => b :: lentB μ ts | _ => lentB μ ts)
theorem lentB_mem {ts : List Nat} {t b cap : Nat} (ht : t ∈ ts) (hb : μ[t]? = some (.blk b cap)) : b ∈ lentB μ ts := by
  induction ts with
  | nil => simp at ht
  | cons s ts ih =>
    rcases List.mem_cons.1 ht with rfl | ht
    · simp [lentB, hb]
    · have := ih ht
      unfold lentB
      split
      · simp [this]
      · exact this
theorem lentB_of {ts : List Nat} {b : Nat} (hb : b ∈ lentB μ ts) : ∃ t ∈ ts, ∃ cap, μ[t]? = some (.blk b cap) := by
  induction ts with
  | nil => simp [lentB] at hb
  | cons s ts ih =>
    unfold lentB at hb
    split at hb
    · rename_i b' c hh
      rcases List.mem_cons.1 hb with rfl | hb
      · exact ⟨s, by simp, c, hh⟩
      · obtain ⟨t, h1, h2⟩ := ih hb
        exact ⟨t, by simp [h1], h2⟩
    · obtain ⟨t, h1, h2⟩ := ih hb
      exact ⟨t, by simp [h1], h2⟩
open Classical in
noncomputable def lend (Bs : List Nat) (w : World) (R : RO) : RO := fun b => if b ∈ Bs then w.heap[b]? else R b
open Classical in
noncomputable def unlend (Bs : List Nat) (R : RO) : RO := fun b => if b ∈ Bs then none else R b
theorem unlend_nil (R : RO) : unlend [] R = R := by
  funext b
  unfold unlend
  rw [if_neg (by simp)]
theorem lent_own (H : HOk R μ h w) {σ ts : List Nat} (hr : ∀ t ∈ ts, (∃ e xs, hth h t = .rows e xs) ∧ t ∉ σ) {b : Nat} (hb : b ∈ lentB μ ts) : ∃ t ∈ ts, t ∉ σ ∧ ∃ c B, h[t]? = some c ∧ μ[t]? = some B ∧ b ∈ ownC c B := by
  obtain ⟨t, ht, cap, hm⟩ := lentB_of hb
  obtain ⟨⟨e, xs, hh⟩, hn⟩ := hr t ht
  have htl : t < h.length := by rw [H.rel.len]; exact (List.getElem?_eq_some_iff.1 hm).1
  refine ⟨t, ht, hn, _, _, hth_some htl, hm, ?_⟩
  rw [hh]
  simp [ownC]
theorem enter (H : HOk R μ h w) {Bs : List Nat} (hBs : ∀ b ∈ Bs, b ∈ ownH h μ) {l : List Ch} {bl : List Bind} (hl : HRel R w bl l bl) (hnd : (ownH l bl).Nodup) (hsub : ∀ b ∈ ownH l bl, b ∈ ownH h μ ∧ b ∉ Bs) :
    HOk (lend Bs w R) bl l w ∧ R.le (lend Bs w R) := by
  have hle : R.le (lend Bs w R) := fun b o hb => by
    unfold lend
    rw [if_neg]
    · exact hb
    · intro hx
      have := (H.own b (hBs b hx)).2
      rw [this] at hb
      simp at hb
  refine ⟨⟨HRel.keep hle (Ext.refl bl) l bl hl fun _ _ => rfl, hnd, fun b hb => ⟨(H.own b (hsub b hb).1).1, ?_⟩, fun b o hb => ?_⟩, hle⟩
  · unfold lend
    rw [if_neg (hsub b hb).2]
    exact (H.own b (hsub b hb).1).2
  · unfold lend at hb
    split at hb
    · exact hb
    · exact H.ro b o hb
theorem leave (H : HOk R μ h w) {Bs : List Nat} (hBs : ∀ b ∈ Bs, b ∈ ownH h μ) {O O' : List Nat} {R' : RO} {w' : World} (st : Step O (lend Bs w R) w O' R' w') :
    R.le (unlend Bs R') ∧ (∀ b o, unlend Bs R' b = some o → R' b = some o) ∧ ∀ b o, unlend Bs R' b = some o → R b = some o ∨ b ∈ O ∨ w.heap.size ≤ b := by
  refine ⟨fun b o hb => ?_, fun b o hb => ?_, fun b o hb => ?_⟩
  · have hn : b ∉ Bs := fun hx => by
      have := (H.own b (hBs b hx)).2
      rw [this] at hb
      simp at hb
    unfold unlend
    rw [if_neg hn]
    refine st.ro b o ?_
    unfold lend
    rw [if_neg hn]
    exact hb
  · unfold unlend at hb
    split at hb
    · simp at hb
    · exact hb
  · unfold unlend at hb
    split at hb
    · simp at hb
    · rename_i hn
      rcases st.nro b o hb with h1 | h1 | h1
      · unfold lend at h1
        rw [if_neg hn] at h1
        exact .inl h1
      · exact .inr (.inl h1)
      · exact .inr (.inr h1)

/-! ### Several chunks are replaced -/
def setHL (h : List Ch) : List Nat → List Ch → List Ch
  | t :: ts, c :: cs => setHL (h.set t c) ts cs
  | _, _ => h
def setML (m : List Bind) : List Nat → List Bind → List Bind
  | t :: ts, b :: bs => setML (m.set t b) ts bs
  | _, _ => m
theorem setHL_len : ∀ (ts : List Nat) (cs : List Ch) (h : List Ch), (setHL h ts cs).length = h.length
  | [], cs, h => by cases cs <;> rfl
  | _ :: _, [], h => rfl
  | t :: ts, c :: cs, h => by simp [setHL, setHL_len ts cs]
theorem setML_len : ∀ (ts : List Nat) (cs : List Bind) (h : List Bind), (setML h ts cs).length = h.length
  | [], cs, h => by cases cs <;> rfl
  | _ :: _, [], h => rfl
  | t :: ts, c :: cs, h => by simp [setML, setML_len ts cs]
theorem setML_ne {s : Nat} : ∀ (ts : List Nat) (bs m : List Bind), s ∉ ts → (setML m ts bs)[s]? = m[s]?
  | [], bs, m, _ => by cases bs <;> rfl
  | _ :: _, [], m, _ => rfl
  | t :: ts, b :: bs, m, hs => by
    simp only [List.mem_cons, not_or] at hs
    rw [setML, setML_ne ts bs _ hs.2, List.getElem?_set_ne (Ne.symm hs.1)]
theorem setML_at : ∀ (ts : List Nat) (bs m : List Bind) (i t : Nat), ts.Nodup → ts[i]? = some t → t < m.length → bs.length = ts.length → (setML m ts bs)[t]? = bs[i]?
  | [], _, _, _, _, _, h, _, _ => by simp at h
  | _ :: _, [], _, _, _, _, _, _, h => by simp at h
  | t0 :: ts, b :: bs, m, 0, t, hn, h, hl, _ => by
    simp at h
    subst h
    rw [setML, setML_ne ts bs _ (List.nodup_cons.1 hn).1, List.getElem?_set_self hl]
    rfl
  | t0 :: ts, b :: bs, m, i + 1, t, hn, h, hl, hb => by
    rw [setML]
    exact setML_at ts bs _ i t (List.nodup_cons.1 hn).2 (by simpa using h) (by simpa using hl) (by simpa using hb)
theorem setML_ext : ∀ (ts : List Nat) (bs m : List Bind), ts.Nodup → (∀ (i t : Nat) (B : Bind), ts[i]? = some t → m[t]? = some B → ∃ B' : Bind, bs[i]? = some B' ∧ BLe B B') → Ext m (setML m ts bs)
  | [], bs, m, _, _ => by cases bs <;> exact Ext.refl m
  | _ :: _, [], m, _, _ => Ext.refl m
  | t :: ts, b :: bs, m, hn, h => by
    obtain ⟨h1, h2⟩ := List.nodup_cons.1 hn
    rw [setML]
    have hstep : Ext m (m.set t b) := by
      by_cases hlt : t < m.length
      · obtain ⟨B', h3, h4⟩ := h 0 t m[t] (by simp) (by simp [hlt])
        simp at h3
        subst h3
        exact Ext.set (by simp [hlt]) h4
      · rw [List.set_eq_of_length_le (by omega)]
        exact Ext.refl m
    refine hstep.trans (setML_ext ts bs _ h2 fun i s B hi hB => ?_)
    have hne : s ≠ t := fun e => h1 (e ▸ List.mem_of_getElem? hi)
    rw [List.getElem?_set_ne (Ne.symm hne)] at hB
    simpa using h (i + 1) s B (by simpa using hi) hB
theorem HRel.put {c : Ch} {B : Bind} (hc : CRel R w μ c B) : ∀ {h : List Ch} {m : List Bind} {t : Nat}, HRel R w μ h m → HRel R w μ (h.set t c) (m.set t B)
  | [], [], _, h => by simpa using h
  | _ :: _, _ :: _, 0, h => ⟨hc, h.2⟩
  | _ :: _, _ :: _, t + 1, h => ⟨h.1, HRel.put hc h.2⟩
  | [], _ :: _, _, h => h.elim
  | _ :: _, [], _, h => h.elim
theorem HRel.puts : ∀ (ts : List Nat) {cs : List Ch} {bs : List Bind} {h : List Ch} {m : List Bind}, HRel R w μ cs bs → HRel R w μ h m → HRel R w μ (setHL h ts cs) (setML m ts bs)
  | [], [], [], _, _, _, h => h
  | [], _ :: _, _ :: _, _, _, _, h => h
  | _ :: _, [], [], _, _, _, h => h
  | t :: ts, c :: cs, b :: bs, _, _, hc, h => HRel.puts ts hc.2 (HRel.put hc.1 h)
  | _, [], _ :: _, _, _, hc, _ => hc.elim
  | _, _ :: _, [], _, _, hc, _ => hc.elim
theorem own_put {c : Ch} {B : Bind} : ∀ {h : List Ch} {m : List Bind} {t : Nat}, ∀ b ∈ ownH (h.set t c) (m.set t B), b ∈ ownC c B ∨ b ∈ ownH h m
  | [], m, _, b, hb => by simp [ownH] at hb
  | _ :: _, [], _, b, hb => by cases ‹Nat› <;> simp [ownH] at hb
  | _ :: _, _ :: _, 0, b, hb => by
    simp only [List.set_cons_zero, ownH, List.mem_append] at hb ⊢
    exact hb.imp id .inr
  | _ :: _, _ :: _, t + 1, b, hb => by
    simp only [List.set_cons_succ, ownH, List.mem_append] at hb ⊢
    rcases hb with hb | hb
    · exact .inr (.inl hb)
    · exact (own_put b hb).imp id .inr
theorem own_puts : ∀ (ts : List Nat) {cs : List Ch} {bs : List Bind} {h : List Ch} {m : List Bind}, cs.length = bs.length → ∀ b ∈ ownH (setHL h ts cs) (setML m ts bs), b ∈ ownH cs bs ∨ b ∈ ownH h m
  | [], cs, bs, h, m, _, b, hb => by
    cases cs <;> cases bs <;> exact .inr hb
  | _ :: _, [], [], _, _, _, b, hb => .inr hb
  | t :: ts, c :: cs, d :: bs, h, m, hl, b, hb => by
    simp only [ownH, List.mem_append]
    rcases own_puts ts (by simpa using hl) b hb with h1 | h1
    · exact .inl (.inr h1)
    · rcases own_put b h1 with h2 | h2
      · exact .inl (.inl h2)
      · exact .inr h2
  | _ :: _, [], _ :: _, _, _, hl, _, _ => by simp at hl
  | _ :: _, _ :: _, [], _, _, hl, _, _ => by simp at hl
theorem own_puts_nodup : ∀ (ts : List Nat) {cs : List Ch} {bs : List Bind} {h : List Ch} {m : List Bind}, cs.length = bs.length → (ownH cs bs).Nodup → (ownH h m).Nodup → (∀ b ∈ ownH cs bs, b ∉ ownH h m) → (ownH (setHL h ts cs) (setML m ts bs)).Nodup
  | [], cs, bs, h, m, _, _, hn, _ => by cases cs <;> cases bs <;> exact hn
  | _ :: _, [], [], _, _, _, _, hn, _ => hn
  | t :: ts, c :: cs, d :: bs, h, m, hl, hc, hn, hd => by
    simp only [ownH, List.nodup_append] at hc
    have hstep : (ownH (h.set t c) (m.set t d)).Nodup := by
      cases e1 : h[t]? with
      | none =>
        rw [List.set_eq_of_length_le (by simpa using e1)]
        have key : ∀ (h : List Ch) (m : List Bind) (t : Nat), h.length ≤ t → ownH h (m.set t d) = ownH h m := by
          intro h
          induction h with
          | nil => intro m t _; rfl
          | cons a l ih =>
            intro m t ht
            cases m with
            | nil => simp
            | cons x m =>
              cases t with
              | zero => simp at ht
              | succ t => simp only [List.set_cons_succ, ownH, ih m t (by simpa using ht)]
        rw [key h m t (by simpa using e1)]
        exact hn
      | some c0 =>
        cases e2 : m[t]? with
        | none =>
          have hm : m.set t d = m := List.set_eq_of_length_le (by simpa using e2)
          rw [hm]
          have key : ∀ (m : List Bind) (h : List Ch) (t : Nat), m.length ≤ t → ownH (h.set t c) m = ownH h m := by
            intro m
            induction m with
            | nil => intro h t _; cases h <;> cases t <;> rfl
            | cons a l ih =>
              intro h t ht
              cases h with
              | nil => simp
              | cons x h =>
                cases t with
                | zero => simp at ht
                | succ t => simp only [List.set_cons_succ, ownH, ih h t (by simpa using ht)]
          rw [key m h t (by simpa using e2)]
          exact hn
        | some B0 => exact own_swap_nodup hc.1 hn e1 e2 fun b hb hx => absurd hx (hd b (by simp [ownH, hb]))
    rw [setHL, setML]
    refine own_puts_nodup ts (by simpa using hl) hc.2.1 hstep fun b hb hx => ?_
    rcases own_put b hx with h1 | h1
    · exact hc.2.2 b h1 b hb rfl
    · exact hd b (by simp [ownH, hb]) h1
  | _ :: _, [], _ :: _, _, _, hl, _, _, _ => by simp at hl
  | _ :: _, _ :: _, [], _, _, hl, _, _, _ => by simp at hl
theorem HRel.split : ∀ {l l' : List Ch} {m : List Bind}, HRel R w μ (l ++ l') m → HRel R w μ l (m.take l.length) ∧ HRel R w μ l' (m.drop l.length)
  | [], _, _, h => ⟨trivial, h⟩
  | _ :: _, _, [], h => h.elim
  | c :: l, l', b :: m, h => by
    obtain ⟨h1, h2⟩ := HRel.split (l := l) h.2
    exact ⟨⟨h.1, h1⟩, h2⟩
theorem ownH_split : ∀ (l l' : List Ch) (m : List Bind), ownH (l ++ l') m = ownH l (m.take l.length) ++ ownH l' (m.drop l.length)
  | [], _, _ => by simp [ownH]
  | _ :: l, l', [] => by cases l' <;> simp [ownH]
  | c :: l, l', b :: m => by simp [ownH, ownH_split l l' m]
theorem fitHs_lt {σ : List Nat} : ∀ {gh : List Ch} {ts : List Nat}, fitHs σ h gh ts → ∀ t ∈ ts, t < h.length
  | [], ts, hf, t, ht => by cases ts <;> simp only [fitHs] at hf; simp at ht
  | g :: gs, ts, hf, t, ht => by
    cases ts with
    | nil => simp [fitHs] at hf
    | cons t' ts =>
      simp only [fitHs] at hf
      rcases List.mem_cons.1 ht with rfl | ht
      · exact hf.1
      · exact fitHs_lt hf.2.2 t ht

/-- how the callee's tags become the caller's -/
def rhoC (σ : List Nat) (n : Nat) (j : Nat) : Nat := if j < σ.length then σ.getD j 0 else n + (j - σ.length)
/-- the end of a walk on a part of the memory: the objects handed over, then what is new -/
def EndF (n : Nat) (ret : AV) (hp : List Ch) (v : AV) (h' : List Ch) : Prop := ∃ τ : List Nat, τ.take n = List.range n ∧ Fit τ [ret] hp [v] h'

theorem Does.frame {g : FuncId} {la : List AV} {lh : List Ch} {ret : AV} {obj cs : List Ch} {σ : List Nat} {as : List AV} {K : KT}
    (hb : DoesK P σ.length g la lh (EndF σ.length ret (obj ++ cs))) (ho : obj.length = σ.length)
    (hbr : brL σ h la as) (hfh : fitHs σ h lh σ) (hσ : σ.Nodup) (hrf : brTL la as = [] ∨ (rfA ret && rfCs obj && rfCs cs) = true)
    (HK : K (renA (rhoC σ h.length) ret) (setHL (goneH h σ) σ (renCs (rhoC σ h.length) obj) ++ renCs (rhoC σ h.length) cs)) : Does P g as h K := by
  refine ⟨hb.here, fun R μ w vs hv H => ?_⟩
  obtain ⟨f1, f2, f3⟩ := fitH_ok H hfh hσ
  have hlen := H.rel.len
  have hσlt : ∀ t ∈ σ, t < μ.length := fun t ht => by rw [← hlen]; exact fitHs_lt hfh t ht
  generalize hBs : lentB μ (brTL la as) = Bs at *
  have hBown : ∀ b ∈ Bs, ∃ t, t ∉ σ ∧ ∃ c B, h[t]? = some c ∧ μ[t]? = some B ∧ b ∈ ownC c B := fun b hb => by
    rw [← hBs] at hb
    obtain ⟨t, _, h1, h2⟩ := lent_own H (brTL_rows hbr) hb
    exact ⟨t, h1, h2⟩
  have hBin : ∀ b ∈ Bs, b ∈ ownH h μ := fun b hb => by
    obtain ⟨t, _, c, B, e1, e2, e3⟩ := hBown b hb
    exact own_mem e1 e2 b e3
  have hlsub : ∀ b ∈ ownH lh (pickB σ μ), b ∈ ownH h μ ∧ b ∉ Bs := fun b hb => by
    obtain ⟨t, ht, c, B, e1, e2, e3⟩ := f3 b hb
    refine ⟨own_mem e1 e2 b e3, fun hx => ?_⟩
    obtain ⟨t', ht', c', B', e1', e2', e3'⟩ := hBown b hx
    exact own_apart H.nodup (fun (e : t = t') => ht' (e ▸ ht)) e1 e2 e1' e2' b e3 e3'
  obtain ⟨H1, hle⟩ := enter H hBin f1 f2 hlsub
  have hv1 := brL_ok H hle hbr (fun t ht b cap hm => by
    unfold lend
    rw [if_pos (by rw [← hBs]; exact lentB_mem ht hm)]) hv
  refine (hb.run _ _ w vs hv1 H1 (by simp [pickB])).mono fun e w' hr => ?_
  obtain ⟨v, R', μ', h', av, rfl, ⟨τ, hτ, hfit⟩, hrv, H2, kp, st⟩ := hr
  obtain ⟨H3, hr3, st3⟩ := hfit.ok H2 (.cons hrv .nil)
  have kp3 := kp.trans (Keeps.pick hτ)
  have st4 := st.trans st3
  generalize pickB τ μ' = μf at *
  have hrv3 : Rel R' μf ret v := by cases hr3 with | cons h _ => exact h
  obtain ⟨l1, l2, l3⟩ := leave H hBin st4
  -- nothing of what is lent stays in the results
  have hboth : Rel (unlend Bs R') μf ret v ∧ HRel (unlend Bs R') w' μf obj (μf.take obj.length) ∧ HRel (unlend Bs R') w' μf cs (μf.drop obj.length) := by
    obtain ⟨s1, s2⟩ := H3.rel.split
    rcases hrf with hrf | hrf
    · rw [hrf] at hBs
      simp only [lentB] at hBs
      subst hBs
      rw [unlend_nil]
      exact ⟨hrv3, s1, s2⟩
    · simp only [Bool.and_eq_true] at hrf
      exact ⟨hrv3.rf hrf.1.1, HRel.rf hrf.1.2 s1, HRel.rf hrf.2 s2⟩
  obtain ⟨b1, b2, b3⟩ := hboth
  have hnd := H3.nodup
  have hown3 := H3.own
  rw [ownH_split] at hnd hown3 st4
  rw [ho] at b2 b3 hnd hown3 st4
  have hfl : μf.length = σ.length + cs.length := by rw [← H3.rel.len, List.length_append, ho]
  have hma : (μf.take σ.length).length = σ.length := by simp; omega
  generalize hmA : μf.take σ.length = ma at *
  generalize hmB : μf.drop σ.length = mb at *
  rw [List.nodup_append] at hnd
  -- the caller's tags
  have hext0 : Ext μ (setML μ σ ma) := setML_ext σ ma μ hσ fun i t B hi hB => by
    have hlt : i < σ.length := (List.getElem?_eq_some_iff.1 hi).1
    obtain ⟨B', h1, h2⟩ := kp3.get hlt (pickB_get hi hB)
    exact ⟨B', by rw [← hmA, List.getElem?_take, if_pos hlt]; exact h1, h2⟩
  have hext : Ext μ (setML μ σ ma ++ mb) := hext0.trans (Ext.app _ _)
  have hren : ∀ (j : Nat) (B : Bind), μf[j]? = some B → (setML μ σ ma ++ mb)[rhoC σ h.length j]? = some B := by
    intro j B hj
    unfold rhoC
    split
    · rename_i hlt
      have hjt : σ[j]? = some (σ.getD j 0) := by simp [List.getD_eq_getElem?_getD, hlt]
      have htl := hσlt _ (List.mem_of_getElem? hjt)
      rw [List.getElem?_append_left (by rw [setML_len]; exact htl), setML_at σ ma μ j _ hσ hjt htl hma, ← hmA, List.getElem?_take, if_pos hlt]
      exact hj
    · rename_i hge
      rw [List.getElem?_append_right (by rw [setML_len]; omega), setML_len, hlen, ← hmB, List.getElem?_drop]
      rw [← hj]
      congr 1
      omega
  -- the memory that was not handed over
  obtain ⟨G1, G2, G3⟩ := H.goneH σ
  have hgo : ∀ b ∈ ownH (goneH h σ) μ, b ∉ ownH lh (pickB σ μ) := fun b hb hx => by
    obtain ⟨t, ht, c, B, e1, e2, e3⟩ := f3 b hx
    exact G3 t ht c B e1 e2 b e3 hb
  have hgrel : HRel (unlend Bs R') w' (setML μ σ ma ++ mb) (goneH h σ) μ :=
    HRel.keep l1 hext _ _ G1.rel fun n hn => st4.out n (G1.own n hn).1 (hgo n hn)
  have hrel : HRel (unlend Bs R') w' (setML μ σ ma ++ mb) (setHL (goneH h σ) σ (renCs (rhoC σ h.length) obj) ++ renCs (rhoC σ h.length) cs) (setML μ σ ma ++ mb) :=
    HRel.app (HRel.puts σ (b2.ren hren) hgrel) (b3.ren hren)
  have hcl : (renCs (rhoC σ h.length) obj).length = ma.length := by
    have key : ∀ l : List Ch, (renCs (rhoC σ h.length) l).length = l.length := by
      intro l
      induction l with
      | nil => rfl
      | cons c l ih => simp [renCs, ih]
    rw [key, ho, hma]
  have hownc : ownH (setHL (goneH h σ) σ (renCs (rhoC σ h.length) obj) ++ renCs (rhoC σ h.length) cs) (setML μ σ ma ++ mb) = ownH (setHL (goneH h σ) σ (renCs (rhoC σ h.length) obj)) (setML μ σ ma) ++ ownH cs mb := by
    rw [ownH_app _ _ _ _ (by rw [setHL_len, setML_len, goneH_len, hlen]), renCs_own]
  -- what is new or was handed over is not among the rest
  have hfar : ∀ b, b ∈ ownH obj ma ∨ b ∈ ownH cs mb → b ∉ ownH (goneH h σ) μ := fun b hb hx => by
    have hb' : b ∈ ownH obj ma ++ ownH cs mb := List.mem_append.2 hb
    rcases st4.own b hb' with h1 | h1
    · exact hgo b hx h1
    · have := (G1.own b hx).1
      omega
  have hset : ∀ b ∈ ownH (setHL (goneH h σ) σ (renCs (rhoC σ h.length) obj)) (setML μ σ ma), b ∈ ownH obj ma ∨ b ∈ ownH (goneH h σ) μ := fun b hb => by
    have := own_puts σ hcl b hb
    rwa [renCs_own] at this
  have hnone : ∀ b, (R b = none ∧ b < w.heap.size ∧ b ∉ ownH lh (pickB σ μ)) ∨ R' b = none → unlend Bs R' b = none := fun b hb => by
    cases hu : unlend Bs R' b with
    | none => rfl
    | some o =>
      rcases hb with ⟨hb1, hb2, hb3⟩ | hb
      · rcases l3 b o hu with h1 | h1 | h1
        · rw [hb1] at h1; cases h1
        · exact absurd h1 hb3
        · omega
      · have := l2 b o hu
        rw [hb] at this
        cases this
  refine ⟨v, unlend Bs R', setML μ σ ma ++ mb, _, _, rfl, HK, b1.ren hren, ⟨hrel, ?_, fun b hb => ?_, fun b o hb => H3.ro b o (l2 b o hb)⟩, hext, ?_⟩
  · rw [hownc, List.nodup_append]
    refine ⟨own_puts_nodup σ hcl (by rw [renCs_own]; exact hnd.1) G1.nodup (fun b hb => by rw [renCs_own] at hb; exact hfar b (.inl hb)), hnd.2.1, fun b hb b' hb' e => ?_⟩
    subst e
    rcases hset b hb with h1 | h1
    · exact hnd.2.2 b h1 b hb' rfl
    · exact hfar b (.inr hb') h1
  · rw [hownc, List.mem_append] at hb
    have cases3 : (b ∈ ownH obj ma ++ ownH cs mb) ∨ b ∈ ownH (goneH h σ) μ := by
      rcases hb with hb | hb
      · rcases hset b hb with h1 | h1
        · exact .inl (List.mem_append.2 (.inl h1))
        · exact .inr h1
      · exact .inl (List.mem_append.2 (.inr hb))
    rcases cases3 with h1 | h1
    · exact ⟨(hown3 b h1).1, hnone b (.inr (hown3 b h1).2)⟩
    · exact ⟨Nat.lt_of_lt_of_le (G1.own b h1).1 st4.size, hnone b (.inl ⟨(G1.own b h1).2, (G1.own b h1).1, hgo b h1⟩)⟩
  · refine ⟨l1, st4.size, fun b hb hx => st4.out b hb fun hy => hx (hlsub b hy).1, fun b hb => ?_, fun b o hb => ?_, st4.os, st4.tape, st4.output, st4.drawn⟩
    · rw [hownc, List.mem_append] at hb
      have cases3 : (b ∈ ownH obj ma ++ ownH cs mb) ∨ b ∈ ownH (goneH h σ) μ := by
        rcases hb with hb | hb
        · rcases hset b hb with h1 | h1
          · exact .inl (List.mem_append.2 (.inl h1))
          · exact .inr h1
        · exact .inl (List.mem_append.2 (.inr hb))
      rcases cases3 with h1 | h1
      · rcases st4.own b h1 with h2 | h2
        · exact .inl (hlsub b h2).1
        · exact .inr h2
      · exact .inl (G2 b h1)
    · rcases l3 b o hb with h1 | h1 | h1
      · exact .inl h1
      · exact .inr (.inl (hlsub b h1).1)
      · exact .inr (.inr h1)

/-! ### Results are frozen -/
def frzLX : List AV → List Ch → (List AV → List Ch → Prop) → Prop
  | [], h, K => K [] h
  | x :: l, h, K => frzX x h fun x h => frzLX l h fun l h => K (x :: l) h
def frzV (x : AV) (h : List Ch) (K : AV → List Ch → Prop) : Prop :=
  match x with
  | .tup l => frzLX l h fun l h => K (.tup l) h
  | x => frzX x h K
theorem DoesK.close {k : Nat} {g : FuncId} {as : List AV} {K : KT} (H : DoesK P k g as h fun v h' => ∃ v' h2, Gh [v] h' [v'] h2 ∧ K v' h2) : DoesK P k g as h K :=
  ⟨H.here, fun R μ w vs hv H0 hk => (H.run R μ w vs hv H0 hk).mono fun e w' hr => by
    obtain ⟨v, R', μ', h', av, rfl, ⟨v', h2', hcl, h1⟩, h2, h3, h4, h5⟩ := hr
    obtain ⟨Rc, μc, Hc, stc, ec, fc⟩ := hcl R' μ' w' [v] h3 (.cons h2 .nil)
    have hv' : Rel Rc μc v' v := by cases fc [v] (.cons h2 .nil) with | cons h _ => exact h
    exact ⟨v, Rc, μc, h2', v', rfl, h1, hv', Hc, h4.trans (Keeps.ext h4.len ec), h5.trans stc⟩⟩
theorem Does.after {g : FuncId} {as : List AV} {K : KT} (H : Does P g as h fun v h' => ∃ v' h2, Gh [v] h' [v'] h2 ∧ K v' h2) : Does P g as h K :=
  ⟨H.here, fun R μ w vs hv H0 => (H.run R μ w vs hv H0).mono fun e w' hr => by
    obtain ⟨v, R', μ', h', av, rfl, ⟨v', h2', hcl, h1⟩, h2, h3, h4, h5⟩ := hr
    obtain ⟨Rc, μc, Hc, stc, ec, fc⟩ := hcl R' μ' w' [v] h3 (.cons h2 .nil)
    have hv' : Rel Rc μc v' v := by cases fc [v] (.cons h2 .nil) with | cons h _ => exact h
    exact ⟨v, Rc, μc, h2', v', rfl, h1, hv', Hc, h4.trans ec, h5.trans stc⟩⟩
end Go.V
