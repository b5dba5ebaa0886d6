/-
  A region whose order is drawn: the order of the text serves every order.
-/
import Derived.Test.YtmfhicbbhncddaaV14
set_option linter.unusedVariables false
set_option linter.unusedSimpArgs false
namespace Go.V

variable {P : Program}

def tmpOf : Operand → List Nat
  | .tmp t => [t]
  | _ => []
/-- slots that an operation names -/
def namesO (all : List Oper) (o : Oper) : List Nat :=
  (o.op.operands.toList.flatMap tmpOf) ++ ((match o.guard with | some (j, _) => (dstAt all j).toList | none => []) ++ o.dst.toList)
def maskOf (o : Oper) (acc : List Nat) : Nat := o.after.toList.foldl (fun s e => if Region.binds .any e then s ||| 2 ^ e.on ||| acc.getD e.on 0 else s) 0
def reachT : List Oper → List Nat → List Nat
  | [], acc => acc
  | o :: r, acc => reachT r (acc ++ [maskOf o acc])
/-- operation j stands before i in every order -/
def reachB (all : List Oper) (i j : Nat) : Bool := ((reachT all []).getD i 0).testBit j
def chkDst (T : List Nat) (i : Nat) (ns : List Nat) : Nat → List Oper → Bool
  | _, [] => true
  | j, o :: r => (j == i || (match o.dst with
    | some d => !ns.contains d || (if j < i then (T.getD i 0).testBit j else (T.getD j 0).testBit i)
    | none => true)) && chkDst T i ns (j + 1) r
def chkAll (all : List Oper) (T : List Nat) : Nat → List Oper → Bool
  | _, [] => true
  | i, o :: r => (o.after.toList.all fun e => !Region.binds .any e || decide (e.on < i)) && chkDst T i (namesO all o) 0 all && chkAll all T (i + 1) r
def noSel : Op → Bool
  | .select .. => false
  | _ => true
def chkR (all : List Oper) : Bool := chkAll all (reachT all []) 0 all

theorem no_of {b : Bool} (h : b = true) {A : Prop} (hc : b = false) : A := by rw [h] at hc; cases hc
theorem mask_bit {o : Oper} {acc : List Nat} {j : Nat} (h : (maskOf o acc).testBit j = true) : ∃ e ∈ o.after.toList, Region.binds .any e = true ∧ (e.on = j ∨ (acc.getD e.on 0).testBit j = true) := by
  unfold maskOf at h
  have key : ∀ (l : List Edge) (s : Nat), (l.foldl (fun s e => if Region.binds .any e then s ||| 2 ^ e.on ||| acc.getD e.on 0 else s) s).testBit j = true → s.testBit j = true ∨ ∃ e ∈ l, Region.binds .any e = true ∧ (e.on = j ∨ (acc.getD e.on 0).testBit j = true) := by
    intro l
    induction l with
    | nil => intro s h; exact .inl h
    | cons e l ih =>
      intro s h
      rw [List.foldl_cons] at h
      rcases ih _ h with h1 | ⟨e', h1, h2⟩
      · split at h1
        · rename_i hb
          rw [Nat.testBit_or, Nat.testBit_or, Bool.or_eq_true, Bool.or_eq_true] at h1
          rcases h1 with (h1 | h1) | h1
          · exact .inl h1
          · refine .inr ⟨e, by simp, hb, .inl ?_⟩
            rw [Nat.testBit_two_pow] at h1
            simpa using h1
          · exact .inr ⟨e, by simp, hb, .inr h1⟩
        · exact .inl h1
      · exact .inr ⟨e', by simp [h1], h2⟩
  rcases key _ _ h with h1 | h1
  · simp at h1
  · exact h1
theorem reachT_bit {all : List Oper} {i j : Nat} (h : reachB all i j = true) : ∃ o, all[i]? = some o ∧ ∃ e ∈ o.after.toList, Region.binds .any e = true ∧ (e.on = j ∨ reachB all e.on j = true) := by
  have key : ∀ (r pre : List Oper) (acc : List Nat), all = pre ++ r → acc.length = pre.length →
      (∀ i j, (acc.getD i 0).testBit j = true → ∃ o, all[i]? = some o ∧ ∃ e ∈ o.after.toList, Region.binds .any e = true ∧ (e.on = j ∨ (acc.getD e.on 0).testBit j = true)) →
      ∀ i j, ((reachT r acc).getD i 0).testBit j = true → ∃ o, all[i]? = some o ∧ ∃ e ∈ o.after.toList, Region.binds .any e = true ∧ (e.on = j ∨ ((reachT r acc).getD e.on 0).testBit j = true) := by
    intro r
    induction r with
    | nil => intro pre acc _ _ h; exact h
    | cons o r ih =>
      intro pre acc hall hlen hacc
      simp only [reachT]
      refine ih (pre ++ [o]) (acc ++ [maskOf o acc]) (by simp [hall]) (by simp [hlen]) ?_
      have grow : ∀ k j, (acc.getD k 0).testBit j = true → ((acc ++ [maskOf o acc]).getD k 0).testBit j = true := by
        intro k j hk
        by_cases hlt : k < acc.length
        · rw [List.getD_eq_getElem?_getD, List.getElem?_append_left hlt, ← List.getD_eq_getElem?_getD]; exact hk
        · rw [List.getD_eq_getElem?_getD, List.getElem?_eq_none (by omega)] at hk
          simp at hk
      intro i j hij
      by_cases hlt : i < acc.length
      · have hij2 : (acc.getD i 0).testBit j = true := by
          rw [List.getD_eq_getElem?_getD, List.getElem?_append_left hlt, ← List.getD_eq_getElem?_getD] at hij; exact hij
        obtain ⟨o', h1, e, h2, h3, h4⟩ := hacc i j hij2
        exact ⟨o', h1, e, h2, h3, h4.imp id (grow _ _)⟩
      · by_cases he : i = acc.length
        · have hij2 : (maskOf o acc).testBit j = true := by
            rw [List.getD_eq_getElem?_getD, he, List.getElem?_append_right (Nat.le_refl _)] at hij
            simpa using hij
          obtain ⟨e, h2, h3, h4⟩ := mask_bit hij2
          exact ⟨o, by rw [hall, he, hlen]; simp, e, h2, h3, h4.imp id (grow _ _)⟩
        · rw [List.getD_eq_getElem?_getD, List.getElem?_eq_none (by simp; omega)] at hij
          simp at hij
  exact key all [] [] rfl rfl (fun i j h => by simp at h) i j h

structure ChkR (all : List Oper) : Prop where
  lt : ∀ (i : Nat) (o : Oper), all[i]? = some o → ∀ e ∈ o.after.toList, Region.binds .any e = true → e.on < i
  dst : ∀ (i j : Nat) (o o' : Oper) (d : Nat), all[i]? = some o → all[j]? = some o' → j ≠ i → o'.dst = some d → d ∈ namesO all o → (j < i ∧ reachB all i j = true) ∨ (i < j ∧ reachB all j i = true)
theorem chkR_ok {all : List Oper} (h : chkR all = true) : ChkR all := by
  have hd : ∀ (T : List Nat) (i : Nat) (ns : List Nat) (r : List Oper) (j0 : Nat), chkDst T i ns j0 r = true → ∀ j o' d, r[j]? = some o' → j0 + j ≠ i → o'.dst = some d → d ∈ ns →
      (j0 + j < i ∧ (T.getD i 0).testBit (j0 + j) = true) ∨ (i < j0 + j ∧ (T.getD (j0 + j) 0).testBit i = true) := by
    intro T i ns r
    induction r with
    | nil => intro j0 _ j o' d h; simp at h
    | cons o r ih =>
      intro j0 h j o' d hj hne hdst hmem
      simp only [chkDst, Bool.and_eq_true, Bool.or_eq_true, beq_iff_eq] at h
      cases j with
      | zero =>
        simp only [List.getElem?_cons_zero, Option.some.injEq] at hj
        subst hj
        rw [hdst] at h
        rcases h.1 with h1 | h1
        · exact absurd h1 hne
        · have hc : ns.contains d = true := by simpa using hmem
          simp only [hc, Bool.not_true, Bool.false_or] at h1
          split at h1
          · rename_i hlt; exact .inl ⟨hlt, h1⟩
          · rename_i hlt; exact .inr ⟨by simp at hne ⊢; omega, h1⟩
      | succ j =>
        have := ih (j0 + 1) h.2 j o' d (by simpa using hj) (by omega) hdst hmem
        rwa [show j0 + 1 + j = j0 + (j + 1) from by omega] at this
  have ha : ∀ (r : List Oper) (i0 : Nat), chkAll all (reachT all []) i0 r = true → ∀ i o, r[i]? = some o → (∀ e ∈ o.after.toList, Region.binds .any e = true → e.on < i0 + i) ∧ chkDst (reachT all []) (i0 + i) (namesO all o) 0 all = true := by
    intro r
    induction r with
    | nil => intro i0 _ i o h; simp at h
    | cons o r ih =>
      intro i0 h i o' hi
      simp only [chkAll, Bool.and_eq_true, List.all_eq_true, Bool.or_eq_true, Bool.not_eq_true', decide_eq_true_eq] at h
      cases i with
      | zero =>
        simp only [List.getElem?_cons_zero, Option.some.injEq] at hi
        subst hi
        exact ⟨fun e he hb => (h.1.1 e he).resolve_left (by simp [hb]), h.1.2⟩
      | succ i =>
        have := ih (i0 + 1) h.2 i o' (by simpa using hi)
        rwa [show i0 + 1 + i = i0 + (i + 1) from by omega] at this
  refine ⟨fun i o hi e he hb => by have := (ha all 0 h i o hi).1 e he hb; omega, fun i j o o' d hi hj hne hdst hmem => ?_⟩
  have h1 := (ha all 0 h i o hi).2
  rw [Nat.zero_add] at h1
  have := hd _ _ _ _ 0 h1 j o' d hj (by omega) hdst hmem
  rwa [Nat.zero_add] at this

/-! ### Sets of operations that are done -/
def Closed (all : List Oper) (D : Nat → Bool) : Prop := ∀ i, D i = true → ∀ o, all[i]? = some o → ∀ e ∈ o.after.toList, Region.binds .any e = true → D e.on = true
def Ready (all : List Oper) (D : Nat → Bool) (i : Nat) : Prop := D i = false ∧ ∀ o, all[i]? = some o → ∀ e ∈ o.after.toList, Region.binds .any e = true → D e.on = true
def updD (D : Nat → Bool) (i : Nat) : Nat → Bool := fun j => decide (j = i) || D j
theorem closed_reach {all : List Oper} (C : ChkR all) {D : Nat → Bool} (hD : Closed all D) : ∀ (i : Nat), (∀ o, all[i]? = some o → ∀ e ∈ o.after.toList, Region.binds .any e = true → D e.on = true) → ∀ j, reachB all i j = true → D j = true := by
  intro i
  induction i using Nat.strongRecOn with
  | _ i ih =>
    intro hi j hj
    obtain ⟨o, ho, e, he, hb, h1⟩ := reachT_bit hj
    have hon := hi o ho e he hb
    rcases h1 with h1 | h1
    · rw [← h1]; exact hon
    · exact ih e.on (C.lt i o ho e he hb) (hD e.on hon) j h1
theorem Ready.reach {all : List Oper} (C : ChkR all) {D : Nat → Bool} (hD : Closed all D) {i : Nat} (h : Ready all D i) {j : Nat} (hj : reachB all i j = true) : D j = true := closed_reach C hD i h.2 j hj
theorem Closed.reach {all : List Oper} (C : ChkR all) {D : Nat → Bool} (hD : Closed all D) {i : Nat} (h : D i = true) {j : Nat} (hj : reachB all i j = true) : D j = true := closed_reach C hD i (hD i h) j hj
theorem Closed.upd {all : List Oper} {D : Nat → Bool} (hD : Closed all D) {i : Nat} (h : Ready all D i) : Closed all (updD D i) := by
  intro j hj o ho e he hb
  unfold updD at *
  simp only [Bool.or_eq_true, decide_eq_true_eq] at hj ⊢
  rcases hj with rfl | hj
  · exact .inr (h.2 o ho e he hb)
  · exact .inr (hD j hj o ho e he hb)

/-! ### Slots behind the operations that are done -/
def putsD (D : Nat → Bool) : List Oper → List AV → Nat → List AV → List AV
  | o :: os, v :: vs, i, tm => putsD D os vs (i + 1) (if D i then putA tm o.dst v else tm)
  | _, _, _, tm => tm
def valD (D : Nat → Bool) (x : Nat) : List Oper → List AV → Nat → AV → AV
  | o :: os, v :: vs, i, a => valD D x os vs (i + 1) (if D i ∧ o.dst = some x then v else a)
  | _, _, _, a => a
theorem putA_len (tm : List AV) (d : Option Nat) (v : AV) : (putA tm d v).length = tm.length := by cases d <;> simp [putA]
theorem nthA_set (tm : List AV) (d : Nat) (v : AV) (x : Nat) (hx : x < tm.length) : nthA (tm.set d v) x = if d = x then v else nthA tm x := by
  induction tm generalizing d x with
  | nil => simp at hx
  | cons a l ih =>
    cases d with
    | zero => cases x <;> simp [nthA]
    | succ d =>
      cases x with
      | zero => simp [nthA]
      | succ x => simpa [nthA] using ih d x (by simpa using hx)
theorem nthA_put (tm : List AV) (d : Option Nat) (v : AV) (x : Nat) (hx : x < tm.length) : nthA (putA tm d v) x = if d = some x then v else nthA tm x := by
  cases d with
  | none => simp [putA]
  | some d => simpa [putA] using nthA_set tm d v x hx
theorem putsD_len (D : Nat → Bool) : ∀ (os : List Oper) (vs : List AV) (i : Nat) (tm : List AV), (putsD D os vs i tm).length = tm.length
  | [], _, _, _ => rfl
  | _ :: _, [], _, _ => rfl
  | o :: os, v :: vs, i, tm => by
    simp only [putsD]
    rw [putsD_len D os vs]
    split
    · exact putA_len ..
    · rfl
theorem nthA_puts (D : Nat → Bool) (x : Nat) : ∀ (os : List Oper) (vs : List AV) (i : Nat) (tm : List AV), x < tm.length → nthA (putsD D os vs i tm) x = valD D x os vs i (nthA tm x)
  | [], _, _, _, _ => by cases ‹List AV› <;> rfl
  | _ :: _, [], _, _, _ => rfl
  | o :: os, v :: vs, i, tm, hx => by
    simp only [putsD, valD]
    rw [nthA_puts D x os vs (i + 1) _ (by split <;> simp [putA_len, hx])]
    congr 1
    by_cases hd : D i = true
    · simp only [hd, if_true, true_and]
      exact nthA_put tm o.dst v x hx
    · simp [hd]
theorem valD_eq {D D' : Nat → Bool} {x : Nat} : ∀ (os : List Oper) (vs : List AV) (i : Nat) (a : AV), (∀ j o, os[j]? = some o → o.dst = some x → D (i + j) = D' (i + j)) → valD D x os vs i a = valD D' x os vs i a
  | [], vs, _, _, _ => by cases vs <;> rfl
  | _ :: _, [], _, _, _ => rfl
  | o :: os, v :: vs, i, a, h => by
    simp only [valD]
    have h0 := h 0 o (by simp)
    have e : (if D i = true ∧ o.dst = some x then v else a) = if D' i = true ∧ o.dst = some x then v else a := by
      by_cases hd : o.dst = some x
      · have := h0 hd
        simp only [Nat.add_zero] at this
        rw [this]
      · simp [hd]
    rw [e]
    refine valD_eq os vs (i + 1) _ fun j o' hj hd => ?_
    have := h (j + 1) o' (by simpa using hj) hd
    rwa [show i + 1 + j = i + (j + 1) from by omega]
theorem valD_last {D : Nat → Bool} {x : Nat} : ∀ (os : List Oper) (vs : List AV) (i : Nat) (a : AV) (k : Nat) (o : Oper) (v : AV), os[k]? = some o → vs[k]? = some v → o.dst = some x → D (i + k) = true → (∀ j o', k < j → os[j]? = some o' → o'.dst = some x → D (i + j) = false) → valD D x os vs i a = v
  | [], _, _, _, k, _, _, h, _, _, _, _ => by simp at h
  | _ :: _, [], _, _, k, _, _, _, h, _, _, _ => by simp at h
  | o :: os, v :: vs, i, a, 0, o0, v0, ho, hv, hd, hD, hl => by
    simp at ho hv
    subst ho; subst hv
    simp only [Nat.add_zero] at hD
    simp only [valD, hD, hd, and_self, if_true]
    have e : valD D x os vs (i + 1) v = valD (fun _ => false) x os vs (i + 1) v := valD_eq _ _ _ _ fun j o' hj hd' => by
      have := hl (j + 1) o' (by omega) (by simpa using hj) hd'
      rwa [show i + 1 + j = i + (j + 1) from by omega]
    rw [e]
    have key : ∀ (os : List Oper) (vs : List AV) (i : Nat) (a : AV), valD (fun _ => false) x os vs i a = a := by
      intro os
      induction os with
      | nil => intro vs i a; cases vs <;> rfl
      | cons o os ih =>
        intro vs i a
        cases vs with
        | nil => rfl
        | cons v vs => simp [valD, ih]
    exact key ..
  | o :: os, v :: vs, i, a, k + 1, o0, v0, ho, hv, hd, hD, hl => by
    simp only [valD]
    exact valD_last os vs (i + 1) _ k o0 v0 (by simpa using ho) (by simpa using hv) hd (by rwa [show i + 1 + k = i + (k + 1) from by omega]) fun j o' hj ho' hd' => by
      have := hl (j + 1) o' (by omega) (by simpa using ho') hd'
      rwa [show i + 1 + j = i + (j + 1) from by omega]
theorem ext_nthA : ∀ {a b : List AV}, a.length = b.length → (∀ x, x < a.length → nthA a x = nthA b x) → a = b
  | [], [], _, _ => rfl
  | [], _ :: _, h, _ => by simp at h
  | _ :: _, [], h, _ => by simp at h
  | x :: a, y :: b, h, hx => by
    have h0 := hx 0 (by simp)
    simp only [nthA] at h0
    rw [h0, ext_nthA (a := a) (b := b) (by simpa using h) fun z hz => by simpa [nthA] using hx (z + 1) (by simpa using hz)]
def ltD (i : Nat) : Nat → Bool := fun j => decide (j < i)

section
variable {all : List Oper} (C : ChkR all) {vs : List AV} {tm0 : List AV} {D : Nat → Bool} (hD : Closed all D) {i : Nat} {o : Oper} (ho : all[i]? = some o) (hr : Ready all D i)
include C hD ho hr
theorem agree {x : Nat} (hx : x ∈ namesO all o) : nthA (putsD D all vs 0 tm0) x = nthA (putsD (ltD i) all vs 0 tm0) x := by
  by_cases hlt : x < tm0.length
  · rw [nthA_puts _ _ _ _ _ _ hlt, nthA_puts _ _ _ _ _ _ hlt]
    refine valD_eq _ _ _ _ fun j o' hj hd => ?_
    rw [Nat.zero_add]
    by_cases e : j = i
    · subst e
      simp [ltD, hr.1]
    · rcases C.dst i j o o' x ho hj e hd hx with ⟨h1, h2⟩ | ⟨h1, h2⟩
      · rw [hr.reach C hD h2]; simp [ltD, h1]
      · cases hDj : D j with
        | false => simp [ltD]; omega
        | true => have := hD.reach C hDj h2; rw [hr.1] at this; cases this
  · rw [nthA_none _ _ (by rw [putsD_len]; omega), nthA_none _ _ (by rw [putsD_len]; omega)]
theorem put_upd {v : AV} (hv : vs[i]? = some v) : putA (putsD D all vs 0 tm0) o.dst v = putsD (updD D i) all vs 0 tm0 := by
  refine ext_nthA (by rw [putA_len, putsD_len, putsD_len]) fun x hx => ?_
  rw [putA_len] at hx
  rw [nthA_put _ _ _ _ hx]
  rw [putsD_len] at hx
  rw [nthA_puts _ _ _ _ _ _ hx, nthA_puts _ _ _ _ _ _ hx]
  split
  · rename_i hd
    refine (valD_last all vs 0 _ i o v ho hv hd (by simp [updD]) fun j o' hj ho' hd' => ?_).symm
    rw [Nat.zero_add]
    have hmem : x ∈ namesO all o := by simp [namesO, hd]
    rcases C.dst i j o o' x ho ho' (by omega) hd' hmem with ⟨h1, h2⟩ | ⟨h1, h2⟩
    · omega
    · cases hDj : D j with
      | false => simp [updD, hDj]; omega
      | true => have := hD.reach C hDj h2; rw [hr.1] at this; cases this
  · rename_i hd
    refine valD_eq _ _ _ _ fun j o' hj hd' => ?_
    rw [Nat.zero_add]
    by_cases e : j = i
    · subst e
      rw [ho] at hj
      cases hj
      exact absurd hd' hd
    · simp [updD, e]
end

/-! ### The memory behind the operations that are done -/
def heapR (D : Nat → Bool) : List (Nat × List Ch) → List Ch → List Ch
  | [], h => h
  | (m, H) :: r, h => if D m then h else heapR D r H
theorem heapR_cases (D : Nat → Bool) : ∀ (hs : List (Nat × List Ch)) (h : List Ch), heapR D hs h = h ∨ ∃ p ∈ hs, D p.1 = false ∧ heapR D hs h = p.2
  | [], _ => .inl rfl
  | (m, H) :: r, h => by
    simp only [heapR]
    split
    · exact .inl rfl
    · rename_i hm
      have hm : D m = false := by simpa using hm
      rcases heapR_cases D r H with h1 | ⟨p, h1, h2, h3⟩
      · exact .inr ⟨(m, H), by simp, hm, h1⟩
      · exact .inr ⟨p, by simp [h1], h2, h3⟩
theorem heapR_upd {D : Nat → Bool} {i : Nat} : ∀ (hs : List (Nat × List Ch)) (h : List Ch), (∀ p ∈ hs, p.1 ≠ i) → heapR (updD D i) hs h = heapR D hs h
  | [], _, _ => rfl
  | (m, H) :: r, h, hne => by
    simp only [heapR]
    have : updD D i m = D m := by
      have := hne (m, H) (by simp)
      simp [updD, this]
    rw [this, heapR_upd r H fun p hp => hne p (by simp [hp])]

variable [ETab]
/-- an operation gives this value and leaves this memory -/
abbrev Fact (P : Program) (o : Op) (tm : List AV) (h : List Ch) (v : AV) (h' : List Ch) : Prop := ∀ K : KT, K v h' → opK P o tm h K
structure Rec where
  i : Nat
  o : Op
  tm : List AV
  v : AV
def Runs (all : List Oper) (tm : List AV) (o : Oper) : Prop := o.guard = none ∨ ∃ j w t, o.guard = some (j, w) ∧ dstAt all j = some t ∧ nthA tm t = .bool w

/-- the operations in the order of the text; what is asked of them to serve every order -/
inductive DW (P : Program) (all : List Oper) (Fin : List AV → List Ch → Prop) : List Oper → Nat → List AV → List Ch → List Rec → List (Nat × List Ch) → Prop
  | nil {i tm h ps hs} (H : Fin tm h) : DW P all Fin [] i tm h ps hs
  | skip {o r i tm h ps hs} (j t : Nat) (w : Bool) (hg : o.guard = some (j, w)) (hd : dstAt all j = some t) (hb : NoRun w (nthA tm t)) (H : DW P all Fin r (i + 1) (putA tm o.dst (.lit undef)) h ps hs) : DW P all Fin (o :: r) i tm h ps hs
  | pure {o r i tm h ps hs} (v : AV) (hg : Runs all tm o) (hf : Fact P o.op tm h v h) (hh : ∀ p ∈ hs, reachB all i p.1 = false → Fact P o.op tm p.2 v p.2) (H : DW P all Fin r (i + 1) (putA tm o.dst v) h (⟨i, o.op, tm, v⟩ :: ps) hs) : DW P all Fin (o :: r) i tm h ps hs
  | heap {o r i tm h ps hs} (v : AV) (h' : List Ch) (hg : Runs all tm o) (hf : Fact P o.op tm h v h') (hh : ∀ p ∈ hs, reachB all i p.1 = true) (hp : ∀ p ∈ ps, reachB all i p.i = false → Fact P p.o p.tm h' p.v h') (H : DW P all Fin r (i + 1) (putA tm o.dst v) h' ps ((i, h) :: hs)) : DW P all Fin (o :: r) i tm h ps hs

/-- what one operation does, whatever was done ahead of it -/
def OpOK (P : Program) (all : List Oper) (tm0 vs : List AV) (hs : List (Nat × List Ch)) (h : List Ch) (i : Nat) (o : Oper) (v : AV) : Prop :=
  (∃ j w t, o.guard = some (j, w) ∧ dstAt all j = some t ∧ NoRun w (nthA (putsD (ltD i) all vs 0 tm0) t) ∧ v = .lit undef ∧ ∀ p ∈ hs, p.1 ≠ i) ∨
  (Runs all (putsD (ltD i) all vs 0 tm0) o ∧ ∀ D, Closed all D → Ready all D i → Fact P o.op (putsD (ltD i) all vs 0 tm0) (heapR D hs h) v (heapR (updD D i) hs h))
end Go.V
