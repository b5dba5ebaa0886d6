/-
  A region whose order is drawn: the order of the text serves every order.
  A region whose order is drawn: soundness.
-/
import Derived.Test.YtifighagbpjogaaPart07
import Derived.Orders
set_option linter.unusedVariables false
set_option linter.unusedSimpArgs false
namespace Go.V

variable {P : Program}

def tmpOf : Operand → List Nat
  | .tmp t => [t]
  | _ => []
/-- slots that an operation names -/
def namesO (all : List Oper) (o : Oper) : List Nat :=
  (o.op.operands.toList.flatMap tmpOf) ++ ((match o.guard with | some (j, _) => (dstAt all j).toList | none => []) ++ o.dst.toList)
def maskOf (o : Oper) (acc : List Nat) : Nat := o.after.toList.foldl (fun s e => if Region.binds .any e then s ||| 2 ^ e.on ||| acc.getD e.on 0 else s) 0
def reachT : List Oper → List Nat → List Nat
  | [], acc => acc
  | o :: r, acc => reachT r (acc ++ [maskOf o acc])
/-- operation j stands before i in every order -/
def reachB (all : List Oper) (i j : Nat) : Bool := ((reachT all []).getD i 0).testBit j
def chkDst (T : List Nat) (i : Nat) (ns : List Nat) : Nat → List Oper → Bool
  | _, [] => true
  | j, o :: r => (j == i || (match o.dst with
    | some d => !ns.contains d || (if j < i then (T.getD i 0).testBit j else (T.getD j 0).testBit i)
    | none => true)) && chkDst T i ns (j + 1) r
def chkAll (all : List Oper) (T : List Nat) : Nat → List Oper → Bool
  | _, [] => true
  | i, o :: r => (o.after.toList.all fun e => !Region.binds .any e || decide (e.on < i)) && chkDst T i (namesO all o) 0 all && chkAll all T (i + 1) r
def chkR (all : List Oper) : Bool := chkAll all (reachT all []) 0 all

theorem no_of {b : Bool} (h : b = true) {A : Prop} (hc : b = false) : A := by rw [h] at hc; cases hc
theorem mask_bit {o : Oper} {acc : List Nat} {j : Nat} (h : (maskOf o acc).testBit j = true) : ∃ e ∈ o.after.toList, Region.binds .any e = true ∧ (e.on = j ∨ (acc.getD e.on 0).testBit j = true) := by
  unfold maskOf at h
  have key : ∀ (l : List Edge) (s : Nat), (l.foldl (fun s e => if Region.binds .any e then s ||| 2 ^ e.on ||| acc.getD e.on 0 else s) s).testBit j = true → s.testBit j = true ∨ ∃ e ∈ l, Region.binds .any e = true ∧ (e.on = j ∨ (acc.getD e.on 0).testBit j = true) := by
    intro l
    induction l with
    | nil => intro s h; exact .inl h
    | cons e l ih =>
      intro s h
      rw [List.foldl_cons] at h
      rcases ih _ h with h1 | ⟨e', h1, h2⟩
      · split at h1
        · rename_i hb
          rw [Nat.testBit_or, Nat.testBit_or, Bool.or_eq_true, Bool.or_eq_true] at h1
          rcases h1 with (h1 | h1) | h1
          · exact .inl h1
          · refine .inr ⟨e, by simp, hb, .inl ?_⟩
            rw [Nat.testBit_two_pow] at h1
            simpa using h1
          · exact .inr ⟨e, by simp, hb, .inr h1⟩
        · exact .inl h1
      · exact .inr ⟨e', by simp [h1], h2⟩
  rcases key _ _ h with h1 | h1
  · simp at h1
  · exact h1
theorem reachT_bit {all : List Oper} {i j : Nat} (h : reachB all i j = true) : ∃ o, all[i]? = some o ∧ ∃ e ∈ o.after.toList, Region.binds .any e = true ∧ (e.on = j ∨ reachB all e.on j = true) := by
  have key : ∀ (r pre : List Oper) (acc : List Nat), all = pre ++ r → acc.length = pre.length →
      (∀ i j, (acc.getD i 0).testBit j = true → ∃ o, all[i]? = some o ∧ ∃ e ∈ o.after.toList, Region.binds .any e = true ∧ (e.on = j ∨ (acc.getD e.on 0).testBit j = true)) →
      ∀ i j, ((reachT r acc).getD i 0).testBit j = true → ∃ o, all[i]? = some o ∧ ∃ e ∈ o.after.toList, Region.binds .any e = true ∧ (e.on = j ∨ ((reachT r acc).getD e.on 0).testBit j = true) := by
    intro r
    induction r with
    | nil => intro pre acc _ _ h; exact h
    | cons o r ih =>
      intro pre acc hall hlen hacc
      simp only [reachT]
      refine ih (pre ++ [o]) (acc ++ [maskOf o acc]) (by simp [hall]) (by simp [hlen]) ?_
      have grow : ∀ k j, (acc.getD k 0).testBit j = true → ((acc ++ [maskOf o acc]).getD k 0).testBit j = true := by
        intro k j hk
        by_cases hlt : k < acc.length
        · rw [List.getD_eq_getElem?_getD, List.getElem?_append_left hlt, ← List.getD_eq_getElem?_getD]; exact hk
        · rw [List.getD_eq_getElem?_getD, List.getElem?_eq_none (by omega)] at hk
          simp at hk
      intro i j hij
      by_cases hlt : i < acc.length
      · have hij2 : (acc.getD i 0).testBit j = true := by
          rw [List.getD_eq_getElem?_getD, List.getElem?_append_left hlt, ← List.getD_eq_getElem?_getD] at hij; exact hij
        obtain ⟨o', h1, e, h2, h3, h4⟩ := hacc i j hij2
        exact ⟨o', h1, e, h2, h3, h4.imp id (grow _ _)⟩
      · by_cases he : i = acc.length
        · have hij2 : (maskOf o acc).testBit j = true := by
            rw [List.getD_eq_getElem?_getD, he, List.getElem?_append_right (Nat.le_refl _)] at hij
            simpa using hij
          obtain ⟨e, h2, h3, h4⟩ := mask_bit hij2
          exact ⟨o, by rw [hall, he, hlen]; simp, e, h2, h3, h4.imp id (grow _ _)⟩
        · rw [List.getD_eq_getElem?_getD, List.getElem?_eq_none (by simp; omega)] at hij
          simp at hij
  exact key all [] [] rfl rfl (fun i j h => by simp at h) i j h

structure ChkR (all : List Oper) : Prop where
  lt : ∀ (i : Nat) (o : Oper), all[i]? = some o → ∀ e ∈ o.after.toList, Region.binds .any e = true → e.on < i
  dst : ∀ (i j : Nat) (o o' : Oper) (d : Nat), all[i]? = some o → all[j]? = some o' → j ≠ i → o'.dst = some d → d ∈ namesO all o → (j < i ∧ reachB all i j = true) ∨ (i < j ∧ reachB all j i = true)
theorem chkR_ok {all : List Oper} (h : chkR all = true) : ChkR all := by
  have hd : ∀ (T : List Nat) (i : Nat) (ns : List Nat) (r : List Oper) (j0 : Nat), chkDst T i ns j0 r = true → ∀ j o' d, r[j]? = some o' → j0 + j ≠ i → o'.dst = some d → d ∈ ns →
      (j0 + j < i ∧ (T.getD i 0).testBit (j0 + j) = true) ∨ (i < j0 + j ∧ (T.getD (j0 + j) 0).testBit i = true) := by
    intro T i ns r
    induction r with
    | nil => intro j0 _ j o' d h; simp at h
    | cons o r ih =>
      intro j0 h j o' d hj hne hdst hmem
      simp only [chkDst, Bool.and_eq_true, Bool.or_eq_true, beq_iff_eq] at h
      cases j with
      | zero =>
        simp only [List.getElem?_cons_zero, Option.some.injEq] at hj
        subst hj
        rw [hdst] at h
        rcases h.1 with h1 | h1
        · exact absurd h1 hne
        · have hc : ns.contains d = true := by simpa using hmem
          simp only [hc, Bool.not_true, Bool.false_or] at h1
          split at h1
          · rename_i hlt; exact .inl ⟨hlt, h1⟩
          · rename_i hlt; exact .inr ⟨by simp at hne ⊢; omega, h1⟩
      | succ j =>
        have := ih (j0 + 1) h.2 j o' d (by simpa using hj) (by omega) hdst hmem
        rwa [show j0 + 1 + j = j0 + (j + 1) from by omega] at this
  have ha : ∀ (r : List Oper) (i0 : Nat), chkAll all (reachT all []) i0 r = true → ∀ i o, r[i]? = some o → (∀ e ∈ o.after.toList, Region.binds .any e = true → e.on < i0 + i) ∧ chkDst (reachT all []) (i0 + i) (namesO all o) 0 all = true := by
    intro r
    induction r with
    | nil => intro i0 _ i o h; simp at h
    | cons o r ih =>
      intro i0 h i o' hi
      simp only [chkAll, Bool.and_eq_true, List.all_eq_true, Bool.or_eq_true, Bool.not_eq_true', decide_eq_true_eq] at h
      cases i with
      | zero =>
        simp only [List.getElem?_cons_zero, Option.some.injEq] at hi
        subst hi
        exact ⟨fun e he hb => (h.1.1 e he).resolve_left (by simp [hb]), h.1.2⟩
      | succ i =>
        have := ih (i0 + 1) h.2 i o' (by simpa using hi)
        rwa [show i0 + 1 + i = i0 + (i + 1) from by omega] at this
  refine ⟨fun i o hi e he hb => by have := (ha all 0 h i o hi).1 e he hb; omega, fun i j o o' d hi hj hne hdst hmem => ?_⟩
  have h1 := (ha all 0 h i o hi).2
  rw [Nat.zero_add] at h1
  have := hd _ _ _ _ 0 h1 j o' d hj (by omega) hdst hmem
  rwa [Nat.zero_add] at this

/-! ### Sets of operations that are done -/
def Closed (all : List Oper) (D : Nat → Bool) : Prop := ∀ i, D i = true → ∀ o, all[i]? = some o → ∀ e ∈ o.after.toList, Region.binds .any e = true → D e.on = true
def Ready (all : List Oper) (D : Nat → Bool) (i : Nat) : Prop := D i = false ∧ ∀ o, all[i]? = some o → ∀ e ∈ o.after.toList, Region.binds .any e = true → D e.on = true
def updD (D : Nat → Bool) (i : Nat) : Nat → Bool := fun j => decide (j = i) || D j
theorem closed_reach {all : List Oper} (C : ChkR all) {D : Nat → Bool} (hD : Closed all D) : ∀ (i : Nat), (∀ o, all[i]? = some o → ∀ e ∈ o.after.toList, Region.binds .any e = true → D e.on = true) → ∀ j, reachB all i j = true → D j = true := by
  intro i
  induction i using Nat.strongRecOn with
  | _ i ih =>
    intro hi j hj
    obtain ⟨o, ho, e, he, hb, h1⟩ := reachT_bit hj
    have hon := hi o ho e he hb
    rcases h1 with h1 | h1
    · rw [← h1]; exact hon
    · exact ih e.on (C.lt i o ho e he hb) (hD e.on hon) j h1
theorem Ready.reach {all : List Oper} (C : ChkR all) {D : Nat → Bool} (hD : Closed all D) {i : Nat} (h : Ready all D i) {j : Nat} (hj : reachB all i j = true) : D j = true := closed_reach C hD i h.2 j hj
theorem Closed.reach {all : List Oper} (C : ChkR all) {D : Nat → Bool} (hD : Closed all D) {i : Nat} (h : D i = true) {j : Nat} (hj : reachB all i j = true) : D j = true := closed_reach C hD i (hD i h) j hj
theorem Closed.upd {all : List Oper} {D : Nat → Bool} (hD : Closed all D) {i : Nat} (h : Ready all D i) : Closed all (updD D i) := by
  intro j hj o ho e he hb
  unfold updD at *
  simp only [Bool.or_eq_true, decide_eq_true_eq] at hj ⊢
  rcases hj with rfl | hj
  · exact .inr (h.2 o ho e he hb)
  · exact .inr (hD j hj o ho e he hb)

/-! ### Slots behind the operations that are done -/
def putsD (D : Nat → Bool) : List Oper → List AV → Nat → List AV → List AV
  | o :: os, v :: vs, i, tm => putsD D os vs (i + 1) (if D i then putA tm o.dst v else tm)
  | _, _, _, tm => tm
def valD (D : Nat → Bool) (x : Nat) : List Oper → List AV → Nat → AV → AV
  | o :: os, v :: vs, i, a => valD D x os vs (i + 1) (if D i ∧ o.dst = some x then v else a)
  | _, _, _, a => a
theorem putA_len (tm : List AV) (d : Option Nat) (v : AV) : (putA tm d v).length = tm.length := by cases d <;> simp [putA]
theorem nthA_set (tm : List AV) (d : Nat) (v : AV) (x : Nat) (hx : x < tm.length) : nthA (tm.set d v) x = if d = x then v else nthA tm x := by
  induction tm generalizing d x with
  | nil => simp at hx
  | cons a l ih =>
    cases d with
    | zero => cases x <;> simp [nthA]
    | succ d =>
      cases x with
      | zero => simp [nthA]
      | succ x => simpa [nthA] using ih d x (by simpa using hx)
theorem nthA_put (tm : List AV) (d : Option Nat) (v : AV) (x : Nat) (hx : x < tm.length) : nthA (putA tm d v) x = if d = some x then v else nthA tm x := by
  cases d with
  | none => simp [putA]
  | some d => simpa [putA] using nthA_set tm d v x hx
theorem putsD_len (D : Nat → Bool) : ∀ (os : List Oper) (vs : List AV) (i : Nat) (tm : List AV), (putsD D os vs i tm).length = tm.length
  | [], _, _, _ => rfl
  | _ :: _, [], _, _ => rfl
  | o :: os, v :: vs, i, tm => by
    simp only [putsD]
    rw [putsD_len D os vs]
    split
    · exact putA_len ..
    · rfl
theorem nthA_puts (D : Nat → Bool) (x : Nat) : ∀ (os : List Oper) (vs : List AV) (i : Nat) (tm : List AV), x < tm.length → nthA (putsD D os vs i tm) x = valD D x os vs i (nthA tm x)
  | [], _, _, _, _ => by cases ‹List AV› <;> rfl
  | _ :: _, [], _, _, _ => rfl
  | o :: os, v :: vs, i, tm, hx => by
    simp only [putsD, valD]
    rw [nthA_puts D x os vs (i + 1) _ (by split <;> simp [putA_len, hx])]
    congr 1
    by_cases hd : D i = true
    · simp only [hd, if_true, true_and]
      exact nthA_put tm o.dst v x hx
    · simp [hd]
theorem valD_eq {D D' : Nat → Bool} {x : Nat} : ∀ (os : List Oper) (vs : List AV) (i : Nat) (a : AV), (∀ j o, os[j]? = some o → o.dst = some x → D (i + j) = D' (i + j)) → valD D x os vs i a = valD D' x os vs i a
  | [], vs, _, _, _ => by cases vs <;> rfl
  | _ :: _, [], _, _, _ => rfl
  | o :: os, v :: vs, i, a, h => by
    simp only [valD]
    have h0 := h 0 o (by simp)
    have e : (if D i = true ∧ o.dst = some x then v else a) = if D' i = true ∧ o.dst = some x then v else a := by
      by_cases hd : o.dst = some x
      · have := h0 hd
        simp only [Nat.add_zero] at this
        rw [this]
      · simp [hd]
    rw [e]
    refine valD_eq os vs (i + 1) _ fun j o' hj hd => ?_
    have := h (j + 1) o' (by simpa using hj) hd
    rwa [show i + 1 + j = i + (j + 1) from by omega]
theorem valD_last {D : Nat → Bool} {x : Nat} : ∀ (os : List Oper) (vs : List AV) (i : Nat) (a : AV) (k : Nat) (o : Oper) (v : AV), os[k]? = some o → vs[k]? = some v → o.dst = some x → D (i + k) = true → (∀ j o', k < j → os[j]? = some o' → o'.dst = some x → D (i + j) = false) → valD D x os vs i a = v
  | [], _, _, _, k, _, _, h, _, _, _, _ => by simp at h
  | _ :: _, [], _, _, k, _, _, _, h, _, _, _ => by simp at h
  | o :: os, v :: vs, i, a, 0, o0, v0, ho, hv, hd, hD, hl => by
    simp at ho hv
    subst ho; subst hv
    simp only [Nat.add_zero] at hD
    simp only [valD, hD, hd, and_self, if_true]
    have e : valD D x os vs (i + 1) v = valD (fun _ => false) x os vs (i + 1) v := valD_eq _ _ _ _ fun j o' hj hd' => by
      have := hl (j + 1) o' (by omega) (by simpa using hj) hd'
      rwa [show i + 1 + j = i + (j + 1) from by omega]
    rw [e]
    have key : ∀ (os : List Oper) (vs : List AV) (i : Nat) (a : AV), valD (fun _ => false) x os vs i a = a := by
      intro os
      induction os with
      | nil => intro vs i a; cases vs <;> rfl
      | cons o os ih =>
        intro vs i a
        cases vs with
        | nil => rfl
        | cons v vs => simp [valD, ih]
    exact key ..
  | o :: os, v :: vs, i, a, k + 1, o0, v0, ho, hv, hd, hD, hl => by
    simp only [valD]
    exact valD_last os vs (i + 1) _ k o0 v0 (by simpa using ho) (by simpa using hv) hd (by rwa [show i + 1 + k = i + (k + 1) from by omega]) fun j o' hj ho' hd' => by
      have := hl (j + 1) o' (by omega) (by simpa using ho') hd'
      rwa [show i + 1 + j = i + (j + 1) from by omega]
theorem ext_nthA : ∀ {a b : List AV}, a.length = b.length → (∀ x, x < a.length → nthA a x = nthA b x) → a = b
  | [], [], _, _ => rfl
  | [], _ :: _, h, _ => by simp at h
  | _ :: _, [], h, _ => by simp at h
  | x :: a, y :: b, h, hx => by
    have h0 := hx 0 (by simp)
    simp only [nthA] at h0
    rw [h0, ext_nthA (a := a) (b := b) (by simpa using h) fun z hz => by simpa [nthA] using hx (z + 1) (by simpa using hz)]
def ltD (i : Nat) : Nat → Bool := fun j => decide (j < i)

section
variable {all : List Oper} (C : ChkR all) {vs : List AV} {tm0 : List AV} {D : Nat → Bool} (hD : Closed all D) {i : Nat} {o : Oper} (ho : all[i]? = some o) (hr : Ready all D i)
include C hD ho hr
theorem agree {x : Nat} (hx : x ∈ namesO all o) : nthA (putsD D all vs 0 tm0) x = nthA (putsD (ltD i) all vs 0 tm0) x := by
  by_cases hlt : x < tm0.length
  · rw [nthA_puts _ _ _ _ _ _ hlt, nthA_puts _ _ _ _ _ _ hlt]
    refine valD_eq _ _ _ _ fun j o' hj hd => ?_
    rw [Nat.zero_add]
    by_cases e : j = i
    · subst e
      simp [ltD, hr.1]
    · rcases C.dst i j o o' x ho hj e hd hx with ⟨h1, h2⟩ | ⟨h1, h2⟩
      · rw [hr.reach C hD h2]; simp [ltD, h1]
      · cases hDj : D j with
        | false => simp [ltD]; omega
        | true => have := hD.reach C hDj h2; rw [hr.1] at this; cases this
  · rw [nthA_none _ _ (by rw [putsD_len]; omega), nthA_none _ _ (by rw [putsD_len]; omega)]
theorem put_upd {v : AV} (hv : vs[i]? = some v) : putA (putsD D all vs 0 tm0) o.dst v = putsD (updD D i) all vs 0 tm0 := by
  refine ext_nthA (by rw [putA_len, putsD_len, putsD_len]) fun x hx => ?_
  rw [putA_len] at hx
  rw [nthA_put _ _ _ _ hx]
  rw [putsD_len] at hx
  rw [nthA_puts _ _ _ _ _ _ hx, nthA_puts _ _ _ _ _ _ hx]
  split
  · rename_i hd
    refine (valD_last all vs 0 _ i o v ho hv hd (by simp [updD]) fun j o' hj ho' hd' => ?_).symm
    rw [Nat.zero_add]
    have hmem : x ∈ namesO all o := by simp [namesO, hd]
    rcases C.dst i j o o' x ho ho' (by omega) hd' hmem with ⟨h1, h2⟩ | ⟨h1, h2⟩
    · omega
    · cases hDj : D j with
      | false => simp [updD, hDj]; omega
      | true => have := hD.reach C hDj h2; rw [hr.1] at this; cases this
  · rename_i hd
    refine valD_eq _ _ _ _ fun j o' hj hd' => ?_
    rw [Nat.zero_add]
    by_cases e : j = i
    · subst e
      rw [ho] at hj
      cases hj
      exact absurd hd' hd
    · simp [updD, e]
end

/-! ### The memory behind the operations that are done -/
def heapR (D : Nat → Bool) : List (Nat × List Ch) → List Ch → List Ch
  | [], h => h
  | (m, H) :: r, h => if D m then h else heapR D r H
theorem heapR_cases (D : Nat → Bool) : ∀ (hs : List (Nat × List Ch)) (h : List Ch), heapR D hs h = h ∨ ∃ p ∈ hs, D p.1 = false ∧ heapR D hs h = p.2
  | [], _ => .inl rfl
  | (m, H) :: r, h => by
    simp only [heapR]
    split
    · exact .inl rfl
    · rename_i hm
      have hm : D m = false := by simpa using hm
      rcases heapR_cases D r H with h1 | ⟨p, h1, h2, h3⟩
      · exact .inr ⟨(m, H), by simp, hm, h1⟩
      · exact .inr ⟨p, by simp [h1], h2, h3⟩
theorem heapR_upd {D : Nat → Bool} {i : Nat} : ∀ (hs : List (Nat × List Ch)) (h : List Ch), (∀ p ∈ hs, p.1 ≠ i) → heapR (updD D i) hs h = heapR D hs h
  | [], _, _ => rfl
  | (m, H) :: r, h, hne => by
    simp only [heapR]
    have : updD D i m = D m := by
      have := hne (m, H) (by simp)
      simp [updD, this]
    rw [this, heapR_upd r H fun p hp => hne p (by simp [hp])]

variable [ETab]
/-- an operation gives this value and leaves this memory -/
abbrev Fact (P : Program) (o : Op) (tm : List AV) (h : List Ch) (v : AV) (h' : List Ch) : Prop := ∀ K : KT, K v h' → opK P o tm h K
structure Rec where
  i : Nat
  o : Op
  tm : List AV
  v : AV
def Runs (all : List Oper) (tm : List AV) (o : Oper) : Prop := o.guard = none ∨ ∃ j w t, o.guard = some (j, w) ∧ dstAt all j = some t ∧ nthA tm t = .bool w

/-- the operations in the order of the text; what is asked of them to serve every order -/
inductive DW (P : Program) (all : List Oper) (Fin : List AV → List Ch → Prop) : List Oper → Nat → List AV → List Ch → List Rec → List (Nat × List Ch) → Prop
  | nil {i tm h ps hs} (H : Fin tm h) : DW P all Fin [] i tm h ps hs
  | skip {o r i tm h ps hs} (j t : Nat) (w : Bool) (hg : o.guard = some (j, w)) (hd : dstAt all j = some t) (hb : NoRun w (nthA tm t)) (H : DW P all Fin r (i + 1) (putA tm o.dst (.lit undef)) h ps hs) : DW P all Fin (o :: r) i tm h ps hs
  | pure {o r i tm h ps hs} (v : AV) (hg : Runs all tm o) (hf : Fact P o.op tm h v h) (hh : ∀ p ∈ hs, reachB all i p.1 = false → Fact P o.op tm p.2 v p.2) (H : DW P all Fin r (i + 1) (putA tm o.dst v) h (⟨i, o.op, tm, v⟩ :: ps) hs) : DW P all Fin (o :: r) i tm h ps hs
  | heap {o r i tm h ps hs} (v : AV) (h' : List Ch) (hg : Runs all tm o) (hf : Fact P o.op tm h v h') (hh : ∀ p ∈ hs, reachB all i p.1 = true) (hp : ∀ p ∈ ps, reachB all i p.i = false → Fact P p.o p.tm h' p.v h') (H : DW P all Fin r (i + 1) (putA tm o.dst v) h' ps ((i, h) :: hs)) : DW P all Fin (o :: r) i tm h ps hs

/-- what one operation does, whatever was done ahead of it -/
def OpOK (P : Program) (all : List Oper) (tm0 vs : List AV) (hs : List (Nat × List Ch)) (h : List Ch) (i : Nat) (o : Oper) (v : AV) : Prop :=
  (∃ j w t, o.guard = some (j, w) ∧ dstAt all j = some t ∧ NoRun w (nthA (putsD (ltD i) all vs 0 tm0) t) ∧ v = .lit undef ∧ ∀ p ∈ hs, p.1 ≠ i) ∨
  (Runs all (putsD (ltD i) all vs 0 tm0) o ∧ ∀ D, Closed all D → Ready all D i → Fact P o.op (putsD (ltD i) all vs 0 tm0) (heapR D hs h) v (heapR (updD D i) hs h))
end Go.V

namespace Go.V

variable {P : Program}

theorem opK_congr [ETab] {o : Op} {tm tm' : List AV} {h : List Ch} {K : KT} (he : ∀ x ∈ o.operands, evA tm x = evA tm' x) (H : opK P o tm h K) : opK P o tm' h K := by
  have mp : ∀ l : List Operand, (∀ x ∈ l, evA tm x = evA tm' x) → evAs tm l = evAs tm' l := fun l hl => List.map_congr_left hl
  have mps : ∀ l : List (Nat × Operand), (∀ p ∈ l, evA tm p.2 = evA tm' p.2) → evPs tm l = evPs tm' l := fun l hl => List.map_congr_left fun p hp => by rw [hl p hp]
  cases o <;> simp only [Op.operands] at he <;> simp only [opK] at H ⊢
  case build t ps => rw [← mps ps.toList fun p hp => he _ (by simp; exact ⟨p.1, by simpa using hp⟩)]; exact H
  case buildSlice t n ps => rw [← mps ps.toList fun p hp => he _ (by simp; exact ⟨p.1, by simpa using hp⟩)]; exact H
  case next x b =>
    cases b <;> simp only at H ⊢
    rw [← he x (by simp)]; exact H
  case makeFunc fn first caps =>
    cases fn <;> simp only at H ⊢
    rw [← mp caps.toList fun x hx => he x (by simp; exact .inr (by simpa using hx))]; exact H
  case slice t x lo hi mx =>
    have h1 := he x (by simp)
    have h2 : optA tm lo = optA tm' lo := by cases lo <;> simp [optA]; exact he _ (by simp)
    have h3 : optA tm hi = optA tm' hi := by cases hi <;> simp [optA]; exact he _ (by simp)
    cases mx with
    | none =>
      simp only at H ⊢
      rw [← h1, ← h2, ← h3]; exact H
    | some m =>
      have h4 := he m (by simp)
      cases hi with
      | none => exact H.elim
      | some hi =>
        have h5 := he hi (by simp)
        simp only at H ⊢
        rw [← h1, ← h2, ← h4, ← h5]; exact H
  case call c =>
    simp only [Call.operands] at he
    have ha := mp c.args.toList fun x hx => he x (by simp; exact .inr (by simpa using hx))
    unfold callK at *
    cases hc : c.callee with
    | value f =>
      simp only [hc] at H ⊢
      rw [← he f (by simp [hc]), ← ha]; exact H
    | invoke r m =>
      simp only [hc] at H ⊢
      rw [← he r (by simp [hc]), ← ha]; exact H
    | builtin b =>
      simp only [hc] at H ⊢
      cases b <;> simp only at H ⊢
      case len =>
        split at H
        · rename_i x t h1 h2
          rw [← he x (by simp; exact .inr (by have : x ∈ c.args.toList := by rw [h1]; simp
                                              simpa using this))]
          exact H
        · exact H.elim
      case append =>
        split at H
        · rename_i s x t tx h1 h2
          rw [← he s (by simp; exact .inr (by have : s ∈ c.args.toList := by rw [h1]; simp
                                              simpa using this)), ← he x (by simp; exact .inr (by have : x ∈ c.args.toList := by rw [h1]; simp
                                                                                                  simpa using this))]
          exact H
        · exact H.elim
      case min => rw [← ha]; exact H
      case clear =>
        split at H
        · rename_i x t h1 h2
          rw [← he x (by simp; exact .inr (by have : x ∈ c.args.toList := by rw [h1]; simp
                                              simpa using this))]
          exact H
        · exact H.elim
      case max => rw [← ha]; exact H
      case delete =>
        split at H
        · rename_i s x t tx h1 h2
          rw [← he s (by simp; exact .inr (by have : s ∈ c.args.toList := by rw [h1]; simp
                                              simpa using this)), ← he x (by simp; exact .inr (by have : x ∈ c.args.toList := by rw [h1]; simp
                                                                                                  simpa using this))]
          exact H
        · exact H.elim
  case typeAssert x xt t b =>
    cases b <;> simp only at H ⊢
    rw [← he x (by simp)]; exact H
  case makeInterface t x =>
    rw [← he x (by simp)]; exact H
  case makeMap t r =>
    have h2 : optA tm r = optA tm' r := by cases r <;> simp [optA]; exact he _ (by simp)
    rw [← h2]; exact H
  all_goals first
    | exact H
    | (rw [← he _ (by simp)]; exact H)
    | (rw [← he _ (by simp), ← he _ (by simp)]; exact H)
    | (have h1 := he _ (Array.mem_def.2 (List.Mem.head _)); simp only [← h1]; exact H)
    | (simp only [List.mem_toArray, List.mem_cons, forall_eq_or_imp, List.not_mem_nil, false_imp_iff, implies_true, and_true] at he; simp only [← he.1, ← he.2]; exact H)
    | (simp only [List.mem_toArray, List.mem_cons, forall_eq_or_imp, List.not_mem_nil, false_imp_iff, implies_true, and_true] at he; simp only [← he.1, ← he.2.1, ← he.2.2]; exact H)
    | (simp only [List.mem_toArray, List.mem_cons, forall_eq_or_imp, List.not_mem_nil, false_imp_iff, implies_true, and_true] at he; simp only [← he]; exact H)

theorem putsD_ext {i : Nat} : ∀ (os : List Oper) (vs ws : List AV) (j : Nat) (tm : List AV), i ≤ j + vs.length → putsD (ltD i) os (vs ++ ws) j tm = putsD (ltD i) os vs j tm
  | [], vs, ws, j, tm, _ => by cases vs <;> cases ws <;> rfl
  | o :: os, [], ws, j, tm, h => by
    have key : ∀ (os : List Oper) (ws : List AV) (j : Nat) (tm : List AV), i ≤ j → putsD (ltD i) os ws j tm = tm := by
      intro os
      induction os with
      | nil => intro ws j tm _; cases ws <;> rfl
      | cons o os ih =>
        intro ws j tm hj
        cases ws with
        | nil => rfl
        | cons w ws =>
          simp only [putsD]
          rw [if_neg (by simp [ltD]; omega)]
          exact ih ws (j + 1) tm (by omega)
    rw [List.nil_append, key _ _ _ _ (by simpa using h)]
    rfl
  | o :: os, v :: vs, ws, j, tm, h => by
    simp only [List.cons_append, putsD]
    exact putsD_ext os vs ws (j + 1) _ (by simp at h; omega)
theorem putsD_snoc {all : List Oper} {i : Nat} {o : Oper} {v : AV} : ∀ (os : List Oper) (vs : List AV) (j : Nat) (tm : List AV), os[vs.length]? = some o → j + vs.length = i → putsD (ltD (i + 1)) os (vs ++ [v]) j tm = putA (putsD (ltD i) os vs j tm) o.dst v
  | [], vs, j, tm, h, _ => by simp at h
  | o' :: os, [], j, tm, h, hj => by
    simp at h hj
    subst h; subst hj
    simp only [List.nil_append, putsD, ltD, Nat.lt_succ_self, decide_true, if_true]
  | o' :: os, v' :: vs, j, tm, h, hj => by
    simp only [List.cons_append, putsD]
    have hlt : j < i := by simp at hj; omega
    rw [putsD_snoc (all := all) os vs (j + 1) _ (by simpa using h) (by simp at hj; omega)]
    simp [ltD, hlt, Nat.lt_succ_of_lt hlt]

variable [ETab]
/-- the past of a walk -/
structure Past (P : Program) (all : List Oper) (h0 : List Ch) (tm0 : List AV) (i : Nat) (tm : List AV) (h : List Ch) (ps : List Rec) (hs : List (Nat × List Ch)) (vs : List AV) : Prop where
  len : vs.length = i
  tm : tm = putsD (ltD i) all vs 0 tm0
  keys : ∀ p ∈ hs, p.1 < i
  first : heapR (fun _ => false) hs h = h0
  ops : ∀ j o v, j < i → all[j]? = some o → vs[j]? = some v → OpOK P all tm0 vs hs h j o v ∧ ((∀ p ∈ hs, p.1 ≠ j) → (∃ j' w t, o.guard = some (j', w) ∧ dstAt all j' = some t ∧ NoRun w (nthA (putsD (ltD j) all vs 0 tm0) t) ∧ v = .lit undef) ∨ ∃ p ∈ ps, p.i = j ∧ p.o = o.op ∧ p.tm = putsD (ltD j) all vs 0 tm0 ∧ p.v = v)

theorem OpOK.snoc {all : List Oper} {tm0 vs : List AV} {hs : List (Nat × List Ch)} {h : List Ch} {i : Nat} {o : Oper} {v u : AV} (H : OpOK P all tm0 vs hs h i o v) (hi : i ≤ vs.length) : OpOK P all tm0 (vs ++ [u]) hs h i o v := by
  unfold OpOK at *
  rw [putsD_ext all vs [u] 0 tm0 (by omega)]
  exact H
omit [ETab] in
theorem heapR_all {D : Nat → Bool} : ∀ (hs : List (Nat × List Ch)) (h : List Ch), (∀ p ∈ hs, D p.1 = true) → heapR D hs h = h
  | [], _, _ => rfl
  | (m, H) :: r, h, hd => by simp [heapR, hd (m, H) (by simp)]

theorem DW.data {all : List Oper} (C : ChkR all) {h0 : List Ch} {tm0 : List AV} {Fin : List AV → List Ch → Prop} : ∀ {l : List Oper} {i : Nat} {tm : List AV} {h : List Ch} {ps : List Rec} {hs : List (Nat × List Ch)}, DW P all Fin l i tm h ps hs → (∀ j, l[j]? = all[i + j]?) →
    ∀ vs, Past P all h0 tm0 i tm h ps hs vs → ∃ tm' h' ps' hs' vs', Fin tm' h' ∧ Past P all h0 tm0 (i + l.length) tm' h' ps' hs' vs' := by
  intro l i tm h ps hs hw
  induction hw with
  | nil H => intro _ vs hp; exact ⟨_, _, _, _, vs, H, by simpa using hp⟩
  | @skip o r i tm h ps hs j t w hg hd hb H ih =>
    intro hl vs hp
    have ho : all[i]? = some o := by simpa using (hl 0).symm
    obtain ⟨tm', h', ps', hs', vs', h1, h2⟩ := ih (fun j => by have := hl (j + 1); simpa [Nat.add_assoc, Nat.add_comm 1 j] using this) (vs ++ [.lit undef]) ⟨by simp [hp.len], by rw [hp.tm]; exact (putsD_snoc (all := all) all vs 0 tm0 (by rw [hp.len]; exact ho) (by rw [hp.len]; simp)).symm, fun p hq => Nat.lt_succ_of_lt (hp.keys p hq), hp.first, fun j' o' v' hj ho' hv => by
      by_cases e : j' = i
      · subst e
        rw [ho] at ho'
        cases ho'
        have hve : v' = .lit undef := by
          rw [List.getElem?_append_right (by rw [hp.len]; exact Nat.le_refl _), hp.len] at hv
          simpa using hv.symm
        subst hve
        rw [hp.tm] at hb
        have hb' : NoRun w (nthA (putsD (ltD j') all (vs ++ [.lit undef]) 0 tm0) t) := by rw [putsD_ext _ _ _ _ _ (by rw [hp.len]; simp)]; exact hb
        exact ⟨.inl ⟨j, w, t, hg, hd, hb', rfl, fun p hq => by have := hp.keys p hq; omega⟩, fun _ => .inl ⟨j, w, t, hg, hd, hb', rfl⟩⟩
      · have hlt : j' < i := by omega
        rw [List.getElem?_append_left (by rw [hp.len]; exact hlt)] at hv
        obtain ⟨h1, h2⟩ := hp.ops j' o' v' hlt ho' hv
        refine ⟨h1.snoc (by rw [hp.len]; omega), fun hk => ?_⟩
        rw [putsD_ext _ _ _ _ _ (by rw [hp.len]; omega)]
        exact h2 hk⟩
    exact ⟨tm', h', ps', hs', vs', h1, by simpa [Nat.add_assoc, Nat.add_comm 1] using h2⟩
  | @pure o r i tm h ps hs v hg hf hh H ih =>
    intro hl vs hp
    have ho : all[i]? = some o := by simpa using (hl 0).symm
    obtain ⟨tm', h', ps', hs', vs', h1, h2⟩ := ih (fun j => by have := hl (j + 1); simpa [Nat.add_assoc, Nat.add_comm 1 j] using this) (vs ++ [v]) ⟨by simp [hp.len], by rw [hp.tm]; exact (putsD_snoc (all := all) all vs 0 tm0 (by rw [hp.len]; exact ho) (by rw [hp.len]; simp)).symm, fun p hq => Nat.lt_succ_of_lt (hp.keys p hq), hp.first, fun j' o' v' hj ho' hv => by
      by_cases e : j' = i
      · subst e
        rw [ho] at ho'
        cases ho'
        have hve : v' = v := by
          rw [List.getElem?_append_right (by rw [hp.len]; exact Nat.le_refl _), hp.len] at hv
          simpa using hv.symm
        subst hve
        rw [hp.tm] at hg hf hh
        rw [putsD_ext _ _ _ _ _ (by rw [hp.len]; simp)]
        refine ⟨.inr ⟨by rw [putsD_ext _ _ _ _ _ (by rw [hp.len]; simp)]; exact hg, fun D hD hr => ?_⟩, fun _ => .inr ⟨⟨j', o.op, tm, v'⟩, by simp, rfl, rfl, hp.tm, rfl⟩⟩
        rw [putsD_ext _ _ _ _ _ (by rw [hp.len]; simp), heapR_upd hs h fun p hq => by have := hp.keys p hq; omega]
        rcases heapR_cases D hs h with h1 | ⟨p, h1, h2, h3⟩
        · rw [h1]; exact hf
        · rw [h3]
          refine hh p h1 ?_
          cases hrb : reachB all j' p.1 with
          | false => rfl
          | true => have := hr.reach C hD hrb; rw [h2] at this; cases this
      · have hlt : j' < i := by omega
        rw [List.getElem?_append_left (by rw [hp.len]; exact hlt)] at hv
        obtain ⟨h1, h2⟩ := hp.ops j' o' v' hlt ho' hv
        refine ⟨h1.snoc (by rw [hp.len]; omega), fun hk => ?_⟩
        rw [putsD_ext _ _ _ _ _ (by rw [hp.len]; omega)]
        exact (h2 hk).imp id fun ⟨p, h3, h4⟩ => ⟨p, by simp [h3], h4⟩⟩
    exact ⟨tm', h', ps', hs', vs', h1, by simpa [Nat.add_assoc, Nat.add_comm 1] using h2⟩
  | @heap o r i tm h ps hs v h2 hg hf hh hpp H ih =>
    intro hl vs hp
    have ho : all[i]? = some o := by simpa using (hl 0).symm
    obtain ⟨tm', h', ps', hs', vs', h1, h2⟩ := ih (fun j => by have := hl (j + 1); simpa [Nat.add_assoc, Nat.add_comm 1 j] using this) (vs ++ [v]) ⟨by simp [hp.len], by rw [hp.tm]; exact (putsD_snoc (all := all) all vs 0 tm0 (by rw [hp.len]; exact ho) (by rw [hp.len]; simp)).symm, fun p hq => by
      rcases List.mem_cons.1 hq with rfl | hq
      · exact Nat.lt_succ_self _
      · exact Nat.lt_succ_of_lt (hp.keys p hq), by simpa [heapR] using hp.first, fun j' o' v' hj ho' hv => by
      by_cases e : j' = i
      · subst e
        rw [ho] at ho'
        cases ho'
        have hve : v' = v := by
          rw [List.getElem?_append_right (by rw [hp.len]; exact Nat.le_refl _), hp.len] at hv
          simpa using hv.symm
        subst hve
        rw [hp.tm] at hg hf
        refine ⟨.inr ⟨by rw [putsD_ext _ _ _ _ _ (by rw [hp.len]; simp)]; exact hg, fun D hD hr => ?_⟩, fun hk => absurd rfl (hk (j', h) (by simp))⟩
        rw [putsD_ext _ _ _ _ _ (by rw [hp.len]; simp)]
        simp only [heapR, hr.1, Bool.false_eq_true, if_false]
        rw [heapR_all hs h fun p hq => hr.reach C hD (hh p hq), if_pos (by simp [updD])]
        exact hf
      · have hlt : j' < i := by omega
        rw [List.getElem?_append_left (by rw [hp.len]; exact hlt)] at hv
        obtain ⟨h1, h4⟩ := hp.ops j' o' v' hlt ho' hv
        rw [putsD_ext _ _ _ _ _ (by rw [hp.len]; omega)]
        refine ⟨?_, fun hk => h4 fun p hq => hk p (by simp [hq])⟩
        refine OpOK.snoc ?_ (by rw [hp.len]; omega)
        rcases h1 with ⟨jj, w, t, g1, g2, g3, g4, g5⟩ | ⟨g1, g2⟩
        · exact .inl ⟨jj, w, t, g1, g2, g3, g4, fun p hq => by
            rcases List.mem_cons.1 hq with rfl | hq
            · exact fun e' => e e'.symm
            · exact g5 p hq⟩
        · refine .inr ⟨g1, fun D hD hr => ?_⟩
          have hup : updD D j' i = D i := by
            have : ¬ i = j' := fun e' => e e'.symm
            simp [updD, this]
          simp only [heapR, hup]
          cases hDi : D i with
          | false => simpa using g2 D hD hr
          | true =>
            simp only [if_true]
            by_cases hk : ∀ p ∈ hs, p.1 ≠ j'
            · have hrb : reachB all i j' = false := by
                cases hrb : reachB all i j' with
                | false => rfl
                | true => have := hD.reach C hDi hrb; rw [hr.1] at this; cases this
              rcases h4 hk with ⟨jj, w, t, k1, k2, k3, k4⟩ | ⟨p, k1, k2, k3, k4, k5⟩
              · rcases g1 with g1 | ⟨j3, w3, t3, l1, l2, l3⟩
                · rw [g1] at k1; cases k1
                · rw [l1] at k1
                  cases k1
                  rw [l2] at k2
                  cases k2
                  rw [l3] at k3
                  cases w <;> simp [NoRun] at k3
              · have := hpp p k1 (by rw [k2]; exact hrb)
                rw [k3, k4, k5] at this
                exact this
            · have : ∃ p ∈ hs, p.1 = j' := by
                false_or_by_contra
                rename_i hc
                exact hk fun p hq e' => hc ⟨p, hq, e'⟩
              obtain ⟨p, hq, rfl⟩ := this
              have := hD.reach C hDi (hh p hq)
              rw [hr.1] at this
              cases this⟩
    exact ⟨tm', h', ps', hs', vs', h1, by simpa [Nat.add_assoc, Nat.add_comm 1] using h2⟩

def cntD (D : Nat → Bool) : Nat → Nat
  | 0 => 0
  | n + 1 => cntD D n + (if D n then 0 else 1)
omit [ETab] in
theorem cntD_upd {D : Nat → Bool} {i : Nat} (hi : D i = false) : ∀ n, i < n → cntD (updD D i) n + 1 = cntD D n := by
  have low : ∀ n, n ≤ i → cntD (updD D i) n = cntD D n := by
    intro n
    induction n with
    | zero => intro _; rfl
    | succ n ih =>
      intro hn
      have : updD D i n = D n := by have : ¬ n = i := by omega
                                    simp [updD, this]
      simp only [cntD, ih (by omega), this]
  intro n
  induction n with
  | zero => intro h; omega
  | succ n ih =>
    intro hn
    simp only [cntD]
    by_cases e : i = n
    · subst e
      rw [low i (Nat.le_refl _)]
      simp [updD, hi]
    · have : updD D i n = D n := by have : ¬ n = i := by omega
                                    simp [updD, this]
      rw [this]
      have := ih (by omega)
      omega
omit [ETab] in
theorem cntD_zero {D : Nat → Bool} : ∀ n, cntD D n = 0 → ∀ j, j < n → D j = true := by
  intro n
  induction n with
  | zero => intro _ j hj; omega
  | succ n ih =>
    intro h j hj
    simp only [cntD] at h
    by_cases e : j = n
    · subst e
      cases hd : D j with
      | true => rfl
      | false => simp [hd] at h
    · exact ih (by omega) j (by omega)

theorem any_ok {all : List Oper} (C : ChkR all) {k : Nat} {tm0 : List AV} {h0 : List Ch} {R0 : RO} {μ0 : List Bind} {w0 : World} {Q : Exit → Act → World → Prop} {Fin : List AV → List Ch → Prop} (hQ : Then k R0 μ0 h0 w0 Fin (Q .normal)) {tmF : List AV} {hF : List Ch} {ps : List Rec} {hs : List (Nat × List Ch)} {vs : List AV} (hfin : Fin tmF hF) {hS : List Ch} (hp : Past P all hS tm0 all.length tmF hF ps hs vs) :
    ∀ (fuel : Nat) (listed : Array Bool) (R : RO) (μ : List Bind) (a : Act) (w : World), listed.size = all.length → Closed all (fun j => listed.getD j false) → cntD (fun j => listed.getD j false) all.length ≤ fuel →
      SR R μ (putsD (fun j => listed.getD j false) all vs 0 tm0) (heapR (fun j => listed.getD j false) hs hF) a w → Step (ownH h0 μ0) R0 w0 (ownH (heapR (fun j => listed.getD j false) hs hF) μ) R w → Keeps k μ0 μ → wpAny P .any all.toArray Q fuel listed a w := by
  have done : ∀ (listed : Array Bool) (R : RO) (μ : List Bind) (a : Act) (w : World), (∀ j, j < all.length → listed.getD j false = true) →
      SR R μ (putsD (fun j => listed.getD j false) all vs 0 tm0) (heapR (fun j => listed.getD j false) hs hF) a w → Step (ownH h0 μ0) R0 w0 (ownH (heapR (fun j => listed.getD j false) hs hF) μ) R w → Keeps k μ0 μ → Q .normal a w := by
    intro listed R μ a w hall s st kp
    have e1 : putsD (fun j => listed.getD j false) all vs 0 tm0 = tmF := by
      rw [hp.tm]
      refine ext_nthA (by rw [putsD_len, putsD_len]) fun x hx => ?_
      rw [putsD_len] at hx
      rw [nthA_puts _ _ _ _ _ _ hx, nthA_puts _ _ _ _ _ _ hx]
      refine valD_eq _ _ _ _ fun j o hj _ => ?_
      have hlt := (List.getElem?_eq_some_iff.1 hj).1
      rw [Nat.zero_add, hall j hlt]
      simp [ltD, hlt]
    have e2 : heapR (fun j => listed.getD j false) hs hF = hF := heapR_all _ _ fun p hq => hall _ (hp.keys p hq)
    rw [e1, e2] at s
    rw [e2] at st
    exact hQ _ _ _ _ _ _ s st kp hfin
  intro fuel
  induction fuel with
  | zero =>
    intro listed R μ a w hsz hD hc s st kp
    have hall := cntD_zero all.length (Nat.le_zero.1 hc)
    refine ⟨?_, done listed R μ a w hall s st kp⟩
    apply List.eq_nil_iff_forall_not_mem.2
    intro j hj
    obtain ⟨h1, o, ho, _⟩ := mem_ready.1 hj
    have hlt : j < all.length := by
      have := (Array.getElem?_eq_some_iff.1 ho).1
      simpa using this
    have h2 := hall j hlt
    have hlt2 : j < listed.size := by omega
    simp [hlt2] at h1 h2
    rw [h1] at h2
    cases h2
  | succ fuel ih =>
    intro listed R μ a w hsz hD hc s st kp
    refine ⟨fun hnil => done listed R μ a w (fun j hj => ?_) s st kp, fun i hi => ?_⟩
    · -- the least that is not listed would be ready
      induction j using Nat.strongRecOn with
      | _ j ihj =>
        cases hl : listed.getD j false with
        | true => rfl
        | false =>
          have hmem : j ∈ Region.ready .any all.toArray listed := by
            refine mem_ready.2 ⟨?_, all[j], by simp [hj], fun e he hb => ?_⟩
            · have hlt2 : j < listed.size := by omega
              simp [hlt2] at hl ⊢
              exact hl
            · have hlt := C.lt j all[j] (by simp [hj]) e (by simpa using he) hb
              exact ihj e.on hlt (by omega)
          rw [hnil] at hmem
          cases hmem
    · obtain ⟨h1, o, ho, hall⟩ := mem_ready.1 hi
      have ho' : all[i]? = some o := by simpa using ho
      have hlt : i < all.length := (List.getElem?_eq_some_iff.1 ho').1
      have hlt2 : i < listed.size := by omega
      have h1' : listed.getD i false = false := by simp [hlt2] at h1 ⊢; exact h1
      have hr : Ready all (fun j => listed.getD j false) i := ⟨h1', fun o2 ho2 e he hb => by
        rw [ho'] at ho2
        cases ho2
        exact hall e (by simpa using he) hb⟩
      have hupd : (fun j => (listed.setIfInBounds i true).getD j false) = updD (fun j => listed.getD j false) i := by
        funext j
        unfold updD
        by_cases e : j = i
        · subst e
          simp [hlt2]
        · rw [getD_set_ne false (fun e' => e e'.symm)]
          simp [e]
      have hv : ∃ v, vs[i]? = some v := ⟨vs[i]'(by rw [hp.len]; exact hlt), by simp [hp.len, hlt]⟩
      obtain ⟨v, hv⟩ := hv
      have hok := (hp.ops i o v hlt ho' hv).1
      have next : ∀ (R' : RO) (μ' : List Bind) (h' : List Ch) (a' : Act) (w' : World), h' = heapR (updD (fun j => listed.getD j false) i) hs hF → SR R' μ' (putA (putsD (fun j => listed.getD j false) all vs 0 tm0) o.dst v) h' a' w' → Step (ownH h0 μ0) R0 w0 (ownH h' μ') R' w' → Keeps k μ0 μ' → wpAny P .any all.toArray Q fuel (listed.setIfInBounds i true) a' w' := by
        intro R' μ' h' a' w' he s' st' kp'
        subst he
        rw [put_upd C hD ho' hr hv] at s'
        refine ih (listed.setIfInBounds i true) R' μ' a' w' (by simpa using hsz) ?_ ?_ ?_ ?_ kp'
        · rw [hupd]; exact hD.upd hr
        · rw [hupd]
          have := cntD_upd (D := fun j => listed.getD j false) h1' all.length hlt
          omega
        · rw [hupd]; exact s'
        · rw [hupd]; exact st'
      unfold wpOp
      simp only [ho]
      rcases hok with ⟨j, wv, t, g1, g2, g3, g4, g5⟩ | ⟨g1, g2⟩
      · have hag := agree C hD ho' hr (vs := vs) (tm0 := tm0) (x := t) (by simp [namesO, g1, g2])
        rw [← hag] at g3
        have hw := wanted_no g2 g3 s g1
        rw [hw, if_neg (by simp)]
        rw [g4] at next
        refine next R μ _ _ w (heapR_upd hs hF g5).symm ?_ ?_ kp
        · exact s.put o.dst .lit s.mem (RO.le.refl R) (Ext.refl μ)
        · exact st
      · have hw : Region.wanted o (yielded all.toArray a.tmps) = true := by
          rcases g1 with g1 | ⟨j, wv, t, k1, k2, k3⟩
          · simp [Region.wanted, g1]
          · have hag := agree C hD ho' hr (vs := vs) (tm0 := tm0) (x := t) (by simp [namesO, k1, k2])
            rw [k3] at hag
            rw [wanted_of k2 hag s k1]
            cases wv <;> rfl
        rw [if_pos hw]
        refine .inl ?_
        have hop : opK P o.op (putsD (fun j => listed.getD j false) all vs 0 tm0) (heapR (fun j => listed.getD j false) hs hF) (fun v' h' => v' = v ∧ h' = heapR (updD (fun j => listed.getD j false) i) hs hF) := by
          refine opK_congr (fun x hx => ?_) (g2 _ hD hr _ ⟨rfl, rfl⟩)
          cases x with
          | tmp t => exact (agree C hD ho' hr (vs := vs) (tm0 := tm0) (x := t) (by simp only [namesO, List.mem_append, List.mem_flatMap]; exact .inl ⟨.tmp t, by simpa using hx, by simp [tmpOf]⟩)).symm
          | const c => rfl
          | func f => rfl
          | global g => rfl
        refine Oper.wp_mono (fun a' w' haft => ?_) (opK_ok s.mem s.tm hop (Q := Q))
        obtain ⟨R', μ', h', av, u, ⟨rfl, he⟩, rfl, hru, H', hx, hst⟩ := haft
        exact next R' μ' h' _ w' he (s.put o.dst hru H' hst.ro hx) (st.trans hst) (kp.trans (Keeps.ext kp.len hx))

/-- the rule -/
theorem w_draw {k : Nat} {id : Nat} {l : List Oper} {tm : List AV} {h : List Ch} {q : Post} (hm : P.follows .mixedOrders = true) (hc : chkR l = true) (H : ∀ Fin : List AV → List Ch → Prop, (∀ tm h, q.n tm h → Fin tm h) → DW P l Fin l 0 tm h [] []) : Wp P k (.region id l.toArray true) tm h q :=
  ⟨fun R μ a w s hl => by
    have C := chkR_ok hc
    have hw := H q.n fun _ _ h => h
    have hp0 : Past P l h tm 0 tm h [] [] [] := ⟨rfl, by cases l <;> rfl, fun p hp => (by cases hp), rfl, fun j o v hj => by omega⟩
    obtain ⟨tm', h', ps', hs', vs', h1, h2⟩ := hw.data C (fun j => by simp) [] hp0
    rw [Nat.zero_add] at h2
    refine wp_region_any hm ?_
    have hget : ∀ j, (Array.replicate l.length false).getD j false = false := by
      intro j
      by_cases hj : j < l.length <;> simp [hj]
    have hD0 : (fun j => (Array.replicate l.toArray.size false).getD j false) = fun _ => false := by
      funext j
      simpa using hget j
    have e1 : putsD (fun j => (Array.replicate l.toArray.size false).getD j false) l vs' 0 tm = tm := by
      rw [hD0]
      have key : ∀ (os : List Oper) (vs : List AV) (i : Nat), putsD (fun _ => false) os vs i tm = tm := by
        intro os
        induction os with
        | nil => intro vs i; cases vs <;> rfl
        | cons o os ih =>
          intro vs i
          cases vs with
          | nil => rfl
          | cons v vs => simp [putsD, ih]
      exact key ..
    have sm := s.mem.same (w' := { w with drawn := w.drawn + 1 }) (fun _ _ => rfl) (Nat.le_refl _) rfl rfl rfl
    have hheap : heapR (fun j => (Array.replicate l.toArray.size false).getD j false) hs' h' = h := by
      rw [hD0]
      exact h2.first
    refine any_ok C (Q := EndQ k R μ h w q) (k := k) (R0 := R) (μ0 := μ) (h0 := h) (w0 := w) (fun R' μ' tm' h' a' w' s' st kp hk => ⟨R', μ', tm', h', s', st, kp, hk⟩) h1 h2 _ _ R μ a _ (by simp) ?_ ?_ ?_ ?_ (.refl hl)
    · rw [hD0]
      intro i hi
      cases hi
    · rw [hD0]
      have : ∀ n, cntD (fun _ => false) n ≤ n := by
        intro n
        induction n with
        | zero => exact Nat.le_refl _
        | succ n ih => simp only [cntD]; simp; exact ih
      simpa using this l.length
    · rw [e1, hheap]
      exact ⟨sm.1, s.tm, s.dfr⟩
    · rw [hheap]
      exact sm.2⟩
end Go.V
