/-
  archive: plain law of Add at any number of application processes.
  ArchiveParts: application processes are independent.
  From the arguments of a given statement to abstract values: what is read as data lies for good.
  The arguments of the statements of chapter 52 as abstract values.
-/
import Derived.Test.YtoohlpieakeecaaPart17
import Derived.ChangeArms
import Derived.ChangeShapes
import Derived.ChangeReads
import Derived.DataReads
import Derived.Below
import Derived.OpenShut
import Derived.RowKit
import Derived.Carry
set_option linter.unusedVariables false
set_option linter.unusedSimpArgs false
set_option maxRecDepth 100000
set_option maxHeartbeats 8000000
namespace Go.V
open Go.Proofs
def srtP (ps : List Prc) : Prop := ps.Pairwise fun p q => p.apid < q.apid
theorem splitP : ∀ (ps : List Prc) (a : Int), srtP ps → ∃ A B, ps = A ++ B ∧ (∀ p ∈ A, p.apid < a) ∧ (∀ p ∈ B, a ≤ p.apid) ∧ findP ps a = A.length
  | [], a, _ => ⟨[], [], rfl, by simp, by simp, rfl⟩
  | p :: ps, a, h => by
    obtain ⟨h1, h2⟩ := List.pairwise_cons.1 h
    by_cases c : a ≤ p.apid
    · refine ⟨[], p :: ps, rfl, by simp, fun q hq => ?_, if_pos c⟩
      rcases List.mem_cons.1 hq with rfl | hq
      · exact c
      · have := h1 q hq; omega
    · obtain ⟨A, B, e, g1, g2, g3⟩ := splitP ps a h2
      refine ⟨p :: A, B, by rw [e]; rfl, fun q hq => ?_, g2, ?_⟩
      · rcases List.mem_cons.1 hq with rfl | hq
        · omega
        · exact g1 q hq
      · show (if a ≤ p.apid then 0 else findP ps a + 1) = _
        rw [if_neg c, g3]; rfl
def lookP : List Prc → Int → List Ent
  | [], _ => []
  | p :: ps, a => if p.apid = a then p.list else lookP ps a
theorem lookP_skip {a : Int} {B : List Prc} : ∀ {A : List Prc}, (∀ p ∈ A, p.apid ≠ a) → lookP (A ++ B) a = lookP B a
  | [], _ => rfl
  | p :: A, h => by
    show (if p.apid = a then _ else lookP (A ++ B) a) = _
    rw [if_neg (h p (by simp)), lookP_skip fun q hq => h q (by simp [hq])]
theorem lookP_mid {a : Int} {x : Prc} {B : List Prc} (hx : x.apid ≠ a) : ∀ {A : List Prc}, lookP (A ++ x :: B) a = lookP (A ++ B) a
  | [] => by
    show (if x.apid = a then _ else lookP B a) = _
    rw [if_neg hx]; rfl
  | p :: A => by
    show (if p.apid = a then _ else lookP (A ++ x :: B) a) = (if p.apid = a then _ else lookP (A ++ B) a)
    rw [lookP_mid hx]
theorem lookP_none {a : Int} : ∀ {B : List Prc}, (∀ p ∈ B, p.apid ≠ a) → lookP B a = []
  | [], _ => rfl
  | p :: B, h => by
    show (if p.apid = a then _ else lookP B a) = _
    rw [if_neg (h p (by simp)), lookP_none fun q hq => h q (by simp [hq])]
theorem pAt_mid {A : List Prc} {b : Prc} {B : List Prc} : pAt (A ++ b :: B) A.length = b := by
  show (A ++ b :: B).getD A.length Prc.zero = b
  rw [List.getD_eq_getElem?_getD, List.getElem?_append_right (Nat.le_refl _), Nat.sub_self]; rfl
/-- what find says of a sorted list -/
theorem find_cases (ps : List Prc) (a : Int) (h : srtP ps) : (∃ A b B, ps = A ++ b :: B ∧ b.apid = a ∧ (∀ p ∈ A, p.apid < a) ∧ (∀ p ∈ B, a < p.apid) ∧ findP ps a = A.length ∧ isP ps a = true ∧ getP ps a = b.list ∧ lookP ps a = b.list) ∨
    (∃ A B, ps = A ++ B ∧ (∀ p ∈ A, p.apid < a) ∧ (∀ p ∈ B, a < p.apid) ∧ findP ps a = A.length ∧ isP ps a = false ∧ getP ps a = [] ∧ lookP ps a = []) := by
  obtain ⟨A, B, e, h1, h2, h3⟩ := splitP ps a h
  have hA : ∀ p ∈ A, p.apid ≠ a := fun p hp => by have := h1 p hp; omega
  cases B with
  | nil =>
    right
    have hi : isP ps a = false := by
      unfold isP
      rw [h3, e, List.append_nil]; simp
    refine ⟨A, [], e, h1, by simp, h3, hi, if_neg (by rw [hi]; decide), ?_⟩
    rw [e, lookP_skip hA]; rfl
  | cons b B =>
    have hs : srtP (b :: B) := by
      rw [e] at h
      exact (List.pairwise_append.1 h).2.1
    have hB : ∀ p ∈ B, b.apid < p.apid := (List.pairwise_cons.1 hs).1
    have hb := h2 b (by simp)
    by_cases c : b.apid = a
    · left
      have hi : isP ps a = true := by
        unfold isP
        rw [h3, e, pAt_mid]; simp [c]
      refine ⟨A, b, B, e, c, h1, fun p hp => by have := hB p hp; omega, h3, hi, ?_, ?_⟩
      · unfold getP
        rw [if_pos hi, h3, e, pAt_mid]
      · rw [e, lookP_skip hA]
        show (if b.apid = a then _ else _) = _
        rw [if_pos c]
    · right
      have hi : isP ps a = false := by
        unfold isP
        rw [h3, e, pAt_mid]; simp [c]
      have hb2 : ∀ p ∈ b :: B, a < p.apid := fun p hp => by
        rcases List.mem_cons.1 hp with rfl | hp
        · omega
        · have := hB p hp; omega
      refine ⟨A, b :: B, e, h1, hb2, h3, hi, if_neg (by rw [hi]; decide), ?_⟩
      rw [e, lookP_skip hA, lookP_none fun p hp => by have := hb2 p hp; omega]
theorem get_look {ps : List Prc} (h : srtP ps) (a : Int) : getP ps a = lookP ps a := by
  rcases find_cases ps a h with ⟨_, _, _, _, _, _, _, _, _, h1, h2⟩ | ⟨_, _, _, _, _, _, _, h1, h2⟩ <;> rw [h1, h2]
/-- a list that Add made of at most n packets -/
structure okL (xs : List Ent) (n : Nat) : Prop where
  pos : 0 < xs.length
  len : xs.length ≤ n
  all : ∀ x ∈ xs, (-(16384 * ((n : Int) + 1)) ≤ x.count ∧ x.count ≤ 16384 * ((n : Int) + 1)) ∧ x.data.length ≤ 4096
structure StP (ps : List Prc) (n : Nat) : Prop where
  srt : srtP ps
  len : ps.length ≤ n
  all : ∀ p ∈ ps, okL p.list n
theorem okL.mono {xs : List Ent} {n : Nat} (h : okL xs n) : okL xs (n + 1) :=
  ⟨h.pos, by have := h.len; omega, fun x hx => by have := h.all x hx; omega⟩
theorem ext_near (g c : Int) : g - 8192 ≤ ext g c ∧ ext g c ≤ g + 8192 := by
  unfold ext
  split <;> omega
theorem eAt_mem {xs : List Ent} {k : Nat} (h : k < xs.length) : eAt xs k ∈ xs := by
  show xs.getD k Ent.zero ∈ xs
  rw [List.getD_eq_getElem?_getD, List.getElem?_eq_getElem h]
  exact List.getElem_mem h
theorem addL_ok {i : Itm} {xs : List Ent} {n : Nat} (hr : rightB i = true) (h : xs = [] ∨ okL xs n) : okL (addL i xs).1 (n + 1) := by
  obtain ⟨-, -, r1, r2, -, -, r3⟩ := rightB_of hr
  rcases h with rfl | h
  · refine ⟨by show 0 < 1; decide, by show 1 ≤ n + 1; omega, fun x hx => ?_⟩
    have hx : x ∈ [newE i i.count] := hx
    rw [List.mem_singleton.1 hx]
    refine ⟨⟨?_, ?_⟩, ?_⟩
    · show -(16384 * (((n + 1 : Nat) : Int) + 1)) ≤ i.count; omega
    · show i.count ≤ 16384 * (((n + 1 : Nat) : Int) + 1); omega
    · show i.data.length ≤ 4096; omega
  · have hp := h.pos
    unfold addL
    rw [if_neg (by omega)]
    have hl := h.all _ (eAt_mem (xs := xs) (k := xs.length - 1) (by omega))
    have he := ext_near (eAt xs (xs.length - 1)).count i.count
    generalize ext (eAt xs (xs.length - 1)).count i.count = e at he ⊢
    unfold addQ
    split
    · exact h.mono
    · refine ⟨by show 0 < (xs.take _ ++ _ :: xs.drop _).length; rw [List.length_append, List.length_cons]; omega, ?_, fun x hx => ?_⟩
      · have h1 := posE_le xs e xs.length
        have h2 := h.len
        show (xs.take _ ++ _ :: xs.drop _).length ≤ n + 1
        rw [List.length_append, List.length_cons, List.length_take, List.length_drop]; omega
      · have hx : x ∈ xs.take (posE xs e xs.length) ++ newE i e :: xs.drop (posE xs e xs.length) := hx
        rcases List.mem_append.1 hx with hx | hx
        · have := h.all x (List.mem_of_mem_take hx); omega
        · rcases List.mem_cons.1 hx with rfl | hx
          · refine ⟨⟨?_, ?_⟩, ?_⟩
            · show -(16384 * (((n + 1 : Nat) : Int) + 1)) ≤ e; omega
            · show e ≤ 16384 * (((n + 1 : Nat) : Int) + 1); omega
            · show i.data.length ≤ 4096; omega
          · have := h.all x (List.mem_of_mem_drop hx); omega
theorem addL_nil (i : Itm) : addL i [] = ([newE i i.count], 0) := rfl
/-- Add, told once for old and new processes -/
theorem addM_form {i : Itm} {ps : List Prc} (h : srtP ps) (hr : rightB i = true) : ∃ A B X, ps = A ++ X ++ B ∧ (∀ p ∈ A, p.apid < i.apid) ∧ (∀ p ∈ B, i.apid < p.apid) ∧ (X = [] ∧ getP ps i.apid = [] ∨ ∃ b, X = [b] ∧ b.apid = i.apid ∧ getP ps i.apid = b.list) ∧
    addM i ps = (A ++ ⟨i.apid, (addL i (getP ps i.apid)).1⟩ :: B, (addL i (getP ps i.apid)).2) := by
  rcases find_cases ps i.apid h with ⟨A, b, B, e, hb, h1, h2, h3, h4, h5, h6⟩ | ⟨A, B, e, h1, h2, h3, h4, h5, h6⟩
  · refine ⟨A, B, [b], by rw [e]; simp, h1, h2, .inr ⟨b, rfl, hb, h5⟩, ?_⟩
    unfold addM
    rw [if_neg (by rw [hr]; decide), if_pos h4, h3]
    have : ps.set A.length ⟨i.apid, (addL i (getP ps i.apid)).1⟩ = A ++ ⟨i.apid, (addL i (getP ps i.apid)).1⟩ :: B := by
      conv => lhs; arg 1; rw [e]
      rw [List.set_append_right _ _ (Nat.le_refl _), Nat.sub_self]; rfl
    rw [this]
  · refine ⟨A, B, [], by rw [e]; simp, h1, h2, .inl ⟨rfl, h5⟩, ?_⟩
    unfold addM
    rw [if_neg (by rw [hr]; decide), if_neg (by rw [h4]; decide), h3, h5, addL_nil]
    have t1 : ps.take A.length = A := by rw [e, List.take_left']; rfl
    have t2 : ps.drop A.length = B := by rw [e, List.drop_left']; rfl
    rw [t1, t2]
theorem StP.get {ps : List Prc} {n : Nat} (h : StP ps n) (a : Int) : getP ps a = [] ∧ isP ps a = false ∨ okL (getP ps a) n ∧ isP ps a = true := by
  rcases find_cases ps a h.srt with ⟨A, b, B, e, hb, h1, h2, h3, h4, h5, h6⟩ | ⟨A, B, e, h1, h2, h3, h4, h5, h6⟩
  · exact .inr ⟨by rw [h5]; exact h.all b (by rw [e]; simp), h4⟩
  · exact .inl ⟨h5, h4⟩
theorem addM_ok {i : Itm} {ps : List Prc} {n : Nat} (h : StP ps n) : StP (addM i ps).1 (n + 1) := by
  cases hr : rightB i with
  | false =>
    unfold addM
    rw [if_pos hr]
    exact ⟨h.srt, by have := h.len; show ps.length ≤ n + 1; omega, fun p hp => (h.all p hp).mono⟩
  | true =>
    obtain ⟨A, B, X, e, h1, h2, hX, h3⟩ := addM_form h.srt hr
    rw [h3]
    have hl : ps.length = A.length + X.length + B.length := by rw [e, List.length_append, List.length_append]
    have hs := h.srt
    rw [e] at hs
    have hs1 := List.pairwise_append.1 hs
    have hs2 := List.pairwise_append.1 hs1.1
    have hy : okL (addL i (getP ps i.apid)).1 (n + 1) := addL_ok hr (by
      rcases h.get i.apid with q | q
      · exact .inl q.1
      · exact .inr q.1)
    refine ⟨?_, ?_, fun p hp => ?_⟩
    · refine List.pairwise_append.2 ⟨hs2.1, List.pairwise_cons.2 ⟨fun p hp => h2 p hp, hs1.2.1⟩, fun p hp q hq => ?_⟩
      have hp1 := h1 p hp
      rcases List.mem_cons.1 hq with rfl | hq
      · exact hp1
      · have := h2 q hq; omega
    · have := h.len
      show (A ++ _ :: B).length ≤ n + 1
      rw [List.length_append, List.length_cons]; omega
    · rcases List.mem_append.1 hp with hp | hp
      · exact (h.all p (by rw [e]; simp [hp])).mono
      · rcases List.mem_cons.1 hp with rfl | hp
        · exact hy
        · exact (h.all p (by rw [e]; simp [hp])).mono
theorem addM_get {i : Itm} {ps : List Prc} {n : Nat} (h : StP ps n) (b : Int) : getP (addM i ps).1 b = if rightB i = true ∧ i.apid = b then (addL i (getP ps b)).1 else getP ps b := by
  have h0 := addM_ok (i := i) h
  rw [get_look h0.srt]
  cases hr : rightB i with
  | false =>
    rw [if_neg (fun q => by cases q.1), get_look h.srt]
    unfold addM
    rw [if_pos hr]
  | true =>
    obtain ⟨A, B, X, e, h1, h2, hX, h3⟩ := addM_form h.srt hr
    rw [h3]
    have hA : ∀ p ∈ A, p.apid ≠ i.apid := fun p hp => by have := h1 p hp; omega
    by_cases c : i.apid = b
    · subst c
      rw [if_pos ⟨rfl, rfl⟩]
      show lookP (A ++ _ :: B) i.apid = _
      rw [lookP_skip hA]
      show (if i.apid = i.apid then _ else _) = _
      rw [if_pos rfl]
    · rw [if_neg (fun q => c q.2), get_look h.srt b]
      show lookP (A ++ _ :: B) b = _
      rw [lookP_mid (show i.apid ≠ b from c), e]
      rcases hX with ⟨rfl, -⟩ | ⟨x, rfl, hx, -⟩
      · rw [List.append_nil]
      · rw [List.append_assoc]
        show _ = lookP (A ++ x :: B) b
        rw [lookP_mid (show x.apid ≠ b by rw [hx]; exact c)]
theorem addM_res {i : Itm} {ps : List Prc} (h : srtP ps) : (addM i ps).2 = if rightB i = true then (addL i (getP ps i.apid)).2 else 1 := by
  cases hr : rightB i with
  | false =>
    unfold addM
    rw [if_pos hr, if_neg (by decide)]
  | true =>
    obtain ⟨A, B, X, e, h1, h2, hX, h3⟩ := addM_form h hr
    rw [h3, if_pos rfl]
theorem StP.nil : StP [] 0 := ⟨.nil, Nat.le_refl 0, fun p hp => by cases hp⟩
theorem StP.add {ps : List Prc} {n : Nat} (h : StP ps n) (hn : n ≤ 10000) : okAdd ps :=
  ⟨Nat.le_trans h.len (by omega), fun a hi => by
    rcases h.get a with q | ⟨q, -⟩
    · rw [q.2] at hi; cases hi
    · have q1 := q.pos
      have q2 := q.len
      have q3 := (q.all _ (eAt_mem (k := (getP ps a).length - 1) (by omega))).1
      refine ⟨q1, by omega, by omega, by omega⟩⟩
theorem StP.okM {ps : List Prc} {n : Nat} (h : StP ps n) (hn : n ≤ 10000) (a : Int) : okM ps a := by
  have key : ∀ k, (-1000000000 ≤ ((getP ps a).getD k Ent.zero).count ∧ ((getP ps a).getD k Ent.zero).count ≤ 1000000000) ∧ ((getP ps a).getD k Ent.zero).data.length ≤ 4096 := fun k => by
    by_cases c : k < (getP ps a).length
    · rcases h.get a with q | ⟨q, -⟩
      · rw [q.1] at c; cases c
      · have := q.all _ (eAt_mem c)
        rw [show eAt (getP ps a) k = (getP ps a).getD k Ent.zero from rfl] at this
        exact ⟨⟨by have := this.1.1; omega, by have := this.1.2; omega⟩, this.2⟩
    · rw [List.getD_eq_getElem?_getD, List.getElem?_eq_none (by omega)]
      exact ⟨⟨by decide, by decide⟩, by decide⟩
  refine ⟨Nat.le_trans h.len (by omega), fun hi => ?_, ⟨?_, fun k => ?_⟩, fun k => ?_⟩
  · rcases h.get a with q | ⟨q, -⟩
    · rw [q.2] at hi; cases hi
    · exact q.pos
  · rcases h.get a with q | ⟨q, -⟩
    · rw [q.1]; exact Nat.zero_le _
    · have := q.len; omega
  · have := key k; omega
  · have := key k; omega
end Go.V

set_option maxRecDepth 100000
set_option maxHeartbeats 8000000
namespace Go.V
open Go.Proofs
attribute [-go_sem] AE AO
def aK (l : List Itm) : Nat → List Prc
  | 0 => []
  | k + 1 => (addM (l.getD k Itm.zero) (aK l k)).1
def bK (l : List Itm) (a : Int) : Nat → List Prc
  | 0 => []
  | k + 1 => if (l.getD k Itm.zero).apid = a then (addM (l.getD k Itm.zero) (bK l a k)).1 else bK l a k
theorem aK_ok (l : List Itm) : ∀ k, StP (aK l k) k
  | 0 => .nil
  | k + 1 => addM_ok (aK_ok l k)
theorem StP.mono {ps : List Prc} {n : Nat} (h : StP ps n) : StP ps (n + 1) := ⟨h.srt, by have := h.len; omega, fun p hp => (h.all p hp).mono⟩
theorem bK_ok (l : List Itm) (a : Int) : ∀ k, StP (bK l a k) k
  | 0 => .nil
  | k + 1 => by
    show StP (if (l.getD k Itm.zero).apid = a then (addM (l.getD k Itm.zero) (bK l a k)).1 else bK l a k) (k + 1)
    split
    · exact addM_ok (bK_ok l a k)
    · exact (bK_ok l a k).mono
theorem ab_get (l : List Itm) (a : Int) : ∀ k, getP (aK l k) a = getP (bK l a k) a
  | 0 => rfl
  | k + 1 => by
    have ih := ab_get l a k
    show getP (addM (l.getD k Itm.zero) (aK l k)).1 a = getP (if (l.getD k Itm.zero).apid = a then (addM (l.getD k Itm.zero) (bK l a k)).1 else bK l a k) a
    rw [addM_get (aK_ok l k)]
    by_cases c : (l.getD k Itm.zero).apid = a
    · rw [if_pos c, addM_get (bK_ok l a k), ih]
    · rw [if_neg c, if_neg (fun q => c q.2), ih]
theorem ab_is (l : List Itm) (a : Int) (k : Nat) : isP (aK l k) a = isP (bK l a k) a := by
  have e := ab_get l a k
  rcases (aK_ok l k).get a with ⟨q1, q2⟩ | ⟨q1, q2⟩ <;> rcases (bK_ok l a k).get a with ⟨r1, r2⟩ | ⟨r1, r2⟩
  · rw [q2, r2]
  · have := r1.pos; rw [← e, q1] at this; cases this
  · have := q1.pos; rw [e, r1] at this; cases this
  · rw [q2, r2]
theorem gaps_len (xs : List Ent) : (gapsF xs).length ≤ xs.length + 1 := by
  by_cases c : xs.length = 0
  · unfold gapsF
    rw [if_pos c]; exact Nat.zero_le _
  · rw [← gapK_all (by omega)]
    exact gapK_len xs _ (Nat.le_refl _)
theorem b_parts (l : List Itm) (a : Int) (hln : l.length ≤ 9223372036854775807) :
    DoesK Try.prog 0 4 [.ro .itm l, .int .i64 a] [] (EndF 0 (.bool true) []) := by
  refine DoesK.close ?_
  have hro : RoLit := .mk
  refine w_body (rs := [.tmp 4]) (tm := [.ro .itm l, .int .i64 a, .any, .any, .any, .any, .any, .any, .any, .any, .any, .any, .any, .any, .any, .any, .any, .any, .any, .any, .any, .any, .any, .any, .any, .any, .any, .any, .any, .any, .any, .any, .any, .any, .any, .any, .any, .any, .any, .any, .any, .any, .any, .any, .any, .any, .any, .any, .any, .any, .any, .any, .any, .any, .any, .any, .any, .any, .any, .any, .any, .any, .any]) fn_4 rfl rfl rfl rfl fun R hR => ?_
  cases hf : fewB l with
  | false =>
    (have zx1 := @hf; all_goals (try ((first | (with_reducible refine wp_id ?_) | (with_reducible refine does_id ?_) | (with_reducible refine ops_id ?_)); refine walk ?_; (repeat' (first | exact trivial | with_reducible refine And.intro ?_ ?_)); all_goals (repeat (first | (with_reducible refine ImpB.mk fun hb => ?_) | (with_reducible refine ImpK.mk fun hK => ?_) | (with_reducible refine ImpF.mk fun hF => ?_) | (with_reducible refine ImpQ.mk fun hp => ?_) | (with_reducible refine AllE.mk fun p => ?_) | (with_reducible refine AllR.mk fun rest => ?_) | (with_reducible refine AllK.mk fun K => ?_))))); repeat' (with_reducible refine And.intro ?_ ?_))
    (focus (refine ⟨_, _, Gh.refl, [], rfl, ?_⟩; (refine fitq ?_ ?_ ?_ <;> try exact trivial); (try any_goals (refine ⟨?_, ?_⟩)); (try any_goals (with_reducible rfl))))
    all_goals (repeat' (first | (refine And.intro ?_ ?_) | rfl))
  | true =>
    obtain ⟨hl80, -⟩ := few_of hf
    (have zx1 := @hf; all_goals (try ((first | (with_reducible refine wp_id ?_) | (with_reducible refine does_id ?_) | (with_reducible refine ops_id ?_)); refine walk ?_; (repeat' (first | exact trivial | with_reducible refine And.intro ?_ ?_)); all_goals (repeat (first | (with_reducible refine ImpB.mk fun hb => ?_) | (with_reducible refine ImpK.mk fun hK => ?_) | (with_reducible refine ImpF.mk fun hF => ?_) | (with_reducible refine ImpQ.mk fun hp => ?_) | (with_reducible refine AllE.mk fun p => ?_) | (with_reducible refine AllR.mk fun rest => ?_) | (with_reducible refine AllK.mk fun K => ?_))))); repeat' (with_reducible refine And.intro ?_ ?_))
    any_goals ((try (refine w_seq fun K hK => ?_)); (try (refine w_block ?_)); refine w_loop (A := Nat) (fun k => k ≤ l.length) (fun k => l.length - k) (fun k => [(7, .int .i64 k)]) (fun k => [(0, .pack (AM (aK l k))), (1, .pack (AM (bK l a k)))]) (0) (ws := ?ws1) (tk := ?tk1) ?hw1 ?ht1 ?hi ?h0 ?LH1; (case hw1 => simp only [go_sem, decide_true, decide_false, Int.reduceToNat, Nat.min_eq_left, Nat.min_eq_right, Int.reducePow, Nat.reducePow, Int.reduceLE, Int.reduceLT, Int.reduceMul, Int.reduceAdd, Int.reduceSub, Int.reduceNeg, Bool.not_true, Bool.not_false, Bool.not_not, ↓reduceIte, Nat.reduceAdd, Nat.reduceSub, Nat.reduceMul, Nat.reduceEqDiff, reduceCtorEq, Nat.reduceLT, Nat.reduceLeDiff, Nat.reduceGT]; exact rfl); (case ht1 => simp only [go_sem, decide_true, decide_false, Int.reduceToNat, Nat.min_eq_left, Nat.min_eq_right, Int.reducePow, Nat.reducePow, Int.reduceLE, Int.reduceLT, Int.reduceMul, Int.reduceAdd, Int.reduceSub, Int.reduceNeg, Bool.not_true, Bool.not_false, Bool.not_not, ↓reduceIte, Nat.reduceAdd, Nat.reduceSub, Nat.reduceMul, Nat.reduceEqDiff, reduceCtorEq, Nat.reduceLT, Nat.reduceLeDiff, Nat.reduceGT]; exact rfl); (case' LH1 => rintro k E t hx hE ht; simp only [go_sem] at ht; subst ht; simp only [go_sem]; try dsimp only at hx))
    case hi => exact Nat.zero_le _
    case h0 =>
      (focus (refine ⟨_, _, Gh.refl, [0, 1], rfl, ?_⟩; (refine fitq ?_ ?_ ?_ <;> try exact trivial); (try any_goals (refine ⟨?_, ?_⟩)); (try any_goals (with_reducible rfl))))
      all_goals (repeat' (first | (refine And.intro ?_ ?_) | rfl))
    case LH1 =>
      have hk0 : k ≤ l.length := hx
      have oA := (aK_ok l k).add (by omega)
      have oB := (bK_ok l a k).add (by omega)
      have mA := (aK_ok l k).okM (by omega) a
      have mB := (bK_ok l a k).okM (by omega) a
      have gAB := ab_get l a k
      by_cases hk : k < l.length
      · have hkd : decide ((k : Int) < (l.length : Int)) = true := decide_eq_true (by omega)
        have hw : IntKind.i64.wrap ((k : Int) + 1) = ((k + 1 : Nat) : Int) := by rw [wrap_i64 _ (by omega) (by omega)]; omega
        obtain ⟨x, hxx⟩ : ∃ x, l.getD k Itm.zero = x := ⟨_, rfl⟩
        have hA0 := addM_res (i := x) (aK_ok l k).srt
        have hA1 : aK l (k + 1) = (addM x (aK l k)).1 := by rw [← hxx]; rfl
        obtain ⟨r, hr⟩ : ∃ r, (addM x (aK l k)).2 = r := ⟨_, rfl⟩
        have e3 : addM ⟨x.apid, x.count, x.time, x.data⟩ (aK l k) = (aK l (k + 1), r) := by rw [hA1, ← hr]
        by_cases hc : x.apid = a
        · have hcd : decide (x.apid = a) = true := decide_eq_true hc
          have hB0 := addM_res (i := x) (bK_ok l a k).srt
          have hB1 : bK l a (k + 1) = (addM x (bK l a k)).1 := by
            rw [← hxx]
            show (if (l.getD k Itm.zero).apid = a then _ else _) = _
            rw [hxx, if_pos hc]
          have e4 : addM ⟨x.apid, x.count, x.time, x.data⟩ (bK l a k) = (bK l a (k + 1), r) := by
            rw [hB1]
            have : (addM x (bK l a k)).2 = r := by rw [hB0, ← hr, hA0, hc, gAB]
            rw [← this]
          have hrr : decide (¬ r = r) = false := decide_eq_false fun q => q rfl
          (have zx1 := @hkd; have zx2 := @hw; have zx3 := @hxx; have zx4 := @hcd; have zx5 := @hrr; all_goals (try ((first | (with_reducible refine wp_id ?_) | (with_reducible refine does_id ?_) | (with_reducible refine ops_id ?_)); refine walk ?_; (repeat' (first | exact trivial | with_reducible refine And.intro ?_ ?_)); all_goals (repeat (first | (with_reducible refine ImpB.mk fun hb => ?_) | (with_reducible refine ImpK.mk fun hK => ?_) | (with_reducible refine ImpF.mk fun hF => ?_) | (with_reducible refine ImpQ.mk fun hp => ?_) | (with_reducible refine AllE.mk fun p => ?_) | (with_reducible refine AllR.mk fun rest => ?_) | (with_reducible refine AllK.mk fun K => ?_))))); repeat' (with_reducible refine And.intro ?_ ?_))
          any_goals first | exact Int.natCast_nonneg _ | (show (k : Int) < (l.length : Int); omega) | (show k < l.length; omega)
          (all_goals first | exact Int.natCast_nonneg _ | exact Int.ofNat_lt.2 (by assumption) | assumption | omega | exact Nat.le_refl _ | (exfalso; simp at hb; done) | (simp only [go_sem, decide_true, decide_false, Int.reduceToNat, Nat.min_eq_left, Nat.min_eq_right, Int.reducePow, Nat.reducePow, Int.reduceLE, Int.reduceLT, Int.reduceMul, Int.reduceAdd, Int.reduceSub, Int.reduceNeg, Bool.not_true, Bool.not_false, Bool.not_not, ↓reduceIte, Nat.reduceAdd, Nat.reduceSub, Nat.reduceMul, Nat.reduceEqDiff, reduceCtorEq, Nat.reduceLT, Nat.reduceLeDiff, Nat.reduceGT]; done) | (unfold capM; omega) | (simp only [List.length_drop, List.length_take, List.length_append, List.length_cons, List.length_nil]; omega) | skip)
          refine ⟨k + 1, ⟨(by omega : k + 1 ≤ l.length), (by first | omega | (dsimp only; omega))⟩, ?_⟩
          (focus (refine ⟨_, _, Gh.refl, [0, 1], rfl, ?_⟩; (refine fitq ?_ ?_ ?_ <;> try exact trivial); (try any_goals (refine ⟨?_, ?_⟩)); (try any_goals (with_reducible rfl))))
          all_goals (repeat' (first | (refine And.intro ?_ ?_) | rfl))
        · have hcd : decide (x.apid = a) = false := decide_eq_false hc
          have hB1 : bK l a (k + 1) = bK l a k := by
            show (if (l.getD k Itm.zero).apid = a then _ else _) = _
            rw [hxx, if_neg hc]
          (have zx1 := @hkd; have zx2 := @hw; have zx3 := @hxx; have zx4 := @hcd; all_goals (try ((first | (with_reducible refine wp_id ?_) | (with_reducible refine does_id ?_) | (with_reducible refine ops_id ?_)); refine walk ?_; (repeat' (first | exact trivial | with_reducible refine And.intro ?_ ?_)); all_goals (repeat (first | (with_reducible refine ImpB.mk fun hb => ?_) | (with_reducible refine ImpK.mk fun hK => ?_) | (with_reducible refine ImpF.mk fun hF => ?_) | (with_reducible refine ImpQ.mk fun hp => ?_) | (with_reducible refine AllE.mk fun p => ?_) | (with_reducible refine AllR.mk fun rest => ?_) | (with_reducible refine AllK.mk fun K => ?_))))); repeat' (with_reducible refine And.intro ?_ ?_))
          any_goals first | exact Int.natCast_nonneg _ | (show (k : Int) < (l.length : Int); omega) | (show k < l.length; omega)
          (all_goals first | exact Int.natCast_nonneg _ | exact Int.ofNat_lt.2 (by assumption) | assumption | omega | exact Nat.le_refl _ | (exfalso; simp at hb; done) | (simp only [go_sem, decide_true, decide_false, Int.reduceToNat, Nat.min_eq_left, Nat.min_eq_right, Int.reducePow, Nat.reducePow, Int.reduceLE, Int.reduceLT, Int.reduceMul, Int.reduceAdd, Int.reduceSub, Int.reduceNeg, Bool.not_true, Bool.not_false, Bool.not_not, ↓reduceIte, Nat.reduceAdd, Nat.reduceSub, Nat.reduceMul, Nat.reduceEqDiff, reduceCtorEq, Nat.reduceLT, Nat.reduceLeDiff, Nat.reduceGT]; done) | (unfold capM; omega) | (simp only [List.length_drop, List.length_take, List.length_append, List.length_cons, List.length_nil]; omega) | skip)
          refine ⟨k + 1, ⟨(by omega : k + 1 ≤ l.length), (by first | omega | (dsimp only; omega))⟩, ?_⟩
          dsimp only
          rw [hB1]
          (focus (refine ⟨_, _, Gh.refl, [0, 1], rfl, ?_⟩; (refine fitq ?_ ?_ ?_ <;> try exact trivial); (try any_goals (refine ⟨?_, ?_⟩)); (try any_goals (with_reducible rfl))))
          all_goals (repeat' (first | (refine And.intro ?_ ?_) | rfl))
      · have hkd : decide ((k : Int) < (l.length : Int)) = false := decide_eq_false (by omega)
        have hII := ab_is l a k
        have hLx := (aK_ok l k).get a
        generalize aK l k = psA at *
        generalize bK l a k = psB at *
        obtain ⟨X, gA⟩ : ∃ X, getP psA a = X := ⟨_, rfl⟩
        have gB : getP psB a = X := by rw [← gAB]; exact gA
        have hXl : X.length ≤ 10000 := by
          rw [gA] at hLx
          rcases hLx with q | q
          · rw [q.1]; exact Nat.zero_le _
          · have := q.1.len; omega
        have hgl : (gapsF X).length ≤ 1099511627776 := Nat.le_trans (gaps_len X) (by omega)
        have hml : (X.map toI).length ≤ 1099511627776 := by rw [List.length_map]; omega
        have hd1 : decide (gapsF X = gapsF X) = true := decide_eq_true rfl
        have hd2 : decide (X.map toI = X.map toI) = true := decide_eq_true rfl
        cases hi : isP psA a with
        | true =>
          have hiB : isP psB a = true := by rw [← hII]; exact hi
          (have zx1 := @hkd; have zx2 := @gA; have zx3 := @gB; have zx4 := @hd1; have zx5 := @hd2; all_goals (try ((first | (with_reducible refine wp_id ?_) | (with_reducible refine does_id ?_) | (with_reducible refine ops_id ?_)); refine walk ?_; (repeat' (first | exact trivial | with_reducible refine And.intro ?_ ?_)); all_goals (repeat (first | (with_reducible refine ImpB.mk fun hb => ?_) | (with_reducible refine ImpK.mk fun hK => ?_) | (with_reducible refine ImpF.mk fun hF => ?_) | (with_reducible refine ImpQ.mk fun hp => ?_) | (with_reducible refine AllE.mk fun p => ?_) | (with_reducible refine AllR.mk fun rest => ?_) | (with_reducible refine AllK.mk fun K => ?_))))); repeat' (with_reducible refine And.intro ?_ ?_))
          (all_goals first | exact Int.natCast_nonneg _ | exact Int.ofNat_lt.2 (by assumption) | assumption | omega | exact Nat.le_refl _ | (exfalso; simp at hb; done) | (simp only [go_sem, decide_true, decide_false, Int.reduceToNat, Nat.min_eq_left, Nat.min_eq_right, Int.reducePow, Nat.reducePow, Int.reduceLE, Int.reduceLT, Int.reduceMul, Int.reduceAdd, Int.reduceSub, Int.reduceNeg, Bool.not_true, Bool.not_false, Bool.not_not, ↓reduceIte, Nat.reduceAdd, Nat.reduceSub, Nat.reduceMul, Nat.reduceEqDiff, reduceCtorEq, Nat.reduceLT, Nat.reduceLeDiff, Nat.reduceGT]; done) | (unfold capM; omega) | (simp only [List.length_drop, List.length_take, List.length_append, List.length_cons, List.length_nil]; omega) | skip)
          (focus (refine ⟨_, _, Gh.refl, [], rfl, ?_⟩; (refine fitq ?_ ?_ ?_ <;> try exact trivial); (try any_goals (refine ⟨?_, ?_⟩)); (try any_goals (with_reducible rfl))))
          all_goals (repeat' (first | (refine And.intro ?_ ?_) | rfl))
        | false =>
          have hiB : isP psB a = false := by rw [← hII]; exact hi
          have hXn : X = [] := by
            rcases hLx with q | q
            · rw [← gA]; exact q.1
            · rw [q.2] at hi; cases hi
          subst hXn
          (have zx1 := @hkd; have zx2 := @gA; have zx3 := @gB; have zx4 := @hd1; all_goals (try ((first | (with_reducible refine wp_id ?_) | (with_reducible refine does_id ?_) | (with_reducible refine ops_id ?_)); refine walk ?_; (repeat' (first | exact trivial | with_reducible refine And.intro ?_ ?_)); all_goals (repeat (first | (with_reducible refine ImpB.mk fun hb => ?_) | (with_reducible refine ImpK.mk fun hK => ?_) | (with_reducible refine ImpF.mk fun hF => ?_) | (with_reducible refine ImpQ.mk fun hp => ?_) | (with_reducible refine AllE.mk fun p => ?_) | (with_reducible refine AllR.mk fun rest => ?_) | (with_reducible refine AllK.mk fun K => ?_))))); repeat' (with_reducible refine And.intro ?_ ?_))
          (all_goals first | exact Int.natCast_nonneg _ | exact Int.ofNat_lt.2 (by assumption) | assumption | omega | exact Nat.le_refl _ | (exfalso; simp at hb; done) | (simp only [go_sem, decide_true, decide_false, Int.reduceToNat, Nat.min_eq_left, Nat.min_eq_right, Int.reducePow, Nat.reducePow, Int.reduceLE, Int.reduceLT, Int.reduceMul, Int.reduceAdd, Int.reduceSub, Int.reduceNeg, Bool.not_true, Bool.not_false, Bool.not_not, ↓reduceIte, Nat.reduceAdd, Nat.reduceSub, Nat.reduceMul, Nat.reduceEqDiff, reduceCtorEq, Nat.reduceLT, Nat.reduceLeDiff, Nat.reduceGT]; done) | (unfold capM; omega) | (simp only [List.length_drop, List.length_take, List.length_append, List.length_cons, List.length_nil]; omega) | skip)
          (focus (refine ⟨_, _, Gh.refl, [], rfl, ?_⟩; (refine fitq ?_ ?_ ?_ <;> try exact trivial); (try any_goals (refine ⟨?_, ?_⟩)); (try any_goals (with_reducible rfl))))
          all_goals (repeat' (first | (refine And.intro ?_ ?_) | rfl))
end Go.V

namespace Go.V
/-- all that lies in the memory at the start lies for good -/
def oldR (w : World) : RO := fun b => w.heap[b]?
theorem old_ok (w : World) : HOk (oldR w) [] [] w := ⟨trivial, by simp [ownH], fun b hb => by simp [ownH] at hb, fun _ _ h => h⟩
theorem cell_of {w : World} {a : Addr} {v : Value} (h : w.cell? a = some v) : a.spot = none ∧ ∃ arr ty fr, w.heap[a.block]? = some (.cells arr ty fr) ∧ arr[a.off]? = some v := by
  unfold World.cell? at h
  split at h
  · rename_i c ty fr hc
    split at h
    · simp at h
    · rename_i hs
      exact ⟨by simpa using hs, c, ty, fr, hc, h⟩
  · simp at h
theorem add_block (a : Addr) (i : Nat) : (a.add i).block = a.block := by
  unfold Addr.add
  split <;> rfl
theorem add_off (a : Addr) (i : Nat) : (a.add i).off = a.off + i := by
  unfold Addr.add
  split
  · simp_all
  · rfl
/-- some cells in a row -/
theorem cells_of {w : World} {base : Nat} {a : Addr} {n : Nat} {cs : List Value} (h : w.cells? base a n = some cs) (hn : 0 < n) : a.spot = none ∧ ∃ arr ty fr, w.heap[a.block]? = some (.cells arr ty fr) ∧ (arr.toList.drop a.off).take n = cs := by
  obtain ⟨_, hl, hg⟩ := World.cells?_some h
  have h0 := hg 0 hn
  rw [List.getElem?_eq_getElem (by omega)] at h0
  obtain ⟨hs, arr, ty, fr, hb, _⟩ := cell_of h0
  rw [add_block] at hb
  refine ⟨by simpa [Addr.add] using hs, arr, ty, fr, hb, ?_⟩
  apply List.ext_getElem?
  intro i
  by_cases hi : i < n
  · have h1 := hg i hi
    rw [List.getElem?_eq_getElem (show i < cs.length by omega)] at h1
    obtain ⟨_, arr', ty', fr', hb', h2⟩ := cell_of h1
    rw [add_block, hb] at hb'
    cases hb'
    rw [add_off] at h2
    rw [List.getElem?_take_of_lt hi, List.getElem?_drop, List.getElem?_eq_getElem (show i < cs.length by omega)]
    simpa using h2
  · rw [List.getElem?_eq_none (by simp; omega), List.getElem?_eq_none (by omega)]
/-- a type: what reads as data of it lies as one of these lists of abstract values -/
def Opens (P : Program) (w : World) (t : TypeId) (S : List AV → Prop) : Prop :=
  ∀ (H : Type) (enc : TypeId × Value → H) (base : Nat) (spare : Nat → Bool) (held : Bool) (fuel : Nat) (cs : List Value) (x : DataW H × List MemPlace), DataW.trod enc P w base spare held fuel t cs = some x → ∃ l, S l ∧ LRel (oldR w) [] l cs
section
variable {P : Program} {w : World}
theorem Opens.mono {t : TypeId} {S S' : List AV → Prop} (h : Opens P w t S) (hs : ∀ l, S l → S' l) : Opens P w t S' := fun H enc base spare held fuel cs x hx => by
  obtain ⟨l, h1, h2⟩ := h H enc base spare held fuel cs x hx
  exact ⟨l, hs l h1, h2⟩
theorem Opens.int {t : TypeId} {k : IntKind} (ht : P.underlying t = some (.int k)) : Opens P w t fun l => ∃ n, k.has n ∧ l = [.int k n] := fun H enc base spare held fuel cs x hx => by
  cases fuel with
  | zero => simp [DataW.trod] at hx
  | succ fuel =>
    unfold DataW.trod at hx
    simp only [ht] at hx
    split at hx
    all_goals first | (rename_i h1 _; cases h1; done) | skip
    all_goals simp_all
    rename_i k' n h1
    subst h1
    obtain ⟨⟨rfl, h2⟩, _⟩ := hx
    exact ⟨_, ⟨n, by simpa [Lit.wf, IntKind.has] using h2, rfl⟩, .cons .int .nil⟩
theorem Opens.struct {t : TypeId} {fs : Array Field} {Ss : List (List AV → Prop)} (ht : P.underlying t = some (.struct fs)) (hl : fs.size = Ss.length)
    (hS : ∀ (i : Nat) (f : Field) (S : List AV → Prop), fs[i]? = some f → Ss[i]? = some S → Opens P w f.type S)
    (hoff : ∀ (i : Nat) (f : Field), fs[i]? = some f → f.offset = ((fs.toList.take i).map fun g => P.cellsOf g.type).sum) (hsz : P.cellsOf t = (fs.toList.map fun g => P.cellsOf g.type).sum) :
    Opens P w t fun l => ∃ ls : List (List AV), ls.length = Ss.length ∧ (∀ (i : Nat) (S : List AV → Prop) (m : List AV), Ss[i]? = some S → ls[i]? = some m → S m) ∧ l = ls.flatten := fun H enc base spare held fuel cs x hx => by
  obtain ⟨xs, n, _, _, hlen, hxs, hf⟩ := DataW.trod_struct ht hx
  have key : ∀ k, k ≤ fs.size → ∃ ls : List (List AV), ls.length = k ∧ (∀ (i : Nat) (S : List AV → Prop) (m : List AV), Ss[i]? = some S → ls[i]? = some m → S m) ∧ LRel (oldR w) [] ls.flatten (cs.take (((fs.toList.take k).map fun g => P.cellsOf g.type).sum)) := by
    intro k
    induction k with
    | zero => intro _; exact ⟨[], rfl, fun i S m _ h => by simp at h, by simp; exact .nil⟩
    | succ k ih =>
      intro hk
      obtain ⟨ls, h1, h2, h3⟩ := ih (by omega)
      have hfk : fs[k]? = some fs[k] := by simp [show k < fs.size by omega]
      have hSk : Ss[k]? = some (Ss[k]'(by omega)) := by simp [show k < Ss.length by omega]
      have hx := hf k _ hfk
      rw [List.getElem?_eq_getElem (by omega)] at hx
      obtain ⟨m, h4, h5⟩ := hS k _ _ hfk hSk H enc base spare held n _ _ hx
      refine ⟨ls ++ [m], by simp [h1], fun i S m' hS' hm' => ?_, ?_⟩
      · by_cases hi : i < ls.length
        · rw [List.getElem?_append_left hi] at hm'
          exact h2 i S m' hS' hm'
        · have : i = k := by
            have := (List.getElem?_eq_some_iff.1 hm').1
            simp at this
            omega
          subst this
          rw [List.getElem?_append_right (by omega), h1] at hm'
          simp at hm'
          subst hm'
          rw [hSk] at hS'
          cases hS'
          exact h4
      · rw [List.flatten_append, List.flatten_singleton, List.take_succ_eq_append_getElem (show k < fs.toList.length by simp; omega), List.map_append, List.sum_append, List.take_add]
        rw [hoff k _ hfk] at h5
        have e : fs.toList[k] = fs[k] := by simp
        rw [e]
        simp only [List.map_cons, List.map_nil, List.sum_cons, List.sum_nil, Nat.add_zero]
        exact h3.app h5
  obtain ⟨ls, h1, h2, h3⟩ := key fs.size (Nat.le_refl _)
  refine ⟨ls.flatten, ⟨ls, by omega, h2, rfl⟩, ?_⟩
  rw [List.take_of_length_le (l := fs.toList) (by simp), ← hsz, ← hlen, List.take_length] at h3
  exact h3
def OpL (P : Program) (w : World) : List Field → List (List AV → Prop) → Prop
  | [], [] => True
  | f :: fs, S :: Ss => Opens P w f.type S ∧ OpL P w fs Ss
  | _, _ => False
def offB (P : Program) : List Field → Nat → Bool
  | [], _ => true
  | f :: fs, n => (f.offset == n) && offB P fs (n + P.cellsOf f.type)
theorem OpL.len : ∀ {fs : List Field} {Ss : List (List AV → Prop)}, OpL P w fs Ss → fs.length = Ss.length
  | [], [], _ => rfl
  | _ :: _, _ :: _, h => by simp [OpL.len h.2]
  | [], _ :: _, h => h.elim
  | _ :: _, [], h => h.elim
theorem OpL.get : ∀ {fs : List Field} {Ss : List (List AV → Prop)} (i : Nat) {f : Field} {S : List AV → Prop}, OpL P w fs Ss → fs[i]? = some f → Ss[i]? = some S → Opens P w f.type S
  | _ :: _, _ :: _, 0, _, _, h, e1, e2 => by simp at e1 e2; subst e1; subst e2; exact h.1
  | _ :: _, _ :: _, i + 1, _, _, h, e1, e2 => OpL.get i h.2 (by simpa using e1) (by simpa using e2)
  | [], [], _, _, _, _, e1, _ => by simp at e1
  | [], _ :: _, _, _, _, h, _, _ => h.elim
  | _ :: _, [], _, _, _, h, _, _ => h.elim
theorem offB_get : ∀ {fs : List Field} {n : Nat} (i : Nat) {f : Field}, offB P fs n = true → fs[i]? = some f → f.offset = n + ((fs.take i).map fun g => P.cellsOf g.type).sum
  | _ :: _, _, 0, _, h, e => by
    simp at e
    subst e
    simp only [offB, Bool.and_eq_true, beq_iff_eq] at h
    simpa using h.1
  | g :: fs, n, i + 1, _, h, e => by
    simp only [offB, Bool.and_eq_true, beq_iff_eq] at h
    have := offB_get i h.2 (by simpa using e)
    simp only [List.take_succ_cons, List.map_cons, List.sum_cons]
    omega
  | [], _, _, _, _, e => by simp at e
/-- a struct's fields lie one behind the other -/
theorem Opens.fields {t : TypeId} {fl : List Field} {Ss : List (List AV → Prop)} (ht : P.underlying t = some (.struct fl.toArray)) (hS : OpL P w fl Ss) (ho : offB P fl 0 = true) (hsz : P.cellsOf t = (fl.map fun g => P.cellsOf g.type).sum) :
    Opens P w t fun l => ∃ ls : List (List AV), ls.length = Ss.length ∧ (∀ (i : Nat) (S : List AV → Prop) (m : List AV), Ss[i]? = some S → ls[i]? = some m → S m) ∧ l = ls.flatten :=
  Opens.struct ht (by simpa using hS.len) (fun i f S h1 h2 => hS.get i (by simpa using h1) h2) (fun i f h => by simpa using offB_get i ho (by simpa using h)) hsz
/-- slices: of the kind of elements e, each as `ok` says -/
theorem Opens.slice {t te : TypeId} {e : Ety} {S : List AV → Prop} {ok : e.T → Prop} (ht : P.underlying t = some (.slice te)) (hsz : P.cellsOf te = e.sz) (he : Opens P w te S) (hok : ∀ l, S l → ∃ x : e.T, e.enc x = l ∧ ok x) :
    Opens P w t fun l => ∃ xs : List e.T, xs.length ≤ maxLen ∧ (∀ x ∈ xs, ok x) ∧ l = [.ro e xs] := fun H enc base spare held fuel cs x hx => by
  rcases DataW.trod_slice ht hx with ⟨rfl, _⟩ | ⟨a, len, cap, elems, rest, n, _, rfl, _, _, hlc, hcm, hel, hg, _⟩
  · exact ⟨[.ro e []], ⟨[], by simp, by simp, rfl⟩, .cons (.ro0 (Nat.zero_le _)) .nil⟩
  · by_cases h0 : len = 0
    · subst h0
      exact ⟨[.ro e []], ⟨[], by simp, by simp, rfl⟩, .cons (.ro0 hcm) .nil⟩
    · have hz := e.sz_pos
      have each : ∀ i, i < len → ∃ (m : e.T) (cs' : List Value), ok m ∧ LRel (oldR w) [] (e.enc m) cs' ∧ w.cells? base (a.add (i * e.sz)) e.sz = some cs' := by
        intro i hi
        have h1 := hg i hi
        rw [List.getElem?_eq_getElem (by omega), hsz] at h1
        obtain ⟨cs', h2, h3⟩ := Option.bind_eq_some_iff.1 h1
        obtain ⟨l, h4, h5⟩ := he H enc base spare held n _ _ h3
        obtain ⟨m, rfl, h6⟩ := hok l h4
        exact ⟨m, cs', h6, h5, h2⟩
      obtain ⟨_, _, _, _, hc0⟩ := each 0 (by omega)
      obtain ⟨hs, arr, ty, fr, hb, _⟩ := cells_of hc0 hz
      have hs0 : a.spot = none := by
        rw [Nat.zero_mul] at hs
        simpa [Addr.add] using hs
      rw [add_block] at hb
      have key : ∀ k, k ≤ len → ∃ xs : List e.T, xs.length = k ∧ (∀ x ∈ xs, ok x) ∧ LRel (oldR w) [] (xs.flatMap e.enc) ((arr.toList.drop a.off).take (k * e.sz)) := by
        intro k
        induction k with
        | zero => intro _; exact ⟨[], rfl, by simp, by simp; exact .nil⟩
        | succ k ih =>
          intro hk
          obtain ⟨xs, h1, h2, h3⟩ := ih (by omega)
          obtain ⟨m, cs', h4, h5, h6⟩ := each k (by omega)
          obtain ⟨_, arr', ty', fr', hb', h7⟩ := cells_of h6 hz
          rw [add_block, hb] at hb'
          cases hb'
          rw [add_off] at h7
          refine ⟨xs ++ [m], by simp [h1], fun x hx => ?_, ?_⟩
          · rcases List.mem_append.1 hx with hx | hx
            · exact h2 x hx
            · rw [List.mem_singleton] at hx
              subst hx
              exact h4
          · rw [List.flatMap_append, List.flatMap_singleton, Nat.succ_mul, List.take_add, List.drop_drop, h7]
            exact h3.app h5
      obtain ⟨xs, h1, h2, h3⟩ := key len (Nat.le_refl _)
      refine ⟨[.ro e xs], ⟨xs, by omega, h2, rfl⟩, .cons ?_ .nil⟩
      obtain ⟨ab, ao, sp⟩ := a
      simp only at hs0
      subst hs0
      rw [← h1]
      exact .ro hb (by rw [h1]; exact h3) (by omega) hcm
/-! ### Arguments -/
def OpensV (P : Program) (w : World) (t : TypeId) (S : AV → Prop) : Prop :=
  ∀ (H : Type) (enc : TypeId × Value → H) (r : Reach) (b0 : Nat) (v : Value) (d : DataW H) (p : List MemPlace), Value.okWide P w r b0 t v → DataW.Trod enc P w 0 (fun _ => true) true t v d p → ∃ a, S a ∧ Rel (oldR w) [] a v
theorem Opens.arg1 {t : TypeId} {S : List AV → Prop} (h : Opens P w t S) (ht : ∀ v r b0, Value.okWide P w r b0 t v → v.cells = #[v]) : OpensV P w t fun a => S [a] := fun H enc r b0 v d p hv hd => by
  obtain ⟨fuel, hd⟩ := hd
  obtain ⟨l, h1, h2⟩ := h H enc _ _ _ fuel _ _ hd
  rw [ht v r b0 hv] at h2
  cases h2 with
  | cons h3 h4 =>
    cases h4
    exact ⟨_, h1, h3⟩
theorem one_of {t : TypeId} {u : TypeDesc} (ht : P.underlying t = some u) (hu : (match u with | .bool | .int _ | .string | .slice _ => true | _ => false) = true) (v : Value) (r : Reach) (b0 : Nat) (hv : Value.okWide P w r b0 t v) : v.cells = #[v] := by
  unfold Value.okWide at hv
  cases u <;> simp at hu <;> simp only [ht] at hv <;> unfold Cell.okWide Cell.ok at hv <;> simp only [ht] at hv <;> cases v <;> first | rfl | (simp at hv; done)
end
/-- a call over nothing but what lies for good leaves what lay there as it is -/
theorem does_calls {P : Program} {g : FuncId} {xs : List AV} {S : AV → Prop} {vs : List Value} {w : World} (H : Does P g xs [] fun a _ => S a) (hr : LRel (oldR w) [] xs vs) : Calls P g vs.toArray w fun e w' => (∃ v a R μ, e = .returned v ∧ S a ∧ Rel R μ a v) ∧ Go.RowKit.Below w.heap.size w w' :=
  (H.run (oldR w) [] w vs hr (old_ok w)).mono fun e w' hx => by
    obtain ⟨v, R', μ', h', av, rfl, h1, h2, _, _, h3⟩ := hx
    exact ⟨⟨v, av, R', μ', rfl, h1, h2⟩, h3.os, h3.tape, h3.output, h3.size, fun k hk => h3.out k hk (by simp [ownH])⟩
theorem does_true {P : Program} {g : FuncId} {xs : List AV} {vs : List Value} {w : World} (H : Does P g xs [] fun a _ => a = .bool true) (hr : LRel (oldR w) [] xs vs) : Calls P g vs.toArray w fun e w' => e = .returned (.bool true) ∧ Go.RowKit.Below w.heap.size w w' :=
  (does_calls H hr).mono fun e w' hx => by
    obtain ⟨⟨v, a, R, μ, rfl, rfl, h2⟩, hb⟩ := hx
    cases h2
    exact ⟨rfl, hb⟩
end Go.V

set_option maxRecDepth 100000
namespace Go.V
open Go.Proofs
theorem byte_enc {n : Int} (h : IntKind.u8.has n) : Ety.enc .byte (UInt8.ofNat n.toNat) = [.int .u8 n] := by
  have h1 : 0 ≤ n ∧ n ≤ 255 := h
  have : ((UInt8.ofNat n.toNat).toNat : Int) = n := by simp; omega
  show [AV.int .u8 ((UInt8.ofNat n.toNat).toNat : Int)] = _
  rw [this]
def okE_byte (x : Ety.T .byte) : Prop := True
def okS_Itm (x : Itm) : Prop := IntKind.i64.has x.apid ∧ IntKind.i64.has x.count ∧ IntKind.i64.has x.time ∧ (x.data.length ≤ maxLen ∧ ∀ y ∈ x.data, okE_byte y)
theorem op_T3 (w : World) : Opens Try.prog w 3 fun l => ∃ n, IntKind.i64.has n ∧ l = [.int .i64 n] := Opens.int Try.underlying3
theorem op_T5 (w : World) : Opens Try.prog w 5 fun l => ∃ n, IntKind.u8.has n ∧ l = [.int .u8 n] := Opens.int Try.underlying5
theorem op_T29 (w : World) : Opens Try.prog w 29 fun l => ∃ xs : List (Ety.T .byte), xs.length ≤ maxLen ∧ (∀ x ∈ xs, okE_byte x) ∧ l = [.ro .byte xs] :=
  Opens.slice (e := .byte) (ok := okE_byte) Try.underlying29 (by kernel_rfl) (op_T5 w) fun l ⟨n, h, e⟩ => ⟨UInt8.ofNat n.toNat, by rw [e]; exact byte_enc h, trivial⟩
theorem op_T31 (w : World) : Opens Try.prog w 31 fun l => ∃ x : Itm, okS_Itm x ∧ l = [.int .i64 x.apid, .int .i64 x.count, .int .i64 x.time, .ro .byte x.data] := by
  refine (Opens.fields Try.underlying31 (Ss := [_, _, _, _]) ⟨op_T3 w, op_T3 w, op_T3 w, op_T29 w, trivial⟩ (by kernel_rfl) (by kernel_rfl)).mono ?_
  rintro l ⟨ls, h1, h2, rfl⟩
  obtain ⟨a0, a1, a2, a3, rfl⟩ : ∃ a0 a1 a2 a3, ls = [a0, a1, a2, a3] := by
    match ls, h1 with
    | [a0, a1, a2, a3], _ => exact ⟨a0, a1, a2, a3, rfl⟩
  obtain ⟨x0, h10, rfl⟩ := h2 0 _ _ rfl rfl
  obtain ⟨x1, h11, rfl⟩ := h2 1 _ _ rfl rfl
  obtain ⟨x2, h12, rfl⟩ := h2 2 _ _ rfl rfl
  obtain ⟨x3, h13, g13, rfl⟩ := h2 3 _ _ rfl rfl
  exact ⟨⟨x0, x1, x2, x3⟩, ⟨h10, h11, h12, ⟨h13, g13⟩⟩, rfl⟩
def okE_itm (x : Ety.T .itm) : Prop := okS_Itm x
theorem op_T40 (w : World) : Opens Try.prog w 40 fun l => ∃ xs : List (Ety.T .itm), xs.length ≤ maxLen ∧ (∀ x ∈ xs, okE_itm x) ∧ l = [.ro .itm xs] :=
  Opens.slice (e := .itm) (ok := okE_itm) Try.underlying40 (by kernel_rfl) (op_T31 w) fun l ⟨x, h, e⟩ => ⟨x, e.symm, h⟩
theorem arg_T40 (w : World) : OpensV Try.prog w 40 fun a => ∃ xs : List (Ety.T .itm), xs.length ≤ maxLen ∧ (∀ x ∈ xs, okE_itm x) ∧ a = .ro .itm xs := fun H enc r b0 v d p hv hd => by
  obtain ⟨a, ⟨n, h1, h2, e⟩, h⟩ := (op_T40 w).arg1 (one_of Try.underlying40 rfl) H enc r b0 v d p hv hd
  cases e
  exact ⟨_, ⟨n, h1, h2, rfl⟩, h⟩
theorem arg_T3 (w : World) : OpensV Try.prog w 3 fun a => ∃ n, IntKind.i64.has n ∧ a = .int .i64 n := fun H enc r b0 v d p hv hd => by
  obtain ⟨a, ⟨n, h1, e⟩, h⟩ := (op_T3 w).arg1 (one_of Try.underlying3 rfl) H enc r b0 v d p hv hd
  cases e
  exact ⟨_, ⟨n, h1, rfl⟩, h⟩
/-- a law that was walked -/
theorem law_true {g : FuncId} {la : List AV} {vs : List Value} {w : World} (H : DoesK Try.prog 0 g la [] (EndF 0 (.bool true) [])) (hb : brL [] [] la la) (hr : LRel (oldR w) [] la vs) : Calls Try.prog g vs.toArray w fun e w' => e = .returned (.bool true) ∧ Go.RowKit.Below w.heap.size w w' :=
  does_true (frame_pure H hb (.inr rfl) (fun _ => rfl) rfl) hr
end Go.V
