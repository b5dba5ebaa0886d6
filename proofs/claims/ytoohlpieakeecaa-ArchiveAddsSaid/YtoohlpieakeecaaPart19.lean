/-
  archive: plain law of Add at any number of application processes.
  archive: Clone at any number of application processes.
  archive: Len at any number of application processes.
-/
import Derived.Test.YtoohlpieakeecaaPart18
set_option linter.unusedVariables false
set_option linter.unusedSimpArgs false
set_option maxRecDepth 100000
set_option maxHeartbeats 8000000
namespace Go.V
open Go.Proofs
def srtP (ps : List Prc) : Prop := ps.Pairwise fun p q => p.apid < q.apid
theorem splitP : ∀ (ps : List Prc) (a : Int), srtP ps → ∃ A B, ps = A ++ B ∧ (∀ p ∈ A, p.apid < a) ∧ (∀ p ∈ B, a ≤ p.apid) ∧ findP ps a = A.length
  | [], a, _ => ⟨[], [], rfl, by simp, by simp, rfl⟩
  | p :: ps, a, h => by
    obtain ⟨h1, h2⟩ := List.pairwise_cons.1 h
    by_cases c : a ≤ p.apid
    · refine ⟨[], p :: ps, rfl, by simp, fun q hq => ?_, if_pos c⟩
      rcases List.mem_cons.1 hq with rfl | hq
      · exact c
      · have := h1 q hq; omega
    · obtain ⟨A, B, e, g1, g2, g3⟩ := splitP ps a h2
      refine ⟨p :: A, B, by rw [e]; rfl, fun q hq => ?_, g2, ?_⟩
      · rcases List.mem_cons.1 hq with rfl | hq
        · omega
        · exact g1 q hq
      · show (if a ≤ p.apid then 0 else findP ps a + 1) = _
        rw [if_neg c, g3]; rfl
def lookP : List Prc → Int → List Ent
  | [], _ => []
  | p :: ps, a => if p.apid = a then p.list else lookP ps a
theorem lookP_skip {a : Int} {B : List Prc} : ∀ {A : List Prc}, (∀ p ∈ A, p.apid ≠ a) → lookP (A ++ B) a = lookP B a
  | [], _ => rfl
  | p :: A, h => by
    show (if p.apid = a then _ else lookP (A ++ B) a) = _
    rw [if_neg (h p (by simp)), lookP_skip fun q hq => h q (by simp [hq])]
theorem lookP_mid {a : Int} {x : Prc} {B : List Prc} (hx : x.apid ≠ a) : ∀ {A : List Prc}, lookP (A ++ x :: B) a = lookP (A ++ B) a
  | [] => by
    show (if x.apid = a then _ else lookP B a) = _
    rw [if_neg hx]; rfl
  | p :: A => by
    show (if p.apid = a then _ else lookP (A ++ x :: B) a) = (if p.apid = a then _ else lookP (A ++ B) a)
    rw [lookP_mid hx]
theorem lookP_none {a : Int} : ∀ {B : List Prc}, (∀ p ∈ B, p.apid ≠ a) → lookP B a = []
  | [], _ => rfl
  | p :: B, h => by
    show (if p.apid = a then _ else lookP B a) = _
    rw [if_neg (h p (by simp)), lookP_none fun q hq => h q (by simp [hq])]
theorem pAt_mid {A : List Prc} {b : Prc} {B : List Prc} : pAt (A ++ b :: B) A.length = b := by
  show (A ++ b :: B).getD A.length Prc.zero = b
  rw [List.getD_eq_getElem?_getD, List.getElem?_append_right (Nat.le_refl _), Nat.sub_self]; rfl
/-- what find says of a sorted list -/
theorem find_cases (ps : List Prc) (a : Int) (h : srtP ps) : (∃ A b B, ps = A ++ b :: B ∧ b.apid = a ∧ (∀ p ∈ A, p.apid < a) ∧ (∀ p ∈ B, a < p.apid) ∧ findP ps a = A.length ∧ isP ps a = true ∧ getP ps a = b.list ∧ lookP ps a = b.list) ∨
    (∃ A B, ps = A ++ B ∧ (∀ p ∈ A, p.apid < a) ∧ (∀ p ∈ B, a < p.apid) ∧ findP ps a = A.length ∧ isP ps a = false ∧ getP ps a = [] ∧ lookP ps a = []) := by
  obtain ⟨A, B, e, h1, h2, h3⟩ := splitP ps a h
  have hA : ∀ p ∈ A, p.apid ≠ a := fun p hp => by have := h1 p hp; omega
  cases B with
  | nil =>
    right
    have hi : isP ps a = false := by
      unfold isP
      rw [h3, e, List.append_nil]; simp
    refine ⟨A, [], e, h1, by simp, h3, hi, if_neg (by rw [hi]; decide), ?_⟩
    rw [e, lookP_skip hA]; rfl
  | cons b B =>
    have hs : srtP (b :: B) := by
      rw [e] at h
      exact (List.pairwise_append.1 h).2.1
    have hB : ∀ p ∈ B, b.apid < p.apid := (List.pairwise_cons.1 hs).1
    have hb := h2 b (by simp)
    by_cases c : b.apid = a
    · left
      have hi : isP ps a = true := by
        unfold isP
        rw [h3, e, pAt_mid]; simp [c]
      refine ⟨A, b, B, e, c, h1, fun p hp => by have := hB p hp; omega, h3, hi, ?_, ?_⟩
      · unfold getP
        rw [if_pos hi, h3, e, pAt_mid]
      · rw [e, lookP_skip hA]
        show (if b.apid = a then _ else _) = _
        rw [if_pos c]
    · right
      have hi : isP ps a = false := by
        unfold isP
        rw [h3, e, pAt_mid]; simp [c]
      have hb2 : ∀ p ∈ b :: B, a < p.apid := fun p hp => by
        rcases List.mem_cons.1 hp with rfl | hp
        · omega
        · have := hB p hp; omega
      refine ⟨A, b :: B, e, h1, hb2, h3, hi, if_neg (by rw [hi]; decide), ?_⟩
      rw [e, lookP_skip hA, lookP_none fun p hp => by have := hb2 p hp; omega]
theorem get_look {ps : List Prc} (h : srtP ps) (a : Int) : getP ps a = lookP ps a := by
  rcases find_cases ps a h with ⟨_, _, _, _, _, _, _, _, _, h1, h2⟩ | ⟨_, _, _, _, _, _, _, h1, h2⟩ <;> rw [h1, h2]
/-- a list that Add made of at most n packets -/
structure okL (xs : List Ent) (n : Nat) : Prop where
  pos : 0 < xs.length
  len : xs.length ≤ n
  all : ∀ x ∈ xs, (-(16384 * ((n : Int) + 1)) ≤ x.count ∧ x.count ≤ 16384 * ((n : Int) + 1)) ∧ x.data.length ≤ 4096
structure StP (ps : List Prc) (n : Nat) : Prop where
  srt : srtP ps
  len : ps.length ≤ n
  all : ∀ p ∈ ps, okL p.list n
theorem okL.mono {xs : List Ent} {n : Nat} (h : okL xs n) : okL xs (n + 1) :=
  ⟨h.pos, by have := h.len; omega, fun x hx => by have := h.all x hx; omega⟩
theorem ext_near (g c : Int) : g - 8192 ≤ ext g c ∧ ext g c ≤ g + 8192 := by
  unfold ext
  split <;> omega
theorem eAt_mem {xs : List Ent} {k : Nat} (h : k < xs.length) : eAt xs k ∈ xs := by
  show xs.getD k Ent.zero ∈ xs
  rw [List.getD_eq_getElem?_getD, List.getElem?_eq_getElem h]
  exact List.getElem_mem h
theorem addL_ok {i : Itm} {xs : List Ent} {n : Nat} (hr : rightB i = true) (h : xs = [] ∨ okL xs n) : okL (addL i xs).1 (n + 1) := by
  obtain ⟨-, -, r1, r2, -, -, r3⟩ := rightB_of hr
  rcases h with rfl | h
  · refine ⟨by show 0 < 1; decide, by show 1 ≤ n + 1; omega, fun x hx => ?_⟩
    have hx : x ∈ [newE i i.count] := hx
    rw [List.mem_singleton.1 hx]
    refine ⟨⟨?_, ?_⟩, ?_⟩
    · show -(16384 * (((n + 1 : Nat) : Int) + 1)) ≤ i.count; omega
    · show i.count ≤ 16384 * (((n + 1 : Nat) : Int) + 1); omega
    · show i.data.length ≤ 4096; omega
  · have hp := h.pos
    unfold addL
    rw [if_neg (by omega)]
    have hl := h.all _ (eAt_mem (xs := xs) (k := xs.length - 1) (by omega))
    have he := ext_near (eAt xs (xs.length - 1)).count i.count
    generalize ext (eAt xs (xs.length - 1)).count i.count = e at he ⊢
    unfold addQ
    split
    · exact h.mono
    · refine ⟨by show 0 < (xs.take _ ++ _ :: xs.drop _).length; rw [List.length_append, List.length_cons]; omega, ?_, fun x hx => ?_⟩
      · have h1 := posE_le xs e xs.length
        have h2 := h.len
        show (xs.take _ ++ _ :: xs.drop _).length ≤ n + 1
        rw [List.length_append, List.length_cons, List.length_take, List.length_drop]; omega
      · have hx : x ∈ xs.take (posE xs e xs.length) ++ newE i e :: xs.drop (posE xs e xs.length) := hx
        rcases List.mem_append.1 hx with hx | hx
        · have := h.all x (List.mem_of_mem_take hx); omega
        · rcases List.mem_cons.1 hx with rfl | hx
          · refine ⟨⟨?_, ?_⟩, ?_⟩
            · show -(16384 * (((n + 1 : Nat) : Int) + 1)) ≤ e; omega
            · show e ≤ 16384 * (((n + 1 : Nat) : Int) + 1); omega
            · show i.data.length ≤ 4096; omega
          · have := h.all x (List.mem_of_mem_drop hx); omega
theorem addL_nil (i : Itm) : addL i [] = ([newE i i.count], 0) := rfl
/-- Add, told once for old and new processes -/
theorem addM_form {i : Itm} {ps : List Prc} (h : srtP ps) (hr : rightB i = true) : ∃ A B X, ps = A ++ X ++ B ∧ (∀ p ∈ A, p.apid < i.apid) ∧ (∀ p ∈ B, i.apid < p.apid) ∧ (X = [] ∧ getP ps i.apid = [] ∨ ∃ b, X = [b] ∧ b.apid = i.apid ∧ getP ps i.apid = b.list) ∧
    addM i ps = (A ++ ⟨i.apid, (addL i (getP ps i.apid)).1⟩ :: B, (addL i (getP ps i.apid)).2) := by
  rcases find_cases ps i.apid h with ⟨A, b, B, e, hb, h1, h2, h3, h4, h5, h6⟩ | ⟨A, B, e, h1, h2, h3, h4, h5, h6⟩
  · refine ⟨A, B, [b], by rw [e]; simp, h1, h2, .inr ⟨b, rfl, hb, h5⟩, ?_⟩
    unfold addM
    rw [if_neg (by rw [hr]; decide), if_pos h4, h3]
    have : ps.set A.length ⟨i.apid, (addL i (getP ps i.apid)).1⟩ = A ++ ⟨i.apid, (addL i (getP ps i.apid)).1⟩ :: B := by
      conv => lhs; arg 1; rw [e]
      rw [List.set_append_right _ _ (Nat.le_refl _), Nat.sub_self]; rfl
    rw [this]
  · refine ⟨A, B, [], by rw [e]; simp, h1, h2, .inl ⟨rfl, h5⟩, ?_⟩
    unfold addM
    rw [if_neg (by rw [hr]; decide), if_neg (by rw [h4]; decide), h3, h5, addL_nil]
    have t1 : ps.take A.length = A := by rw [e, List.take_left']; rfl
    have t2 : ps.drop A.length = B := by rw [e, List.drop_left']; rfl
    rw [t1, t2]
theorem StP.get {ps : List Prc} {n : Nat} (h : StP ps n) (a : Int) : getP ps a = [] ∧ isP ps a = false ∨ okL (getP ps a) n ∧ isP ps a = true := by
  rcases find_cases ps a h.srt with ⟨A, b, B, e, hb, h1, h2, h3, h4, h5, h6⟩ | ⟨A, B, e, h1, h2, h3, h4, h5, h6⟩
  · exact .inr ⟨by rw [h5]; exact h.all b (by rw [e]; simp), h4⟩
  · exact .inl ⟨h5, h4⟩
theorem addM_ok {i : Itm} {ps : List Prc} {n : Nat} (h : StP ps n) : StP (addM i ps).1 (n + 1) := by
  cases hr : rightB i with
  | false =>
    unfold addM
    rw [if_pos hr]
    exact ⟨h.srt, by have := h.len; show ps.length ≤ n + 1; omega, fun p hp => (h.all p hp).mono⟩
  | true =>
    obtain ⟨A, B, X, e, h1, h2, hX, h3⟩ := addM_form h.srt hr
    rw [h3]
    have hl : ps.length = A.length + X.length + B.length := by rw [e, List.length_append, List.length_append]
    have hs := h.srt
    rw [e] at hs
    have hs1 := List.pairwise_append.1 hs
    have hs2 := List.pairwise_append.1 hs1.1
    have hy : okL (addL i (getP ps i.apid)).1 (n + 1) := addL_ok hr (by
      rcases h.get i.apid with q | q
      · exact .inl q.1
      · exact .inr q.1)
    refine ⟨?_, ?_, fun p hp => ?_⟩
    · refine List.pairwise_append.2 ⟨hs2.1, List.pairwise_cons.2 ⟨fun p hp => h2 p hp, hs1.2.1⟩, fun p hp q hq => ?_⟩
      have hp1 := h1 p hp
      rcases List.mem_cons.1 hq with rfl | hq
      · exact hp1
      · have := h2 q hq; omega
    · have := h.len
      show (A ++ _ :: B).length ≤ n + 1
      rw [List.length_append, List.length_cons]; omega
    · rcases List.mem_append.1 hp with hp | hp
      · exact (h.all p (by rw [e]; simp [hp])).mono
      · rcases List.mem_cons.1 hp with rfl | hp
        · exact hy
        · exact (h.all p (by rw [e]; simp [hp])).mono
theorem addM_get {i : Itm} {ps : List Prc} {n : Nat} (h : StP ps n) (b : Int) : getP (addM i ps).1 b = if rightB i = true ∧ i.apid = b then (addL i (getP ps b)).1 else getP ps b := by
  have h0 := addM_ok (i := i) h
  rw [get_look h0.srt]
  cases hr : rightB i with
  | false =>
    rw [if_neg (fun q => by cases q.1), get_look h.srt]
    unfold addM
    rw [if_pos hr]
  | true =>
    obtain ⟨A, B, X, e, h1, h2, hX, h3⟩ := addM_form h.srt hr
    rw [h3]
    have hA : ∀ p ∈ A, p.apid ≠ i.apid := fun p hp => by have := h1 p hp; omega
    by_cases c : i.apid = b
    · subst c
      rw [if_pos ⟨rfl, rfl⟩]
      show lookP (A ++ _ :: B) i.apid = _
      rw [lookP_skip hA]
      show (if i.apid = i.apid then _ else _) = _
      rw [if_pos rfl]
    · rw [if_neg (fun q => c q.2), get_look h.srt b]
      show lookP (A ++ _ :: B) b = _
      rw [lookP_mid (show i.apid ≠ b from c), e]
      rcases hX with ⟨rfl, -⟩ | ⟨x, rfl, hx, -⟩
      · rw [List.append_nil]
      · rw [List.append_assoc]
        show _ = lookP (A ++ x :: B) b
        rw [lookP_mid (show x.apid ≠ b by rw [hx]; exact c)]
theorem addM_res {i : Itm} {ps : List Prc} (h : srtP ps) : (addM i ps).2 = if rightB i = true then (addL i (getP ps i.apid)).2 else 1 := by
  cases hr : rightB i with
  | false =>
    unfold addM
    rw [if_pos hr, if_neg (by decide)]
  | true =>
    obtain ⟨A, B, X, e, h1, h2, hX, h3⟩ := addM_form h hr
    rw [h3, if_pos rfl]
theorem StP.nil : StP [] 0 := ⟨.nil, Nat.le_refl 0, fun p hp => by cases hp⟩
theorem StP.add {ps : List Prc} {n : Nat} (h : StP ps n) (hn : n ≤ 10000) : okAdd ps :=
  ⟨Nat.le_trans h.len (by omega), fun a hi => by
    rcases h.get a with q | ⟨q, -⟩
    · rw [q.2] at hi; cases hi
    · have q1 := q.pos
      have q2 := q.len
      have q3 := (q.all _ (eAt_mem (k := (getP ps a).length - 1) (by omega))).1
      refine ⟨q1, by omega, by omega, by omega⟩⟩
theorem StP.okM {ps : List Prc} {n : Nat} (h : StP ps n) (hn : n ≤ 10000) (a : Int) : okM ps a := by
  have key : ∀ k, (-1000000000 ≤ ((getP ps a).getD k Ent.zero).count ∧ ((getP ps a).getD k Ent.zero).count ≤ 1000000000) ∧ ((getP ps a).getD k Ent.zero).data.length ≤ 4096 := fun k => by
    by_cases c : k < (getP ps a).length
    · rcases h.get a with q | ⟨q, -⟩
      · rw [q.1] at c; cases c
      · have := q.all _ (eAt_mem c)
        rw [show eAt (getP ps a) k = (getP ps a).getD k Ent.zero from rfl] at this
        exact ⟨⟨by have := this.1.1; omega, by have := this.1.2; omega⟩, this.2⟩
    · rw [List.getD_eq_getElem?_getD, List.getElem?_eq_none (by omega)]
      exact ⟨⟨by decide, by decide⟩, by decide⟩
  refine ⟨Nat.le_trans h.len (by omega), fun hi => ?_, ⟨?_, fun k => ?_⟩, fun k => ?_⟩
  · rcases h.get a with q | ⟨q, -⟩
    · rw [q.2] at hi; cases hi
    · exact q.pos
  · rcases h.get a with q | ⟨q, -⟩
    · rw [q.1]; exact Nat.zero_le _
    · have := q.len; omega
  · have := key k; omega
  · have := key k; omega
end Go.V

set_option maxRecDepth 100000
set_option maxHeartbeats 8000000
namespace Go.V
open Go.Proofs
attribute [-go_sem] AE AO
theorem k_clP {n0 : Nat} {h : List Ch} {K : KT} {t n : Nat} {xs : List AV} (o : hth h t = .crow xs) (hx : xs.length = n * 2) (hn : n ≤ 1000000) (hc : okCells xs) (hn0 : 0 < n) (H : K (.csl (h.length + 1) n 2) (h ++ [.gone, .crow xs])) : DoesK Try.prog n0 44 [.csl t n 2] h K := by
  have htl : t < h.length := hth_lt (by rw [o]; simp)
  have t1 : ∀ l, hth (h ++ l) t = .crow xs := fun l => by rw [hth_app htl, o]
  have t2 := symH h
  have t3 : xs.take (n * 2) = xs := List.take_of_length_le (by omega)
  have t4 : ¬ h.length = t := by omega
  refine w_body (rs := [.tmp 2]) (tm := [.csl t n 2, .any, .any, .any, .any, .any, .any, .any]) fn_44 rfl rfl rfl rfl fun R hR => ?_
  (have zx1 := @o; have zx2 := @t1; have zx3 := @t2; have zx4 := @t3; have zx5 := @t4; have zx6 := @hx; all_goals (try ((first | (with_reducible refine wp_id ?_) | (with_reducible refine does_id ?_) | (with_reducible refine ops_id ?_)); refine walk ?_; (repeat' (first | exact trivial | with_reducible refine And.intro ?_ ?_)); all_goals (repeat (first | (with_reducible refine ImpB.mk fun hb => ?_) | (with_reducible refine ImpK.mk fun hK => ?_) | (with_reducible refine ImpF.mk fun hF => ?_) | (with_reducible refine ImpQ.mk fun hp => ?_) | (with_reducible refine AllE.mk fun p => ?_) | (with_reducible refine AllR.mk fun rest => ?_) | (with_reducible refine AllK.mk fun K => ?_))))); repeat' (with_reducible refine And.intro ?_ ?_))
  all_goals first | exact ⟨_, rfl⟩ | exact Nat.le_refl _ | exact hn0 | exact H | exact hc | (show n * 32 ≤ 140737488355328; omega) | (show n ≤ (_ : Nat); omega) | skip
theorem c_clP {h : List Ch} {K : KT} {t n : Nat} {xs : List AV} (H : K (.csl (h.length + 1) n 2) (h ++ [.gone, .crow xs])) (o : hth h t = .crow xs) (s1 : xs.length = n * 2) (s2 : n ≤ 1000000) (s3 : okCells xs) (s4 : 0 < n) : Does Try.prog 44 [.csl t n 2] h K := Does.of_K (k_clP o s1 s2 s3 s4 H)
abbrev i_clP := Ctr.mk (i := 0) (g := 44) @c_clP
attribute [instance] i_clP
theorem b_clE (l : List Ent) (hl : l.length ≤ 1000000) : DoesK Try.prog 1 45 [.sl 0 .ent 0 l.length] [.rows .ent l] (EndF 1 (.sl 1 .ent 0 l.length) ([.rows .ent l] ++ [.rows .ent l])) := by
  refine DoesK.close ?_
  refine w_body (rs := [.tmp 2]) (tm := [.sl 0 .ent 0 l.length, .any, .any, .any, .any, .any, .any, .any]) fn_45 rfl rfl rfl rfl fun R hR => ?_
  (all_goals (try ((first | (with_reducible refine wp_id ?_) | (with_reducible refine does_id ?_) | (with_reducible refine ops_id ?_)); refine walk ?_; (repeat' (first | exact trivial | with_reducible refine And.intro ?_ ?_)); all_goals (repeat (first | (with_reducible refine ImpB.mk fun hb => ?_) | (with_reducible refine ImpK.mk fun hK => ?_) | (with_reducible refine ImpF.mk fun hF => ?_) | (with_reducible refine ImpQ.mk fun hp => ?_) | (with_reducible refine AllE.mk fun p => ?_) | (with_reducible refine AllR.mk fun rest => ?_) | (with_reducible refine AllK.mk fun K => ?_))))); repeat' (with_reducible refine And.intro ?_ ?_))
  any_goals first | (show l.length * 56 ≤ 140737488355328; omega) | (show l.length ≤ (_ : Nat); omega)
  (all_goals first | exact Int.natCast_nonneg _ | exact Int.ofNat_lt.2 (by assumption) | assumption | omega | exact Nat.le_refl _ | (exfalso; simp at hb; done) | (simp only [go_sem, decide_true, decide_false, Int.reduceToNat, Nat.min_eq_left, Nat.min_eq_right, Int.reducePow, Nat.reducePow, Int.reduceLE, Int.reduceLT, Int.reduceMul, Int.reduceAdd, Int.reduceSub, Int.reduceNeg, Bool.not_true, Bool.not_false, Bool.not_not, ↓reduceIte, Nat.reduceAdd, Nat.reduceSub, Nat.reduceMul, Nat.reduceEqDiff, reduceCtorEq, Nat.reduceLT, Nat.reduceLeDiff, Nat.reduceGT]; done) | (unfold capM; omega) | (simp only [List.length_drop, List.length_take, List.length_append, List.length_cons, List.length_nil]; omega) | skip)
  · exact ⟨_, rfl⟩
  · have h0 : l = [] := List.eq_nil_of_length_eq_zero hb
    subst h0
    refine ⟨_, _, gh_adopt (s := 0) .ent trivial, [0, 1], rfl, ?ft⟩
    case' ft => (refine fitq ?_ ?_ ?_ <;> try exact trivial)
    all_goals rfl
  · (focus (refine ⟨_, _, Gh.refl, [0, 2], rfl, ?_⟩; (refine fitq ?_ ?_ ?_ <;> try exact trivial); (try any_goals (refine ⟨?_, ?_⟩)); (try any_goals (with_reducible rfl))))
theorem c_clE {h : List Ch} {K : KT} {l : List Ent} {t n : Nat} (H : K (.sl h.length .ent 0 l.length) (h ++ [.rows .ent l])) (o : hth h t = .rows .ent l) (s1 : n = l.length) (s2 : l.length ≤ 1000000) : Does Try.prog 45 [.sl t .ent 0 n] h K := by
  subst s1
  exact frame_obj (b_clE l s2) o (by simp) (fitC_rows _ _) (br_cons (br_own rfl) br_nil) (.inl rfl) (fun _ => rfl) (fun _ => rfl) rfl (by rw [set_hth o (by simp)]; exact H)
abbrev i_clE := Ctr.mk (i := 0) (g := 45) @c_clE
attribute [instance] i_clE
/-- an archive that lies open at any place -/
structure ArcU (h : List Ch) (u v : Nat) (ts : List Nat) (ps : List Prc) : Prop where
  pos : 0 < ps.length
  o : hth h u = .cells [.bool true, .csl v ps.length 2]
  o1 : hth h v = .crow (flatP ts ps)
  len : ts.length = ps.length
  rows : ∀ i, i < ps.length → hth h (ts.getD i 0) = .rows .ent (pAt ps i).list
  nd : (u :: v :: ts).Nodup
theorem ArcU.shut {h : List Ch} {u v : Nat} {ts : List Nat} {ps : List Prc} (a : ArcU h u v ts ps) : Shut h u (v :: ts) (AM ps) := by
  have e : AM ps = .cells [.bool true, .csl 1 ps.length 2] :: AMr ps := if_neg (by have := a.pos; omega)
  rw [e]
  refine ⟨⟨_, _, rfl⟩, ⟨hth_lt (by rw [a.o]; simp), ?_, hth_lt (by rw [a.o1]; simp), ?_, fitRows a.len a.rows⟩, a.nd⟩
  · rw [a.o]
    exact ⟨rfl, ⟨rfl, rfl, rfl⟩, trivial⟩
  · rw [a.o1]
    refine ⟨?_, fitP (k := 2) a.len fun i hi => ?_⟩
    · rw [flatP_len a.len, flatP_len (by simp)]
    · rw [show 2 + i = i + 1 + 1 by omega]
      rw [List.getElem?_cons_succ, List.getElem?_cons_succ, List.getD_eq_getElem?_getD, List.getElem?_eq_getElem hi]
      rfl
theorem closeH_ne {h : List Ch} {u t : Nat} {vs : List Nat} {l : List Ch} (h1 : t ≠ u) (h2 : t ∉ vs) : hth (closeH h u vs l) t = hth h t := by
  unfold closeH
  rw [hth_set_ne (Ne.symm h1), goneH_hth h2]
theorem closeH_len (h : List Ch) (u : Nat) (vs : List Nat) (l : List Ch) : (closeH h u vs l).length = h.length := by
  unfold closeH
  rw [List.length_set, goneH_len]
theorem end_two {h : List Ch} {u v w : Nat} {ts ss : List Nat} {ps : List Prc} (a : ArcU h 0 v ts ps) (b : ArcU h u w ss ps) (hd : ∀ t ∈ u :: w :: ss, t ∉ 0 :: v :: ts) : ∃ v' h2, Gh [.ptr u 0] h [v'] h2 ∧ EndF 1 (.ptr 1 0) ([.pack (AM ps)] ++ [.pack (AM ps)]) v' h2 := by
  have hq : ∀ t ∈ u :: w :: ss, hth (closeH h 0 (v :: ts) (AM ps)) t = hth h t := fun t ht => by
    have := hd t ht
    exact closeH_ne (fun q => this (by rw [q]; simp)) (fun q => this (List.mem_cons_of_mem _ q))
  have hu0 : u ≠ 0 := fun q => hd u (by simp) (by rw [q]; simp)
  have b2 : ArcU (closeH h 0 (v :: ts) (AM ps)) u w ss ps := by
    refine ⟨b.pos, by rw [hq u (by simp), b.o], by rw [hq w (by simp), b.o1], b.len, fun i hi => ?_, b.nd⟩
    have hi2 : i < ss.length := by rw [b.len]; exact hi
    have hm : ss.getD i 0 ∈ ss := by rw [List.getD_eq_getElem?_getD, List.getElem?_eq_getElem hi2]; exact List.getElem_mem hi2
    rw [hq _ (List.mem_cons_of_mem _ (List.mem_cons_of_mem _ hm)), b.rows i hi]
  have h0 : 0 < h.length := hth_lt (by rw [a.o]; simp)
  have hul : u < h.length := hth_lt (by rw [b.o]; simp)
  have hc : hth (closeH (closeH h 0 (v :: ts) (AM ps)) u (w :: ss) (AM ps)) 0 = .pack (AM ps) := by
    rw [closeH_ne (Ne.symm hu0) (fun q => hd 0 (List.mem_cons_of_mem _ q) (by simp))]
    unfold closeH
    exact hth_set_eq (by rw [goneH_len]; exact h0)
  have hc2 : hth (closeH (closeH h 0 (v :: ts) (AM ps)) u (w :: ss) (AM ps)) u = .pack (AM ps) := by
    show hth ((goneH _ _).set u _) u = _
    exact hth_set_eq (by rw [goneH_len, closeH_len]; exact hul)
  refine ⟨_, _, Gh.trans (gh_close a.shut) (gh_close b2.shut), [0, u], rfl, ⟨⟨rfl, rfl⟩, trivial⟩, ⟨hth_lt (by rw [hc]; simp), by rw [hc]; exact rfl, hth_lt (by rw [hc2]; simp), by rw [hc2]; exact rfl, trivial⟩, ?_⟩
  simp [Ne.symm hu0]
def clT (H : Nat) (ts : List Nat) (i : Nat) : List Nat := List.range' (H + 3) i ++ ts.drop i
def clR (h : List Ch) (ts : List Nat) (ps : List Prc) (i : Nat) : List Ch := .gone :: .crow (flatP (clT h.length ts i) ps) :: .cells [.bool true, .csl (h.length + 1) ps.length 2] :: (ps.take i).map rowP
def clH (h : List Ch) (ts : List Nat) (ps : List Prc) (i : Nat) : List Ch := h ++ clR h ts ps i
theorem clT_len {H : Nat} {ts : List Nat} {i n : Nat} (h : ts.length = n) (hi : i ≤ n) : (clT H ts i).length = n := by simp [clT]; omega
theorem clT_at {H : Nat} {ts : List Nat} {i : Nat} (hi : i < ts.length) : (clT H ts i).getD i 0 = ts.getD i 0 := by
  unfold clT
  rw [List.getD_eq_getElem?_getD, List.getElem?_append_right (by simp), List.length_range', Nat.sub_self, List.getElem?_drop, Nat.add_zero, List.getD_eq_getElem?_getD]
theorem clT_set {H : Nat} {ts : List Nat} {i : Nat} (hi : i < ts.length) : (clT H ts i).set i (H + 3 + i) = clT H ts (i + 1) := by
  unfold clT
  rw [List.set_append_right _ _ (by simp), List.length_range', Nat.sub_self, List.drop_eq_getElem_cons hi]
  show List.range' (H + 3) i ++ (H + 3 + i) :: ts.drop (i + 1) = _
  rw [List.range'_concat, List.append_assoc]
  simp
theorem clH_len {h : List Ch} {ts : List Nat} {ps : List Prc} {i : Nat} (hi : i ≤ ps.length) : (clH h ts ps i).length = h.length + 3 + i := by
  simp [clH, clR]; omega
theorem clH_0 {h : List Ch} {ts : List Nat} {ps : List Prc} {i t : Nat} (ht : t < h.length) : hth (clH h ts ps i) t = hth h t := hth_app ht
theorem clH_1 {h : List Ch} {ts : List Nat} {ps : List Prc} {i : Nat} : hth (clH h ts ps i) (h.length + 1) = .crow (flatP (clT h.length ts i) ps) := hth_app_r
theorem clH_2 {h : List Ch} {ts : List Nat} {ps : List Prc} {i : Nat} : hth (clH h ts ps i) (h.length + 2) = .cells [.bool true, .csl (h.length + 1) ps.length 2] := hth_app_r
theorem clH_r {h : List Ch} {ts : List Nat} {ps : List Prc} {i j : Nat} (hi : i ≤ ps.length) (hj : j < i) : hth (clH h ts ps i) (h.length + 3 + j) = .rows .ent (pAt ps j).list := by
  have e : hth (clH h ts ps i) (h.length + (3 + j)) = hth (clR h ts ps i) (3 + j) := hth_app_r
  rw [show h.length + 3 + j = h.length + (3 + j) by omega, e, show 3 + j = j + 1 + 1 + 1 by omega]
  show hth ((ps.take i).map rowP) j = _
  rw [hth_rows (by rw [List.length_take]; omega)]
  have : pAt (ps.take i) j = pAt ps j := by
    show (ps.take i).getD j Prc.zero = ps.getD j Prc.zero
    rw [List.getD_eq_getElem?_getD, List.getElem?_take_of_lt hj, List.getD_eq_getElem?_getD]
  rw [this]
theorem set_self {ps : List Prc} {i : Nat} (hi : i < ps.length) : ps.set i (pAt ps i) = ps := by
  have : pAt ps i = ps[i] := by show ps.getD i Prc.zero = _; rw [List.getD_eq_getElem?_getD, List.getElem?_eq_getElem hi]; rfl
  rw [this]
  exact List.set_getElem_self hi
theorem clH_next {h : List Ch} {ts : List Nat} {ps : List Prc} {i : Nat} (hl : ts.length = ps.length) (hi : i < ps.length) : (clH h ts ps i ++ [Ch.rows .ent (pAt ps i).list]).set (h.length + 1) (Ch.crow ((flatP (clT h.length ts i) ps).set (i * 2 + 1) (.sl (h.length + 3 + i) .ent 0 (pAt ps i).list.length))) = clH h ts ps (i + 1) := by
  have e1 := flatP_set (ts := clT h.length ts i) (ps := ps) (i := i) (t' := h.length + 3 + i) (p' := pAt ps i) (clT_len hl (by omega)) hi rfl
  rw [set_self hi, clT_set (by omega)] at e1
  have e2 : ps.take (i + 1) = ps.take i ++ [pAt ps i] := by
    rw [List.take_succ_eq_append_getElem hi]
    congr 2
    show _ = ps.getD i Prc.zero
    rw [List.getD_eq_getElem?_getD, List.getElem?_eq_getElem hi]; rfl
  rw [e1]
  unfold clH
  rw [List.append_assoc, List.set_append_right _ _ (Nat.le_add_right _ _), Nat.add_sub_cancel_left]
  congr 1
  unfold clR
  rw [e2, List.map_append]
  rfl
theorem clT_lt {h : List Ch} {ts : List Nat} {i : Nat} (ht : ∀ t ∈ ts, t < h.length) : ∀ t ∈ clT h.length ts i, t < h.length + 3 + i := fun t hm => by
  rcases List.mem_append.1 hm with q | q
  · have := List.mem_range'_1.1 q; omega
  · have := ht t (List.mem_of_mem_drop q); omega
theorem clH_self {h : List Ch} {ts : List Nat} {ps : List Prc} {i : Nat} (S : SelfFit h) (hts : ∀ t ∈ ts, t < h.length) (hi : i ≤ ps.length) : SelfFit (clH h ts ps i) := by
  intro σ hσ j hj
  have hlen := clH_len (h := h) (ts := ts) hi
  rw [hlen] at hσ hj
  by_cases c : j < h.length
  · rw [clH_0 c]
    exact S σ (fun k hk => hσ k (by omega)) j c
  · obtain ⟨k, rfl⟩ : ∃ k, j = h.length + k := ⟨j - h.length, by omega⟩
    have e : hth (clH h ts ps i) (h.length + k) = hth (clR h ts ps i) k := hth_app_r
    rw [e]
    match k with
    | 0 => exact trivial
    | 1 => exact ⟨rfl, fitP2 fun t ht => hσ t (clT_lt hts t ht)⟩
    | 2 => exact ⟨rfl, ⟨hσ _ (by omega), rfl, rfl⟩, trivial⟩
    | k + 3 =>
      show fitC σ (hth ((ps.take i).map rowP) k) (hth ((ps.take i).map rowP) k)
      by_cases ck : k < (ps.take i).length
      · rw [hth_rows ck]
        show (match asE .ent .ent (pAt (ps.take i) k).list with | some ys => (pAt (ps.take i) k).list = ys | none => False)
        rw [asE_self]
      · rw [List.length_take] at ck; omega
theorem clH_arc {h : List Ch} {ts : List Nat} {ps : List Prc} (A : Arc h 1 ts ps) : ArcU (clH h ts ps ps.length) (h.length + 2) (h.length + 1) (clT h.length ts ps.length) ps ∧ ArcU (clH h ts ps ps.length) 0 1 ts ps ∧ ∀ t ∈ (h.length + 2) :: (h.length + 1) :: clT h.length ts ps.length, t ∉ 0 :: 1 :: ts := by
  have hln := A.lt
  have hct : clT h.length ts ps.length = List.range' (h.length + 3) ps.length := by
    unfold clT
    rw [List.drop_of_length_le (by rw [A.len]; exact Nat.le_refl _), List.append_nil]
  refine ⟨⟨A.pos, clH_2, clH_1, clT_len A.len (Nat.le_refl _), fun i hi => ?_, ?_⟩, ⟨A.pos, ?_, ?_, A.len, fun i hi => ?_, A.nd⟩, fun t ht q => ?_⟩
  · rw [hct]
    have : (List.range' (h.length + 3) ps.length).getD i 0 = h.length + 3 + i := by
      rw [List.getD_eq_getElem?_getD, List.getElem?_range' hi]
      show h.length + 3 + 1 * i = _
      omega
    rw [this]
    exact clH_r (Nat.le_refl _) hi
  · rw [hct]
    refine List.nodup_cons.2 ⟨fun q => ?_, List.nodup_cons.2 ⟨fun q => ?_, List.nodup_range'⟩⟩
    · rcases List.mem_cons.1 q with q | q
      · omega
      · have := List.mem_range'_1.1 q; omega
    · have := List.mem_range'_1.1 q; omega
  · rw [clH_0 (hln 0 (by simp)), A.o]
  · rw [clH_0 (hln 1 (by simp)), A.o1]
  · have hi2 : i < ts.length := by rw [A.len]; exact hi
    have hm : ts.getD i 0 ∈ ts := by rw [List.getD_eq_getElem?_getD, List.getElem?_eq_getElem hi2]; exact List.getElem_mem hi2
    rw [clH_0 (hln _ (List.mem_cons_of_mem _ (List.mem_cons_of_mem _ hm))), A.rows i hi]
  · have h1 := hln t q
    rw [hct] at ht
    rcases List.mem_cons.1 ht with r | r
    · omega
    · rcases List.mem_cons.1 r with r | r
      · omega
      · have := List.mem_range'_1.1 r; omega
theorem w_loopG {P : Program} {k : Nat} {tm : List AV} {h : List Ch} {q : Post} {c : Code} {A : Type} (inv : A → Prop) (mu : A → Nat) (live : A → List (Nat × AV)) (heap : A → List Ch) (x0 : A) {ws : List Nat} {tk : List AV} (hw : writes c = ws) (ht : killT tm ws = tk) (hi : inv x0)
    (h0 : At k (liveT tk (live x0)) (heap x0) tm h)
    (H : ∀ (x : A) (E : List AV → List Ch → Prop) t, inv x → (∀ tm' h', Back k inv mu (fun x => liveT tk (live x)) heap x tm' h' → E tm' h') → liveT tk (live x) = t →
      Wp P k c t (heap x) ⟨E, q.x, q.r⟩) : Wp P k (.loop c) tm h q :=
  w_loop_at inv mu (fun x => liveT tk (live x)) heap x0 hi h0 fun x E hx hE => H x E _ hx hE rfl
theorem b_cloneM (ps : List Prc) (hpp : 0 < ps.length) (hm : ps.length ≤ 900000) (hl : ∀ i, i < ps.length → (pAt ps i).list.length ≤ 1000000) (hd : ∀ i k, ((pAt ps i).list.getD k Ent.zero).data.length ≤ 1099511627776) :
    DoesK Try.prog 1 24 [.ptr 0 0] [.pack (AM ps)] (EndF 1 (.ptr 1 0) ([.pack (AM ps)] ++ [.pack (AM ps)])) := by
  refine DoesK.close ?_
  refine w_body (rs := [.tmp 2]) (tm := [.ptr 0 0, .any, .any, .any, .any, .any, .any, .any, .any, .any, .any, .any, .any, .any, .any, .any, .any, .any, .any, .any, .any, .any, .any, .any, .any, .any, .any, .any, .any, .any, .any, .any, .any, .any, .any, .any, .any, .any, .any, .any, .any, .any, .any, .any, .any, .any, .any, .any, .any, .any, .any, .any, .any, .any, .any, .any, .any, .any, .any, .any, .any, .any, .any, .any, .any, .any, .any, .any, .any, .any, .any, .any, .any, .any, .any, .any, .any, .any, .any]) fn_24 rfl rfl rfl rfl fun R hR => ?_
  refine w_openM hpp ?_
  have A := arc_open hpp
  have S := AM_self hpp
  generalize AM ps = h at A S ⊢
  obtain ⟨ts, hts⟩ : ∃ ts, List.range' 2 ps.length = ts := ⟨_, rfl⟩
  rw [hts] at A
  have hln : ∀ t ∈ 0 :: 1 :: ts, t < h.length := A.lt
  have hh0 : 0 < h.length := hln 0 (by simp)
  have hh1 : 1 < h.length := hln 1 (by simp)
  have o : (hth h 0 = .cells [.bool true, .csl 1 ps.length 2] ∧ hth h 1 = .crow (flatP ts ps)) ∧ (∀ l, hth (h ++ l) 0 = .cells [.bool true, .csl 1 ps.length 2]) ∧ ∀ l, hth (h ++ l) 1 = .crow (flatP ts ps) := ⟨⟨A.o, A.o1⟩, fun l => (A.app l).o, fun l => (A.app l).o1⟩
  have t2 := symH h
  have hfl := flatP_len A.len
  have hfc := flatP_cells ts ps
  (have zx1 := @o; have zx2 := @t2; have zx3 := @hfl; all_goals (try ((first | (with_reducible refine wp_id ?_) | (with_reducible refine does_id ?_) | (with_reducible refine ops_id ?_)); refine walk ?_; (repeat' (first | exact trivial | with_reducible refine And.intro ?_ ?_)); all_goals (repeat (first | (with_reducible refine ImpB.mk fun hb => ?_) | (with_reducible refine ImpK.mk fun hK => ?_) | (with_reducible refine ImpF.mk fun hF => ?_) | (with_reducible refine ImpQ.mk fun hp => ?_) | (with_reducible refine AllE.mk fun p => ?_) | (with_reducible refine AllR.mk fun rest => ?_) | (with_reducible refine AllK.mk fun K => ?_))))); repeat' (with_reducible refine And.intro ?_ ?_))
  any_goals ((try (refine w_seq fun K hK => ?_)); (try (refine w_block ?_)); refine w_loopG (A := Nat) (fun i => i ≤ ps.length) (fun i => ps.length - i) (fun i => [(21, .int .i64 i)]) (fun i => clH h ts ps i) (0) (ws := ?ws1) (tk := ?tk1) ?hw1 ?ht1 ?hi ?h0 ?LH1; (case hw1 => simp only [go_sem, decide_true, decide_false, Int.reduceToNat, Nat.min_eq_left, Nat.min_eq_right, Int.reducePow, Nat.reducePow, Int.reduceLE, Int.reduceLT, Int.reduceMul, Int.reduceAdd, Int.reduceSub, Int.reduceNeg, Bool.not_true, Bool.not_false, Bool.not_not, ↓reduceIte, Nat.reduceAdd, Nat.reduceSub, Nat.reduceMul, Nat.reduceEqDiff, reduceCtorEq, Nat.reduceLT, Nat.reduceLeDiff, Nat.reduceGT]; exact rfl); (case ht1 => simp only [go_sem, decide_true, decide_false, Int.reduceToNat, Nat.min_eq_left, Nat.min_eq_right, Int.reducePow, Nat.reducePow, Int.reduceLE, Int.reduceLT, Int.reduceMul, Int.reduceAdd, Int.reduceSub, Int.reduceNeg, Bool.not_true, Bool.not_false, Bool.not_not, ↓reduceIte, Nat.reduceAdd, Nat.reduceSub, Nat.reduceMul, Nat.reduceEqDiff, reduceCtorEq, Nat.reduceLT, Nat.reduceLeDiff, Nat.reduceGT]; exact rfl); (case' LH1 => rintro i E t hx hE ht; simp only [go_sem] at ht; subst ht; simp only [go_sem]; try dsimp only at hx))
  case hi => exact Nat.zero_le _
  case h0 =>
    refine at_sameS (show 1 ≤ (clH h ts ps 0).length by rw [clH_len (Nat.zero_le _)]; omega) (clH_self S (fun t ht => hln t (List.mem_cons_of_mem _ (List.mem_cons_of_mem _ ht))) (Nat.zero_le _)) fun σ hσ => ?_
    have hσ2 : ∀ t, t < h.length + 3 → σ[t]? = some t := fun z hz => hσ z (by rw [clH_len (Nat.zero_le _)]; exact hz)
    simp only [go_sem]
    (repeat' (first | (refine And.intro ?_ ?_) | (with_reducible rfl) | exact hσ2 _ (by omega) | exact trivial))
  case LH1 =>
    have hi0 : i ≤ ps.length := hx
    have hGl := clH_len (h := h) (ts := ts) hi0
    have g1 : hth (clH h ts ps i) (h.length + 1) = _ := clH_1
    have g2 : hth (clH h ts ps i) (h.length + 2) = _ := clH_2
    have hself := clH_self (i := i) S (fun t ht => hln t (List.mem_cons_of_mem _ (List.mem_cons_of_mem _ ht))) hi0
    by_cases hi : i < ps.length
    · have hid : decide ((i : Int) < (ps.length : Int)) = true := decide_eq_true (by omega)
      have hiw : IntKind.i64.wrap ((i : Int) + 1) = ((i + 1 : Nat) : Int) := by rw [wrap_i64 _ (by omega) (by omega)]; omega
      have hcl := clT_len (H := h.length) A.len hi0
      obtain ⟨-, n2⟩ := flatP_at hcl hi
      rw [clT_at (by rw [A.len]; exact hi)] at n2
      obtain ⟨T, hT⟩ : ∃ T, ts.getD i 0 = T := ⟨_, rfl⟩
      have hrow := A.rows i hi
      rw [hT] at n2 hrow
      have hTl : T < h.length := hth_lt (by rw [hrow]; simp)
      have g3 : hth (clH h ts ps i) T = .rows .ent (pAt ps i).list := by rw [clH_0 hTl, hrow]
      have hnext := clH_next (h := h) A.len hi
      have hln2 := hl i hi
      have hd2 := hd i
      obtain ⟨xs, hxs⟩ : ∃ xs, (pAt ps i).list = xs := ⟨_, rfl⟩
      rw [hxs] at n2 g3 hnext hln2 hd2
      have hfl2 := flatP_len hcl
      obtain ⟨F, hF⟩ : ∃ F, flatP (clT h.length ts i) ps = F := ⟨_, rfl⟩
      rw [hF] at n2 hnext hfl2 g1
      obtain ⟨G, hG⟩ : ∃ G, clH h ts ps i = G := ⟨_, rfl⟩
      rw [hG] at hGl g1 g2 g3 hself hnext ⊢
      have gl : ∀ t c, hth G t = c → c ≠ .gone → ∀ l, hth (G ++ l) t = c := fun t c e hc l => by rw [hth_app (hth_lt (by rw [e]; exact hc)), e]
      have o3 : (hth G (h.length + 1) = .crow F ∧ hth G (h.length + 2) = .cells [.bool true, .csl (h.length + 1) ps.length 2] ∧ hth G T = .rows .ent xs) ∧ (∀ l, hth (G ++ l) (h.length + 1) = .crow F) ∧ (∀ l, hth (G ++ l) (h.length + 2) = .cells [.bool true, .csl (h.length + 1) ps.length 2]) ∧ ∀ l, hth (G ++ l) T = .rows .ent xs :=
        ⟨⟨g1, g2, g3⟩, gl _ _ g1 (by simp), gl _ _ g2 (by simp), gl _ _ g3 (by simp)⟩
      have t5 := symH G
      have F2 : nthA F (i * 2 + 1) = .sl T .ent 0 xs.length ∧ F.length = ps.length * 2 := ⟨n2, hfl2⟩
      have k1 : hth (clH h ts ps (i + 1)) (h.length + 1) = _ := clH_1
      have k2 : hth (clH h ts ps (i + 1)) (h.length + 2) = _ := clH_2
      have k3 := clH_r (h := h) (ts := ts) (ps := ps) (i := i + 1) (j := i) (by omega) (by omega)
      have kself := clH_self (ps := ps) (i := i + 1) S (fun t ht => hln t (List.mem_cons_of_mem _ (List.mem_cons_of_mem _ ht))) (by omega)
      have kl := clH_len (h := h) (ts := ts) (ps := ps) (i := i + 1) (by omega)
      have hcl2 := clT_len (H := h.length) (i := i + 1) A.len (by omega)
      obtain ⟨-, n3⟩ := flatP_at hcl2 hi
      have hfl3 := flatP_len hcl2
      have e4 : (clT h.length ts (i + 1)).getD i 0 = h.length + 3 + i := by
        rw [← clT_set (by rw [A.len]; exact hi), List.getD_eq_getElem?_getD, List.getElem?_set_self (by rw [clT_len A.len hi0]; exact hi)]; rfl
      rw [e4, hxs] at n3
      rw [hxs] at k3
      obtain ⟨F3, hF3⟩ : ∃ F, flatP (clT h.length ts (i + 1)) ps = F := ⟨_, rfl⟩
      rw [hF3] at n3 hfl3 k1
      obtain ⟨G2, hG2⟩ : ∃ G, clH h ts ps (i + 1) = G := ⟨_, rfl⟩
      rw [hG2] at k1 k2 k3 kself kl hnext
      have o4 : hth G2 (h.length + 1) = .crow F3 ∧ hth G2 (h.length + 2) = .cells [.bool true, .csl (h.length + 1) ps.length 2] ∧ hth G2 (h.length + 3 + i) = .rows .ent xs := ⟨k1, k2, k3⟩
      have F4 : nthA F3 (i * 2 + 1) = .sl (h.length + 3 + i) .ent 0 xs.length ∧ F3.length = ps.length * 2 := ⟨n3, hfl3⟩
      (have zx1 := @hid; have zx2 := @o3; have zx3 := @F2; have zx4 := @t5; have zx5 := @hGl; have zx6 := @hnext; have zx7 := @o4; have zx8 := @F4; all_goals (try ((first | (with_reducible refine wp_id ?_) | (with_reducible refine does_id ?_) | (with_reducible refine ops_id ?_)); refine walk ?_; (repeat' (first | exact trivial | with_reducible refine And.intro ?_ ?_)); all_goals (repeat (first | (with_reducible refine ImpB.mk fun hb => ?_) | (with_reducible refine ImpK.mk fun hK => ?_) | (with_reducible refine ImpF.mk fun hF => ?_) | (with_reducible refine ImpQ.mk fun hp => ?_) | (with_reducible refine AllE.mk fun p => ?_) | (with_reducible refine AllR.mk fun rest => ?_) | (with_reducible refine AllK.mk fun K => ?_))))); repeat' (with_reducible refine And.intro ?_ ?_))
      any_goals first | exact Int.natCast_nonneg _ | (show (i : Int) < (ps.length : Int); omega) | (show i * 2 + 1 < ps.length * 2; omega) | (show i * 2 + 1 + 1 ≤ ps.length * 2; omega)
      any_goals ((try (refine w_seq fun K hK => ?_)); (try (refine w_block ?_)); refine w_loopS (A := Nat) (fun k => k ≤ xs.length) (fun k => xs.length - k) (fun k => [(49, .int .i64 k)]) (0) (ws := ?ws3) (tk := ?tk3) ?hw3 ?ht3 ?hi ?h0 ?LH3; (case hw3 => simp only [go_sem, decide_true, decide_false, Int.reduceToNat, Nat.min_eq_left, Nat.min_eq_right, Int.reducePow, Nat.reducePow, Int.reduceLE, Int.reduceLT, Int.reduceMul, Int.reduceAdd, Int.reduceSub, Int.reduceNeg, Bool.not_true, Bool.not_false, Bool.not_not, ↓reduceIte, Nat.reduceAdd, Nat.reduceSub, Nat.reduceMul, Nat.reduceEqDiff, reduceCtorEq, Nat.reduceLT, Nat.reduceLeDiff, Nat.reduceGT]; exact rfl); (case ht3 => simp only [go_sem, decide_true, decide_false, Int.reduceToNat, Nat.min_eq_left, Nat.min_eq_right, Int.reducePow, Nat.reducePow, Int.reduceLE, Int.reduceLT, Int.reduceMul, Int.reduceAdd, Int.reduceSub, Int.reduceNeg, Bool.not_true, Bool.not_false, Bool.not_not, ↓reduceIte, Nat.reduceAdd, Nat.reduceSub, Nat.reduceMul, Nat.reduceEqDiff, reduceCtorEq, Nat.reduceLT, Nat.reduceLeDiff, Nat.reduceGT]; exact rfl); (case' LH3 => rintro k E t hx hE ht; simp only [go_sem] at ht; subst ht; simp only [go_sem]; try dsimp only at hx))
      case hi => exact Nat.zero_le _
      case h0 => (focus (simp only [go_sem]; (repeat' (first | exact sub_nil | refine sub_cons ?_ ?_)); (any_goals (first | exact .inl rfl | exact .inr rfl)); (try any_goals (refine .inr ?_)); (try any_goals (refine congrArg _ ?_))))
      case LH3 =>
        have hk0 : k ≤ xs.length := hx
        by_cases hk : k < xs.length
        · have hkd : decide ((k : Int) < (xs.length : Int)) = true := decide_eq_true (by omega)
          have hkw : IntKind.i64.wrap ((k : Int) + 1) = ((k + 1 : Nat) : Int) := by rw [wrap_i64 _ (by omega) (by omega)]; omega
          have q2 := hd2 k
          obtain ⟨y, hy⟩ : ∃ y, xs.getD k Ent.zero = y := ⟨_, rfl⟩
          rw [hy] at q2
          have e5 : xs.set k y = xs := by
            have : xs[k] = y := by rw [← hy, List.getD_eq_getElem?_getD, List.getElem?_eq_getElem hk]; rfl
            rw [← this]
            exact List.set_getElem_self hk
          have e6 : G2.set (h.length + 3 + i) (.rows .ent (xs.set k y)) = G2 := by rw [e5]; exact set_hth k3 (by simp)
          (have zx1 := @hkd; have zx2 := @hkw; have zx3 := @o4; have zx4 := @F4; have zx5 := @hy; all_goals (try ((first | (with_reducible refine wp_id ?_) | (with_reducible refine does_id ?_) | (with_reducible refine ops_id ?_)); refine walk ?_; (repeat' (first | exact trivial | with_reducible refine And.intro ?_ ?_)); all_goals (repeat (first | (with_reducible refine ImpB.mk fun hb => ?_) | (with_reducible refine ImpK.mk fun hK => ?_) | (with_reducible refine ImpF.mk fun hF => ?_) | (with_reducible refine ImpQ.mk fun hp => ?_) | (with_reducible refine AllE.mk fun p => ?_) | (with_reducible refine AllR.mk fun rest => ?_) | (with_reducible refine AllK.mk fun K => ?_))))); repeat' (with_reducible refine And.intro ?_ ?_))
          any_goals first | exact Int.natCast_nonneg _ | (show (i : Int) < (ps.length : Int); omega) | (show i * 2 + 1 < ps.length * 2; omega) | (show (k : Int) < (xs.length : Int); omega) | (show k < xs.length; omega)
          refine ⟨k + 1, ⟨(by omega : k + 1 ≤ xs.length), (by first | omega | (dsimp only; omega))⟩, ?_, e6⟩
          (focus (simp only [go_sem]; (repeat' (first | exact sub_nil | refine sub_cons ?_ ?_)); (any_goals (first | exact .inl rfl | exact .inr rfl)); (try any_goals (refine .inr ?_)); (try any_goals (refine congrArg _ ?_))))
        · have hkd : decide ((k : Int) < (xs.length : Int)) = false := decide_eq_false (by omega)
          (have zx1 := @hkd; have zx2 := @hiw; all_goals (try ((first | (with_reducible refine wp_id ?_) | (with_reducible refine does_id ?_) | (with_reducible refine ops_id ?_)); refine walk ?_; (repeat' (first | exact trivial | with_reducible refine And.intro ?_ ?_)); all_goals (repeat (first | (with_reducible refine ImpB.mk fun hb => ?_) | (with_reducible refine ImpK.mk fun hK => ?_) | (with_reducible refine ImpF.mk fun hF => ?_) | (with_reducible refine ImpQ.mk fun hp => ?_) | (with_reducible refine AllE.mk fun p => ?_) | (with_reducible refine AllR.mk fun rest => ?_) | (with_reducible refine AllK.mk fun K => ?_))))); repeat' (with_reducible refine And.intro ?_ ?_))
          have kself2 : SelfFit (clH h ts ps (i + 1)) := by rw [hG2]; exact kself
          rw [← hG2]
          refine ⟨i + 1, ⟨(by omega : i + 1 ≤ ps.length), (by first | omega | (dsimp only; omega))⟩, at_sameS (show 1 ≤ (clH h ts ps (i + 1)).length by rw [hG2, kl]; omega) kself2 fun σ hσ => ?_⟩
          have hσ2 : ∀ t, t < h.length + 3 + (i + 1) → σ[t]? = some t := fun z hz => hσ z (show z < (clH h ts ps (i + 1)).length by rw [hG2, kl]; exact hz)
          simp only [go_sem]
          (repeat' (first | (refine And.intro ?_ ?_) | (with_reducible rfl) | exact hσ2 _ (by omega) | exact trivial))
    · have hid : decide ((i : Int) < (ps.length : Int)) = false := decide_eq_false (by omega)
      have hie : i = ps.length := by omega
      subst hie
      obtain ⟨B1, B2, B3⟩ := clH_arc A
      (have zx1 := @hid; all_goals (try ((first | (with_reducible refine wp_id ?_) | (with_reducible refine does_id ?_) | (with_reducible refine ops_id ?_)); refine walk ?_; (repeat' (first | exact trivial | with_reducible refine And.intro ?_ ?_)); all_goals (repeat (first | (with_reducible refine ImpB.mk fun hb => ?_) | (with_reducible refine ImpK.mk fun hK => ?_) | (with_reducible refine ImpF.mk fun hF => ?_) | (with_reducible refine ImpQ.mk fun hp => ?_) | (with_reducible refine AllE.mk fun p => ?_) | (with_reducible refine AllR.mk fun rest => ?_) | (with_reducible refine AllK.mk fun K => ?_))))); repeat' (with_reducible refine And.intro ?_ ?_))
      exact end_two B2 B1 B3
structure okCl (ps : List Prc) : Prop where
  max : ps.length ≤ 900000
  lst : ∀ i, i < ps.length → (pAt ps i).list.length ≤ 1000000
  dat : ∀ i k, ((pAt ps i).list.getD k Ent.zero).data.length ≤ 1099511627776
theorem b_clP0 : DoesK Try.prog 0 44 [.lit (.slice none 0 0)] [] (EndF 0 (.lit (.slice none 0 0)) []) := by
  refine DoesK.close ?_
  refine w_body (rs := [.tmp 2]) (tm := [.lit (.slice none 0 0), .any, .any, .any, .any, .any, .any, .any]) fn_44 rfl rfl rfl rfl fun R hR => ?_
  (all_goals (try ((first | (with_reducible refine wp_id ?_) | (with_reducible refine does_id ?_) | (with_reducible refine ops_id ?_)); refine walk ?_; (repeat' (first | exact trivial | with_reducible refine And.intro ?_ ?_)); all_goals (repeat (first | (with_reducible refine ImpB.mk fun hb => ?_) | (with_reducible refine ImpK.mk fun hK => ?_) | (with_reducible refine ImpF.mk fun hF => ?_) | (with_reducible refine ImpQ.mk fun hp => ?_) | (with_reducible refine AllE.mk fun p => ?_) | (with_reducible refine AllR.mk fun rest => ?_) | (with_reducible refine AllK.mk fun K => ?_))))); repeat' (with_reducible refine And.intro ?_ ?_))
  · exact ⟨_, rfl⟩
  (focus (refine ⟨_, _, Gh.refl, [], rfl, ?_⟩; (refine fitq ?_ ?_ ?_ <;> try exact trivial); (try any_goals (refine ⟨?_, ?_⟩)); (try any_goals (with_reducible rfl))))
  all_goals (repeat' (first | (refine And.intro ?_ ?_) | rfl))
theorem c_clP0 {h : List Ch} {K : KT} (H : K (.lit (.slice none 0 0)) h) : Does Try.prog 44 [.lit (.slice none 0 0)] h K :=
  frame_pure b_clP0 (br_cons br_lit br_nil) (.inr rfl) (fun _ => rfl) H
abbrev i_clP0 := Ctr.mk (i := 1) (g := 44) @c_clP0
attribute [instance] i_clP0
theorem b_cloneZ0 : DoesK Try.prog 1 24 [.ptr 0 0] [.pack AE] (EndF 1 (.ptr 1 0) ([.pack AE] ++ [.pack AE])) := by
  refine DoesK.close ?_
  refine w_body (rs := [.tmp 2]) (tm := [.ptr 0 0, .any, .any, .any, .any, .any, .any, .any, .any, .any, .any, .any, .any, .any, .any, .any, .any, .any, .any, .any, .any, .any, .any, .any, .any, .any, .any, .any, .any, .any, .any, .any, .any, .any, .any, .any, .any, .any, .any, .any, .any, .any, .any, .any, .any, .any, .any, .any, .any, .any, .any, .any, .any, .any, .any, .any, .any, .any, .any, .any, .any, .any, .any, .any, .any, .any, .any, .any, .any, .any, .any, .any, .any, .any, .any, .any, .any, .any, .any]) fn_24 rfl rfl rfl rfl fun R hR => ?_
  unfold AE
  refine w_open 0 rfl rfl ?_
  simp only [go_sem, decide_true, decide_false, Int.reduceToNat, Nat.min_eq_left, Nat.min_eq_right, Int.reducePow, Nat.reducePow, Int.reduceLE, Int.reduceLT, Int.reduceMul, Int.reduceAdd, Int.reduceSub, Int.reduceNeg, Bool.not_true, Bool.not_false, Bool.not_not, ↓reduceIte, Nat.reduceAdd, Nat.reduceSub, Nat.reduceMul, Nat.reduceEqDiff, reduceCtorEq, Nat.reduceLT, Nat.reduceLeDiff, Nat.reduceGT]
  (all_goals (try ((first | (with_reducible refine wp_id ?_) | (with_reducible refine does_id ?_) | (with_reducible refine ops_id ?_)); refine walk ?_; (repeat' (first | exact trivial | with_reducible refine And.intro ?_ ?_)); all_goals (repeat (first | (with_reducible refine ImpB.mk fun hb => ?_) | (with_reducible refine ImpK.mk fun hK => ?_) | (with_reducible refine ImpF.mk fun hF => ?_) | (with_reducible refine ImpQ.mk fun hp => ?_) | (with_reducible refine AllE.mk fun p => ?_) | (with_reducible refine AllR.mk fun rest => ?_) | (with_reducible refine AllK.mk fun K => ?_))))); repeat' (with_reducible refine And.intro ?_ ?_))
  any_goals ((try (refine w_seq fun K hK => ?_)); (try (refine w_block ?_)); refine w_loop (A := Nat) (fun k => k = 0) (fun k => 0) (fun k => [(21, .int .i64 k)]) (fun k => []) (0) (ws := ?ws2) (tk := ?tk2) ?hw2 ?ht2 ?hi ?h0 ?LH2; (case hw2 => simp only [go_sem, decide_true, decide_false, Int.reduceToNat, Nat.min_eq_left, Nat.min_eq_right, Int.reducePow, Nat.reducePow, Int.reduceLE, Int.reduceLT, Int.reduceMul, Int.reduceAdd, Int.reduceSub, Int.reduceNeg, Bool.not_true, Bool.not_false, Bool.not_not, ↓reduceIte, Nat.reduceAdd, Nat.reduceSub, Nat.reduceMul, Nat.reduceEqDiff, reduceCtorEq, Nat.reduceLT, Nat.reduceLeDiff, Nat.reduceGT]; exact rfl); (case ht2 => simp only [go_sem, decide_true, decide_false, Int.reduceToNat, Nat.min_eq_left, Nat.min_eq_right, Int.reducePow, Nat.reducePow, Int.reduceLE, Int.reduceLT, Int.reduceMul, Int.reduceAdd, Int.reduceSub, Int.reduceNeg, Bool.not_true, Bool.not_false, Bool.not_not, ↓reduceIte, Nat.reduceAdd, Nat.reduceSub, Nat.reduceMul, Nat.reduceEqDiff, reduceCtorEq, Nat.reduceLT, Nat.reduceLeDiff, Nat.reduceGT]; exact rfl); (case' LH2 => rintro k E t hx hE ht; simp only [go_sem] at ht; subst ht; simp only [go_sem]; try dsimp only at hx))
  case hi => exact rfl
  case h0 =>
    (focus (refine ⟨_, _, Gh.refl, [0, 1], rfl, ?_⟩; (refine fitq ?_ ?_ ?_ <;> try exact trivial); (try any_goals (refine ⟨?_, ?_⟩)); (try any_goals (with_reducible rfl))))
    all_goals (repeat' (first | (refine And.intro ?_ ?_) | rfl))
  case LH2 =>
    obtain rfl : k = 0 := hx
    have hkd : decide (((0 : Nat) : Int) < 0) = false := decide_eq_false (by decide)
    (have zx1 := @hkd; all_goals (try ((first | (with_reducible refine wp_id ?_) | (with_reducible refine does_id ?_) | (with_reducible refine ops_id ?_)); refine walk ?_; (repeat' (first | exact trivial | with_reducible refine And.intro ?_ ?_)); all_goals (repeat (first | (with_reducible refine ImpB.mk fun hb => ?_) | (with_reducible refine ImpK.mk fun hK => ?_) | (with_reducible refine ImpF.mk fun hF => ?_) | (with_reducible refine ImpQ.mk fun hp => ?_) | (with_reducible refine AllE.mk fun p => ?_) | (with_reducible refine AllR.mk fun rest => ?_) | (with_reducible refine AllK.mk fun K => ?_))))); repeat' (with_reducible refine And.intro ?_ ?_))
    (focus (refine ⟨_, _, Gh.trans (gh_close (t := 0) (ts := []) (l := AE) ⟨⟨_, _, rfl⟩, ?_, by simp⟩) (gh_close (t := 1) (ts := []) (l := AE) ⟨⟨_, _, rfl⟩, ?_, by simp⟩), [0, 1], rfl, ?_⟩; all_goals (refine fitq ?_ ?_ ?_ <;> try exact trivial)))
    all_goals (repeat' (first | (refine And.intro ?_ ?_) | rfl))
theorem c_cloneM {h : List Ch} {K : KT} {u : Nat} {ps : List Prc} (H : K (.ptr h.length 0) (h ++ [.pack (AM ps)])) (o : hth h u = .pack (AM ps)) (e1 : okCl ps) : Does Try.prog 24 [.ptr u 0] h K := by
  by_cases hn : ps.length = 0
  · obtain rfl := List.eq_nil_of_length_eq_zero hn
    exact frame_obj b_cloneZ0 o (by simp) (fitC_pack _) (br_cons (br_ptr rfl) br_nil) (.inl rfl) (fun _ => rfl) (fun _ => rfl) rfl (by rw [show AE = AM [] from rfl, set_hth o (by simp)]; exact H)
  · exact frame_obj (b_cloneM ps (by omega) e1.max e1.lst e1.dat) o (by simp) (fitC_pack _) (br_cons (br_ptr rfl) br_nil) (.inl rfl) (fun _ => rfl) (fun _ => rfl) rfl (by rw [set_hth o (by simp)]; exact H)
abbrev i_cloneM := Ctr.mk (i := 0) (g := 24) @c_cloneM
attribute [instance] i_cloneM
end Go.V

set_option maxRecDepth 100000
set_option maxHeartbeats 8000000
namespace Go.V
open Go.Proofs
attribute [-go_sem] AE AO
def lenP (ps : List Prc) : Nat := (ps.map fun p => p.list.length).sum
theorem lenP_next {ps : List Prc} {k : Nat} (h : k < ps.length) : lenP (ps.take (k + 1)) = lenP (ps.take k) + (pAt ps k).list.length := by
  unfold lenP
  rw [List.take_succ_eq_append_getElem h, List.map_append, List.sum_append]
  have : pAt ps k = ps[k] := by show ps.getD k Prc.zero = _; rw [List.getD_eq_getElem?_getD, List.getElem?_eq_getElem h]; rfl
  rw [this]
  simp
theorem lenP_le {ps : List Prc} (h : ∀ i, i < ps.length → (pAt ps i).list.length ≤ 1000000) : ∀ k, k ≤ ps.length → lenP (ps.take k) ≤ k * 1000000
  | 0, _ => by simp [lenP]
  | k + 1, hk => by
    rw [lenP_next (by omega)]
    have := lenP_le h k (by omega)
    have := h k (by omega)
    omega
theorem flatP_two : ∀ {ts : List Nat} {ps : List Prc} {i : Nat}, ts.length = ps.length → i < ps.length → ((flatP ts ps).drop (i * 2)).take 2 = [.int .i64 (pAt ps i).apid, .sl (ts.getD i 0) .ent 0 (pAt ps i).list.length]
  | [], [], _, _, h => by simp at h
  | t :: ts, p :: ps, 0, _, _ => rfl
  | t :: ts, p :: ps, i + 1, h, h2 => by
    have := flatP_two (ts := ts) (ps := ps) (i := i) (by simpa using h) (by simpa using h2)
    rw [show (i + 1) * 2 = i * 2 + 1 + 1 by omega]
    exact this
  | [], _ :: _, _, h, _ => by simp at h
  | _ :: _, [], _, h, _ => by simp at h
theorem b_lenM (ps : List Prc) (hpp : 0 < ps.length) (hm : ps.length ≤ 900000) (hl : ∀ i, i < ps.length → (pAt ps i).list.length ≤ 1000000) :
    DoesK Try.prog 1 14 [.ptr 0 0] [.pack (AM ps)] (EndF 1 (.int .i64 (lenP ps)) ([.pack (AM ps)] ++ [])) := by
  refine DoesK.close ?_
  refine w_body (rs := [.tmp 2]) (tm := [.ptr 0 0, .any, .any, .any, .any, .any, .any, .any, .any, .any, .any, .any, .any, .any, .any, .any, .any, .any, .any, .any, .any, .any, .any, .any, .any]) fn_14 rfl rfl rfl rfl fun R hR => ?_
  refine w_openM hpp ?_
  have A := arc_open hpp
  have S := AM_self hpp
  have hlen := AM_len hpp
  generalize AM ps = h at A S hlen ⊢
  obtain ⟨ts, hts⟩ : ∃ ts, List.range' 2 ps.length = ts := ⟨_, rfl⟩
  rw [hts] at A
  have hln : ∀ t ∈ 0 :: 1 :: ts, t < h.length := A.lt
  have o := A.o
  have o1 := A.o1
  have t2 := symH h
  have hfl := flatP_len A.len
  (have zx1 := @o; all_goals (try ((first | (with_reducible refine wp_id ?_) | (with_reducible refine does_id ?_) | (with_reducible refine ops_id ?_)); refine walk ?_; (repeat' (first | exact trivial | with_reducible refine And.intro ?_ ?_)); all_goals (repeat (first | (with_reducible refine ImpB.mk fun hb => ?_) | (with_reducible refine ImpK.mk fun hK => ?_) | (with_reducible refine ImpF.mk fun hF => ?_) | (with_reducible refine ImpQ.mk fun hp => ?_) | (with_reducible refine AllE.mk fun p => ?_) | (with_reducible refine AllR.mk fun rest => ?_) | (with_reducible refine AllK.mk fun K => ?_))))); repeat' (with_reducible refine And.intro ?_ ?_))
  any_goals ((try (refine w_seq fun K hK => ?_)); (try (refine w_block ?_)); refine w_loop (A := Nat) (fun k => k ≤ ps.length) (fun k => ps.length - k) (fun k => [(3, .int .i64 (lenP (ps.take k) : Nat)), (14, .int .i64 k)]) (fun k => []) (0) (ws := ?ws1) (tk := ?tk1) ?hw1 ?ht1 ?hi ?h0 ?LH1; (case hw1 => simp only [go_sem, decide_true, decide_false, Int.reduceToNat, Nat.min_eq_left, Nat.min_eq_right, Int.reducePow, Nat.reducePow, Int.reduceLE, Int.reduceLT, Int.reduceMul, Int.reduceAdd, Int.reduceSub, Int.reduceNeg, Bool.not_true, Bool.not_false, Bool.not_not, ↓reduceIte, Nat.reduceAdd, Nat.reduceSub, Nat.reduceMul, Nat.reduceEqDiff, reduceCtorEq, Nat.reduceLT, Nat.reduceLeDiff, Nat.reduceGT]; exact rfl); (case ht1 => simp only [go_sem, decide_true, decide_false, Int.reduceToNat, Nat.min_eq_left, Nat.min_eq_right, Int.reducePow, Nat.reducePow, Int.reduceLE, Int.reduceLT, Int.reduceMul, Int.reduceAdd, Int.reduceSub, Int.reduceNeg, Bool.not_true, Bool.not_false, Bool.not_not, ↓reduceIte, Nat.reduceAdd, Nat.reduceSub, Nat.reduceMul, Nat.reduceEqDiff, reduceCtorEq, Nat.reduceLT, Nat.reduceLeDiff, Nat.reduceGT]; exact rfl); (case' LH1 => rintro k E t hx hE ht; simp only [go_sem] at ht; subst ht; simp only [go_sem]; try dsimp only at hx))
  case hi => exact Nat.zero_le _
  case h0 =>
    refine at_sameS (show 1 ≤ h.length by omega) S fun σ hσ => ?_
    have hσ2 : ∀ t, t < h.length → σ[t]? = some t := fun z hz => hσ z hz
    simp only [go_sem]
    (repeat' (first | (refine And.intro ?_ ?_) | (with_reducible rfl) | exact hσ2 _ (by omega) | exact trivial))
    all_goals rfl
  case LH1 =>
    have hk0 : k ≤ ps.length := hx
    have hll := lenP_le hl k hk0
    by_cases hk : k < ps.length
    · have hkd : decide ((k : Int) < (ps.length : Int)) = true := decide_eq_true (by omega)
      have hw : IntKind.i64.wrap ((k : Int) + 1) = ((k + 1 : Nat) : Int) := by rw [wrap_i64 _ (by omega) (by omega)]; omega
      have hn := lenP_next hk
      have hl2 := hl k hk
      obtain ⟨n1, n2⟩ := flatP_at A.len hk
      obtain ⟨xs, hxs⟩ : ∃ xs, (pAt ps k).list = xs := ⟨_, rfl⟩
      rw [hxs] at n2 hl2 hn
      have hw2 : IntKind.i64.wrap ((lenP (ps.take k) : Int) + (xs.length : Int)) = ((lenP (ps.take k) + xs.length : Nat) : Int) := by rw [wrap_i64 _ (by omega) (by omega)]; omega
      have n3 := flatP_two A.len hk
      rw [hxs] at n3
      (have zx1 := @hkd; have zx2 := @hw; have zx3 := @hw2; have zx4 := @o; have zx5 := @o1; have zx6 := @t2; have zx7 := @n3; have zx8 := @hfl; all_goals (try ((first | (with_reducible refine wp_id ?_) | (with_reducible refine does_id ?_) | (with_reducible refine ops_id ?_)); refine walk ?_; (repeat' (first | exact trivial | with_reducible refine And.intro ?_ ?_)); all_goals (repeat (first | (with_reducible refine ImpB.mk fun hb => ?_) | (with_reducible refine ImpK.mk fun hK => ?_) | (with_reducible refine ImpF.mk fun hF => ?_) | (with_reducible refine ImpQ.mk fun hp => ?_) | (with_reducible refine AllE.mk fun p => ?_) | (with_reducible refine AllR.mk fun rest => ?_) | (with_reducible refine AllK.mk fun K => ?_))))); repeat' (with_reducible refine And.intro ?_ ?_))
      any_goals first | exact Int.natCast_nonneg _ | (show (k : Int) < (ps.length : Int); omega) | (show k * 2 + 1 < ps.length * 2; omega)
      refine ⟨k + 1, ⟨(by omega : k + 1 ≤ ps.length), (by first | omega | (dsimp only; omega))⟩, ?_⟩
      dsimp only
      rw [hn]
      refine at_drop (show 1 ≤ h.length by omega) S ?_
      simp only [go_sem]
      (repeat' (first | (refine And.intro ?_ ?_) | (with_reducible rfl) | exact rng_at (by omega) | exact trivial))
    · have hkd : decide ((k : Int) < (ps.length : Int)) = false := decide_eq_false (by omega)
      have hke : ps.take k = ps := List.take_of_length_le (by omega)
      rw [hke]
      (have zx1 := @hkd; all_goals (try ((first | (with_reducible refine wp_id ?_) | (with_reducible refine does_id ?_) | (with_reducible refine ops_id ?_)); refine walk ?_; (repeat' (first | exact trivial | with_reducible refine And.intro ?_ ?_)); all_goals (repeat (first | (with_reducible refine ImpB.mk fun hb => ?_) | (with_reducible refine ImpK.mk fun hK => ?_) | (with_reducible refine ImpF.mk fun hF => ?_) | (with_reducible refine ImpQ.mk fun hp => ?_) | (with_reducible refine AllE.mk fun p => ?_) | (with_reducible refine AllR.mk fun rest => ?_) | (with_reducible refine AllK.mk fun K => ?_))))); repeat' (with_reducible refine And.intro ?_ ?_))
      exact end_arc (r := .int .i64 (lenP ps : Nat)) A (show fitA [0] (.int .i64 _) (.int .i64 _) from ⟨rfl, rfl⟩)
theorem c_lenM {h : List Ch} {K : KT} {u : Nat} {ps : List Prc} (H : K (.int .i64 (lenP ps : Nat)) h) (o : hth h u = .pack (AM ps)) (e1 : okCl ps) : Does Try.prog 14 [.ptr u 0] h K := by
  by_cases hn : ps.length = 0
  · obtain rfl := List.eq_nil_of_length_eq_zero hn
    exact frame_obj0 b_lenE o (by simp) (fitC_pack _) (br_cons (br_ptr rfl) br_nil) (.inl rfl) (fun _ => rfl) rfl (by rw [show AE = AM [] from rfl, set_hth o (by simp)]; exact H)
  · exact frame_obj0 (b_lenM ps (by omega) e1.max e1.lst) o (by simp) (fitC_pack _) (br_cons (br_ptr rfl) br_nil) (.inl rfl) (fun _ => rfl) rfl (by rw [set_hth o (by simp)]; exact H)
abbrev i_lenM := Ctr.mk (i := 1) (g := 14) @c_lenM
attribute [instance] i_lenM
end Go.V
