/-
  The memory at hand: new blocks, changed blocks, blocks that are frozen.
-/
import Derived.Test.YtmfhicbbhncddaaV3
set_option linter.unusedVariables false
set_option linter.unusedSimpArgs false
namespace Go.V

def Ety.get (e : Ety) (xs : List e.T) (i : Nat) : e.T := xs.getD i e.dflt

theorem HRel.get {R : RO} {w : World} {μ : List Bind} : ∀ {h : List Ch} {m : List Bind} {t : Nat} {c : Ch}, HRel R w μ h m → h[t]? = some c → ∃ B, m[t]? = some B ∧ CRel R w μ c B ∧ ∀ n ∈ ownC c B, n ∈ ownH h m
  | [], _, _, _, _, e => by simp at e
  | c :: l, B :: m, 0, _, h, e => by simp at e; subst e; exact ⟨B, rfl, h.1, fun n hn => by simp [ownH, hn]⟩
  | c :: l, B :: m, t + 1, _, h, e => by
    obtain ⟨B', h1, h2, h3⟩ := HRel.get h.2 (by simpa using e)
    exact ⟨B', by simpa using h1, h2, fun n hn => by simp [ownH, h3 n hn]⟩
  | _ :: _, [], _, _, h, _ => h.elim
theorem ownH_set_sub {c' : Ch} : ∀ {h : List Ch} {m : List Bind} {t : Nat}, (∀ c B, h[t]? = some c → m[t]? = some B → (ownC c' B).Sublist (ownC c B)) → (ownH (h.set t c') m).Sublist (ownH h m)
  | [], m, t, _ => by simp
  | _ :: _, [], t, _ => by cases t <;> simp [ownH]
  | c :: l, B :: m, 0, hs => by simp only [List.set_cons_zero, ownH]; exact (hs c B rfl rfl).append (List.Sublist.refl _)
  | c :: l, B :: m, t + 1, hs => by simp only [List.set_cons_succ, ownH]; exact (List.Sublist.refl _).append (ownH_set_sub fun c B h1 h2 => hs c B (by simpa using h1) (by simpa using h2))
theorem HRel.set {R R' : RO} (hR : R.le R') {w w' : World} {μ : List Bind} {c c' : Ch} {B : Bind} : ∀ {h : List Ch} {m : List Bind} {t : Nat}, HRel R w μ h m → (ownH h m).Nodup → h[t]? = some c → m[t]? = some B →
    (∀ n ∈ ownH h m, n ∉ ownC c B → w'.heap[n]? = w.heap[n]?) → CRel R' w' μ c' B → HRel R' w' μ (h.set t c') m
  | [], _, _, _, _, e, _, _, _ => by simp at e
  | _ :: _, [], _, h, _, _, _, _, _ => h.elim
  | c0 :: l, B0 :: m, 0, h, hn, e, e', hk, hc => by
    simp at e e'; subst e; subst e'
    simp only [ownH, List.nodup_append] at hn
    refine ⟨hc, HRel.keep hR (Ext.refl μ) l m h.2 fun n hm => hk n (by simp [ownH, hm]) fun hx => hn.2.2 n hx n hm rfl⟩
  | c0 :: l, B0 :: m, t + 1, h, hn, e, e', hk, hc => by
    simp only [ownH, List.nodup_append] at hn
    obtain ⟨B1, h1, _, h3⟩ := HRel.get h.2 (by simpa using e)
    have hB : B1 = B := by
      rw [List.getElem?_cons_succ] at e'
      rw [e'] at h1
      exact (Option.some.inj h1).symm
    subst hB
    refine ⟨CRel.keep hR (Ext.refl μ) c0 B0 h.1 fun n hm => hk n (by simp [ownH, hm]) fun hx => hn.2.2 n hm n (h3 n hx) rfl, ?_⟩
    exact HRel.set hR h.2 hn.2.1 (by simpa using e) (by simpa using e') (fun n hm hx => hk n (by simp [ownH, hm]) hx) hc

/-- chunk t is changed; the worlds differ at its blocks alone (and in new blocks) -/
theorem HOk.set {R : RO} {μ : List Bind} {h : List Ch} {w w' : World} {t : Nat} {c c' : Ch} {B : Bind} (H : HOk R μ h w) (hc : h[t]? = some c) (hB : μ[t]? = some B)
    (hs : (ownC c' B).Sublist (ownC c B)) (hk : ∀ n, n < w.heap.size → n ∉ ownC c B → w'.heap[n]? = w.heap[n]?) (hz : w.heap.size ≤ w'.heap.size) (hr : CRel R w' μ c' B)
    (hos : w'.os = w.os) (htp : w'.tape = w.tape) (hou : w'.output = w.output) :
    HOk R μ (h.set t c') w' ∧ Step (ownH h μ) R w (ownH (h.set t c') μ) R w' := by
  have hsub : (ownH (h.set t c') μ).Sublist (ownH h μ) := ownH_set_sub fun c0 B0 h1 h2 => by
    rw [hc] at h1; rw [hB] at h2
    rw [← Option.some.inj h1, ← Option.some.inj h2]; exact hs
  obtain ⟨B', h1, _, h3⟩ := H.rel.get hc
  have : B' = B := by rw [hB] at h1; exact (Option.some.inj h1).symm
  subst this
  refine ⟨⟨H.rel.set (RO.le.refl R) H.nodup hc hB (fun n hn hx => hk n (H.own n hn).1 hx) hr, H.nodup.sublist hsub, fun b hb => ⟨Nat.lt_of_lt_of_le (H.own b (hsub.subset hb)).1 hz, (H.own b (hsub.subset hb)).2⟩, fun b o hb => ?_⟩, ?_⟩
  · have h4 := H.ro b o hb
    have hlt : b < w.heap.size := (Array.getElem?_eq_some_iff.1 h4).1
    rw [hk b hlt (fun hx => by have := (H.own b (h3 b hx)).2; rw [this] at hb; simp at hb)]
    exact h4
  · exact ⟨RO.le.refl R, hz, fun b hb hx => hk b hb (fun hy => hx (h3 b hy)), fun b hb => .inl (hsub.subset hb), fun _ _ hb => .inl hb, hos, htp, hou⟩

/-- a new chunk in new blocks -/
theorem HOk.push {R : RO} {μ : List Bind} {h : List Ch} {w w' : World} {c : Ch} {B : Bind} (H : HOk R μ h w) (hk : ∀ n, n < w.heap.size → w'.heap[n]? = w.heap[n]?) (hz : w.heap.size ≤ w'.heap.size)
    (hn : (ownC c B).Nodup) (ho : ∀ n ∈ ownC c B, w.heap.size ≤ n ∧ n < w'.heap.size) (hr : CRel R w' (μ ++ [B]) c B)
    (hos : w'.os = w.os) (htp : w'.tape = w.tape) (hou : w'.output = w.output) :
    HOk R (μ ++ [B]) (h ++ [c]) w' ∧ Step (ownH h μ) R w (ownH (h ++ [c]) (μ ++ [B])) R w' := by
  have he : ownH (h ++ [c]) (μ ++ [B]) = ownH h μ ++ ownC c B := by
    rw [ownH_app _ _ _ _ H.rel.len]; simp [ownH]
  refine ⟨⟨?_, ?_, fun b hb => ?_, fun b o hb => ?_⟩, ⟨RO.le.refl R, hz, fun b hb _ => hk b hb, fun b hb => ?_, fun _ _ hb => .inl hb, hos, htp, hou⟩⟩
  · exact HRel.app (HRel.keep (RO.le.refl R) (Ext.app _ _) h μ H.rel fun n hn => hk n (H.own n hn).1) ⟨hr, trivial⟩
  · rw [he, List.nodup_append]
    exact ⟨H.nodup, hn, fun a ha b hb e => by subst e; have := (H.own a ha).1; have := (ho a hb).1; omega⟩
  · rw [he, List.mem_append] at hb
    rcases hb with hb | hb
    · exact ⟨Nat.lt_of_lt_of_le (H.own b hb).1 hz, (H.own b hb).2⟩
    · refine ⟨(ho b hb).2, ?_⟩
      cases hR : R b with
      | none => rfl
      | some o =>
        have := (Array.getElem?_eq_some_iff.1 (H.ro b o hR)).1
        have := (ho b hb).1
        omega
  · have h4 := H.ro b o hb
    rw [hk b (Array.getElem?_eq_some_iff.1 h4).1]; exact h4
  · rw [he, List.mem_append] at hb
    rcases hb with hb | hb
    · exact .inl hb
    · exact .inr (ho b hb).1

/-- nothing at hand changes -/
theorem HOk.same {R : RO} {μ : List Bind} {h : List Ch} {w w' : World} (H : HOk R μ h w) (hk : ∀ n, n < w.heap.size → w'.heap[n]? = w.heap[n]?) (hz : w.heap.size ≤ w'.heap.size)
    (hos : w'.os = w.os) (htp : w'.tape = w.tape) (hou : w'.output = w.output) : HOk R μ h w' ∧ Step (ownH h μ) R w (ownH h μ) R w' :=
  ⟨⟨HRel.keep (RO.le.refl R) (Ext.refl μ) h μ H.rel fun n hn => hk n (H.own n hn).1, H.nodup, fun b hb => ⟨Nat.lt_of_lt_of_le (H.own b hb).1 hz, (H.own b hb).2⟩, fun b o hb => by
    have h4 := H.ro b o hb
    rw [hk b (Array.getElem?_eq_some_iff.1 h4).1]; exact h4⟩, ⟨RO.le.refl R, hz, fun b hb _ => hk b hb, fun _ hb => .inl hb, fun _ _ hb => .inl hb, hos, htp, hou⟩⟩

/-- a new block that lies for good -/
def RO.put (R : RO) (b : Nat) (o : Obj) : RO := fun x => if x = b then some o else R x
theorem HOk.lay {R : RO} {μ : List Bind} {h : List Ch} {w w' : World} {b : Nat} {o : Obj} (H : HOk R μ h w) (hb : w.heap.size ≤ b) (ho : w'.heap[b]? = some o) (hk : ∀ n, n < w.heap.size → w'.heap[n]? = w.heap[n]?) (hz : w.heap.size ≤ w'.heap.size)
    (hos : w'.os = w.os) (htp : w'.tape = w.tape) (hou : w'.output = w.output) : HOk (R.put b o) μ h w' ∧ Step (ownH h μ) R w (ownH h μ) (R.put b o) w' ∧ R.le (R.put b o) := by
  have hle : R.le (R.put b o) := fun x y hx => by
    unfold RO.put
    have := (Array.getElem?_eq_some_iff.1 (H.ro x y hx)).1
    rw [if_neg (by omega)]; exact hx
  refine ⟨⟨HRel.keep hle (Ext.refl μ) h μ H.rel fun n hn => hk n (H.own n hn).1, H.nodup, fun x hx => ⟨Nat.lt_of_lt_of_le (H.own x hx).1 hz, ?_⟩, fun x y hx => ?_⟩, ⟨hle, hz, fun n hn _ => hk n hn, fun _ hx => .inl hx, fun x y hx => ?_, hos, htp, hou⟩, hle⟩
  · unfold RO.put
    have := (H.own x hx).1
    rw [if_neg (by omega)]; exact (H.own x hx).2
  · unfold RO.put at hx
    split at hx
    · rename_i e; subst e; rw [← hx]; exact ho
    · have h4 := H.ro x y hx
      rw [hk x (Array.getElem?_eq_some_iff.1 h4).1]; exact h4
  · unfold RO.put at hx
    split at hx
    · rename_i e; subst e; exact .inr (.inr hb)
    · exact .inl hx

theorem ownC_gone (B : Bind) : ownC .gone B = [] := by cases B <;> rfl
theorem gone_sub (B : Bind) (l : List Nat) : (ownC .gone B).Sublist l := by rw [ownC_gone]; exact List.nil_sublist l
theorem own_mem {c : Ch} {B : Bind} : ∀ {h : List Ch} {m : List Bind} {t : Nat}, h[t]? = some c → m[t]? = some B → ∀ b ∈ ownC c B, b ∈ ownH h m
  | [], _, _, e, _, _, _ => by simp at e
  | _ :: _, [], _, _, e, _, _ => by simp at e
  | _ :: _, _ :: _, 0, e1, e2, b, hb => by simp at e1 e2; subst e1; subst e2; simp [ownH, hb]
  | _ :: l, _ :: m, t + 1, e1, e2, b, hb => by
    simp only [ownH, List.mem_append]; exact .inr (own_mem (by simpa using e1) (by simpa using e2) b hb)
theorem own_gone {c : Ch} {B : Bind} : ∀ {h : List Ch} {m : List Bind} {t : Nat}, (ownH h m).Nodup → h[t]? = some c → m[t]? = some B → ∀ b ∈ ownC c B, b ∉ ownH (h.set t .gone) m
  | [], _, _, _, e, _, _, _ => by simp at e
  | _ :: _, [], _, _, _, e, _, _ => by simp at e
  | c0 :: l, B0 :: m, 0, hn, e1, e2, b, hb => by
    simp at e1 e2; subst e1; subst e2
    simp only [ownH, List.nodup_append] at hn
    simp only [List.set_cons_zero, ownH, ownC, List.nil_append]
    exact fun hx => hn.2.2 b hb b hx rfl
  | c0 :: l, B0 :: m, t + 1, hn, e1, e2, b, hb => by
    simp only [ownH, List.nodup_append] at hn
    simp only [List.set_cons_succ, ownH, List.mem_append]
    rintro (hx | hx)
    · exact hn.2.2 b hx b (own_mem (by simpa using e1) (by simpa using e2) b hb) rfl
    · exact own_gone hn.2.1 (by simpa using e1) (by simpa using e2) b hb hx

/-- chunk t goes over into a new chunk -/
theorem HOk.move {R : RO} {μ : List Bind} {h : List Ch} {w w' : World} {t : Nat} {c c' : Ch} {B B' : Bind} (H : HOk R μ h w) (hc : h[t]? = some c) (hB : μ[t]? = some B)
    (hs : (ownC c' B').Sublist (ownC c B)) (hk : ∀ n, n < w.heap.size → n ∉ ownC c B → w'.heap[n]? = w.heap[n]?) (hz : w.heap.size ≤ w'.heap.size) (hr : CRel R w' (μ ++ [B']) c' B')
    (hos : w'.os = w.os) (htp : w'.tape = w.tape) (hou : w'.output = w.output) :
    HOk R (μ ++ [B']) (h.set t .gone ++ [c']) w' ∧ Step (ownH h μ) R w (ownH (h.set t .gone ++ [c']) (μ ++ [B'])) R w' := by
  obtain ⟨H1, hst⟩ := H.set (c' := .gone) hc hB (gone_sub _ _) hk hz trivial hos htp hou
  have he : ownH (h.set t .gone ++ [c']) (μ ++ [B']) = ownH (h.set t .gone) μ ++ ownC c' B' := by
    rw [ownH_app _ _ _ _ H1.rel.len]; simp [ownH]
  have hsub : ∀ b ∈ ownC c' B', b ∈ ownH h μ := fun b hb => own_mem hc hB b (hs.subset hb)
  have hnd : (ownC c B).Nodup := by
    have key : ∀ (h : List Ch) (m : List Bind) (t : Nat), (ownH h m).Nodup → h[t]? = some c → m[t]? = some B → (ownC c B).Nodup := by
      intro h
      induction h with
      | nil => intro m t _ e; simp at e
      | cons a l ih =>
        intro m t hn e1 e2
        cases m with
        | nil => simp at e2
        | cons b m =>
          simp only [ownH, List.nodup_append] at hn
          cases t with
          | zero => simp at e1 e2; subst e1; subst e2; exact hn.1
          | succ t => exact ih m t hn.2.1 (by simpa using e1) (by simpa using e2)
    exact key h μ t H.nodup hc hB
  refine ⟨⟨HRel.app (HRel.keep (RO.le.refl R) (Ext.app _ _) _ _ H1.rel fun _ _ => rfl) ⟨hr, trivial⟩, ?_, fun b hb => ?_, H1.ro⟩, ⟨RO.le.refl R, hz, hst.out, fun b hb => ?_, fun _ _ hb => .inl hb, hos, htp, hou⟩⟩
  · rw [he, List.nodup_append]
    exact ⟨H1.nodup, hnd.sublist hs, fun a ha b hb e => by subst e; exact own_gone H.nodup hc hB a (hs.subset hb) ha⟩
  · rw [he, List.mem_append] at hb
    rcases hb with hb | hb
    · exact H1.own b hb
    · exact ⟨Nat.lt_of_lt_of_le (H.own b (hsub b hb)).1 hz, (H.own b (hsub b hb)).2⟩
  · rw [he, List.mem_append] at hb
    rcases hb with hb | hb
    · exact hst.own b hb
    · exact .inl (hsub b hb)

/-- chunk t, a row, lies for good from now on -/
theorem HOk.freeze {R : RO} {μ : List Bind} {h : List Ch} {w : World} {t : Nat} {e : Ety} {xs : List e.T} (H : HOk R μ h w) (hc : h[t]? = some (.rows e xs)) :
    ∃ R', HOk R' μ (h.set t .gone) w ∧ Step (ownH h μ) R w (ownH (h.set t .gone) μ) R' w ∧ R.le R' ∧
      ∀ (s n : Nat) (v : Value), Rel R μ (.sl t e s n) v → s + n ≤ xs.length → Rel R' μ (.ro e ((xs.drop s).take n)) v := by
  obtain ⟨B, hB, hr, hown⟩ := H.rel.get hc
  have hsub : (ownH (h.set t .gone) μ).Sublist (ownH h μ) := ownH_set_sub fun c0 B0 h1 h2 => by simp [ownC]
  rcases hr with ⟨rfl, rfl⟩ | ⟨b, cap, arr, ty, rfl, hb, hsz, hlen, hcap, hrel⟩
  · refine ⟨R, ⟨H.rel.set (RO.le.refl R) H.nodup hc hB (fun _ _ _ => rfl) trivial, H.nodup.sublist hsub, fun b hb => H.own b (hsub.subset hb), H.ro⟩, ⟨RO.le.refl R, Nat.le_refl _, fun _ _ _ => rfl, fun b hb => .inl (hsub.subset hb), fun _ _ hb => .inl hb, rfl, rfl, rfl⟩, RO.le.refl R, fun s n v hv hl => ?_⟩
    have hn : n = 0 := by simpa using (show n ≤ 0 by simp at hl; omega)
    subst hn
    simp only [List.drop_nil, List.take_nil]
    cases hv with
    | sl h1 => rw [hB] at h1; simp at h1
    | sl0 => exact .ro0 (Nat.zero_le _)
  · have hbo : b ∈ ownH h μ := hown b (by simp [ownC])
    have hRb := (H.own b hbo).2
    have hle : R.le (R.put b (.cells arr ty (0, 0))) := fun x y hx => by
      unfold RO.put
      by_cases e : x = b
      · subst e; rw [hRb] at hx; simp at hx
      · rw [if_neg e]; exact hx
    have hnot : b ∉ ownH (h.set t .gone) μ := by
      have key : ∀ (h : List Ch) (m : List Bind) (t : Nat), (ownH h m).Nodup → h[t]? = some (.rows e xs) → m[t]? = some (.blk b cap) → b ∉ ownH (h.set t .gone) m := by
        intro h
        induction h with
        | nil => intro m t _ e _; simp at e
        | cons c l ih =>
          intro m t hn e1 e2
          cases m with
          | nil => simp at e2
          | cons B m =>
            simp only [ownH, List.nodup_append] at hn
            cases t with
            | zero =>
              simp at e1 e2
              subst e1; subst e2
              simp only [List.set_cons_zero, ownH, ownC, List.nil_append]
              exact fun hx => hn.2.2 b (by simp [ownC]) b hx rfl
            | succ t =>
              simp only [List.set_cons_succ, ownH, List.mem_append]
              rintro (hx | hx)
              · have : b ∈ ownH l m := by
                  have key2 : ∀ (h : List Ch) (m : List Bind) (t : Nat), h[t]? = some (.rows e xs) → m[t]? = some (.blk b cap) → b ∈ ownH h m := by
                    intro h
                    induction h with
                    | nil => intro m t e1 _; simp at e1
                    | cons c l ih =>
                      intro m t e1 e2
                      cases m with
                      | nil => simp at e2
                      | cons B m =>
                        cases t with
                        | zero => simp at e1 e2; subst e1; subst e2; simp [ownH, ownC]
                        | succ t => simp only [ownH, List.mem_append]; exact .inr (ih m t (by simpa using e1) (by simpa using e2))
                  exact key2 l m t (by simpa using e1) (by simpa using e2)
                exact hn.2.2 b hx b this rfl
              · exact ih m t hn.2.1 (by simpa using e1) (by simpa using e2) hx
      exact key h μ t H.nodup hc hB
    refine ⟨R.put b (.cells arr ty (0, 0)), ⟨H.rel.set hle H.nodup hc hB (fun _ _ _ => rfl) trivial, H.nodup.sublist hsub, fun x hx => ⟨(H.own x (hsub.subset hx)).1, ?_⟩, fun x y hx => ?_⟩, ⟨hle, Nat.le_refl _, fun _ _ _ => rfl, fun x hx => .inl (hsub.subset hx), fun x y hx => ?_, rfl, rfl, rfl⟩, hle, fun s n v hv hl => ?_⟩
    · unfold RO.put
      rw [if_neg (fun e : x = b => hnot (e ▸ hx))]; exact (H.own x (hsub.subset hx)).2
    · unfold RO.put at hx
      split at hx
      · rename_i e; subst e; rw [← hx]; exact hb
      · exact H.ro x y hx
    · unfold RO.put at hx
      split at hx
      · rename_i e; subst e; exact .inr (.inl hbo)
      · exact .inl hx
    · have hll : ((xs.drop s).take n).length = n := by simp; omega
      cases hv with
      | @sl _ _ _ _ _ b' cap' c h1 hc1 hl1 hm1 =>
        rw [hB] at h1
        simp only [Option.some.injEq, Bind.blk.injEq] at h1
        obtain ⟨rfl, rfl⟩ := h1
        have h2 : Rel (R.put b (.cells arr ty (0, 0))) μ (.ro e ((xs.drop s).take n)) (.slice (some ⟨b, s * e.sz, none⟩) ((xs.drop s).take n).length c) := by
          refine .ro (arr := arr) (ty := ty) (fr := (0, 0)) (by simp [RO.put]) ?_ (by omega) (by omega)
          have h3 := ((hrel.drop (s * e.sz)).take (n * e.sz)).mono hle (Ext.refl _)
          rw [flat_take, flat_drop, hll]
          have e1 : ((arr.toList.drop (s * e.sz)).take (n * e.sz)) = ((arr.toList.take (xs.length * e.sz)).drop (s * e.sz)).take (n * e.sz) := by
            rw [List.drop_take, List.take_take, Nat.min_eq_left]
            rw [← Nat.sub_mul]
            exact Nat.mul_le_mul_right _ (by omega)
          rw [e1]
          exact h3
        rw [hll] at h2
        exact h2
      | sl0 => simp; exact .ro0 (Nat.zero_le _)
end Go.V
