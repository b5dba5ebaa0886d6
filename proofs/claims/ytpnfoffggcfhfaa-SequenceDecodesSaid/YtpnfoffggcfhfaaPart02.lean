/-
  The memory at hand: new blocks, changed blocks, blocks that are frozen.
  The operations that read or write memory, over abstract values.
  Soundness of the operations on memory.
  Soundness of stores, new blocks, append.
  Soundness of append.
-/
import Derived.Test.YtpnfoffggcfhfaaPart01
import Derived.Deep.AppendSrc
import Derived.Laws.BytesString
set_option linter.unusedVariables false
set_option linter.unusedSimpArgs false
namespace Go.V

def Ety.get (e : Ety) (xs : List e.T) (i : Nat) : e.T := xs.getD i e.dflt

theorem HRel.get {R : RO} {w : World} {μ : List Bind} : ∀ {h : List Ch} {m : List Bind} {t : Nat} {c : Ch}, HRel R w μ h m → h[t]? = some c → ∃ B, m[t]? = some B ∧ CRel R w μ c B ∧ ∀ n ∈ ownC c B, n ∈ ownH h m
  | [], _, _, _, _, e => by simp at e
  | c :: l, B :: m, 0, _, h, e => by simp at e; subst e; exact ⟨B, rfl, h.1, fun n hn => by simp [ownH, hn]⟩
  | c :: l, B :: m, t + 1, _, h, e => by
    obtain ⟨B', h1, h2, h3⟩ := HRel.get h.2 (by simpa using e)
    exact ⟨B', by simpa using h1, h2, fun n hn => by simp [ownH, h3 n hn]⟩
  | _ :: _, [], _, _, h, _ => h.elim
theorem ownH_set_sub {c' : Ch} : ∀ {h : List Ch} {m : List Bind} {t : Nat}, (∀ c B, h[t]? = some c → m[t]? = some B → (ownC c' B).Sublist (ownC c B)) → (ownH (h.set t c') m).Sublist (ownH h m)
  | [], m, t, _ => by simp
  | _ :: _, [], t, _ => by cases t <;> simp [ownH]
  | c :: l, B :: m, 0, hs => by simp only [List.set_cons_zero, ownH]; exact (hs c B rfl rfl).append (List.Sublist.refl _)
  | c :: l, B :: m, t + 1, hs => by simp only [List.set_cons_succ, ownH]; exact (List.Sublist.refl _).append (ownH_set_sub fun c B h1 h2 => hs c B (by simpa using h1) (by simpa using h2))
theorem HRel.set {R R' : RO} (hR : R.le R') {w w' : World} {μ : List Bind} {c c' : Ch} {B : Bind} : ∀ {h : List Ch} {m : List Bind} {t : Nat}, HRel R w μ h m → (ownH h m).Nodup → h[t]? = some c → m[t]? = some B →
    (∀ n ∈ ownH h m, n ∉ ownC c B → w'.heap[n]? = w.heap[n]?) → CRel R' w' μ c' B → HRel R' w' μ (h.set t c') m
  | [], _, _, _, _, e, _, _, _ => by simp at e
  | _ :: _, [], _, h, _, _, _, _, _ => h.elim
  | c0 :: l, B0 :: m, 0, h, hn, e, e', hk, hc => by
    simp at e e'; subst e; subst e'
    simp only [ownH, List.nodup_append] at hn
    refine ⟨hc, HRel.keep hR (Ext.refl μ) l m h.2 fun n hm => hk n (by simp [ownH, hm]) fun hx => hn.2.2 n hx n hm rfl⟩
  | c0 :: l, B0 :: m, t + 1, h, hn, e, e', hk, hc => by
    simp only [ownH, List.nodup_append] at hn
    obtain ⟨B1, h1, _, h3⟩ := HRel.get h.2 (by simpa using e)
    have hB : B1 = B := by
      rw [List.getElem?_cons_succ] at e'
      rw [e'] at h1
      exact (Option.some.inj h1).symm
    subst hB
    refine ⟨CRel.keep hR (Ext.refl μ) c0 B0 h.1 fun n hm => hk n (by simp [ownH, hm]) fun hx => hn.2.2 n hm n (h3 n hx) rfl, ?_⟩
    exact HRel.set hR h.2 hn.2.1 (by simpa using e) (by simpa using e') (fun n hm hx => hk n (by simp [ownH, hm]) hx) hc

/-- chunk t is changed; the worlds differ at its blocks alone (and in new blocks) -/
theorem HOk.set {R : RO} {μ : List Bind} {h : List Ch} {w w' : World} {t : Nat} {c c' : Ch} {B : Bind} (H : HOk R μ h w) (hc : h[t]? = some c) (hB : μ[t]? = some B)
    (hs : (ownC c' B).Sublist (ownC c B)) (hk : ∀ n, n < w.heap.size → n ∉ ownC c B → w'.heap[n]? = w.heap[n]?) (hz : w.heap.size ≤ w'.heap.size) (hr : CRel R w' μ c' B)
    (hos : w'.os = w.os) (htp : w'.tape = w.tape) (hou : w'.output = w.output) (hdr : w.drawn ≤ w'.drawn := by first | exact Nat.le_refl _ | exact Nat.le_succ _ | exact Nat.le_add_right _ _) :
    HOk R μ (h.set t c') w' ∧ Step (ownH h μ) R w (ownH (h.set t c') μ) R w' := by
  have hsub : (ownH (h.set t c') μ).Sublist (ownH h μ) := ownH_set_sub fun c0 B0 h1 h2 => by
    rw [hc] at h1; rw [hB] at h2
    rw [← Option.some.inj h1, ← Option.some.inj h2]; exact hs
  obtain ⟨B', h1, _, h3⟩ := H.rel.get hc
  have : B' = B := by rw [hB] at h1; exact (Option.some.inj h1).symm
  subst this
  refine ⟨⟨H.rel.set (RO.le.refl R) H.nodup hc hB (fun n hn hx => hk n (H.own n hn).1 hx) hr, H.nodup.sublist hsub, fun b hb => ⟨Nat.lt_of_lt_of_le (H.own b (hsub.subset hb)).1 hz, (H.own b (hsub.subset hb)).2⟩, fun b o hb => ?_⟩, ?_⟩
  · have h4 := H.ro b o hb
    have hlt : b < w.heap.size := (Array.getElem?_eq_some_iff.1 h4).1
    rw [hk b hlt (fun hx => by have := (H.own b (h3 b hx)).2; rw [this] at hb; simp at hb)]
    exact h4
  · exact ⟨RO.le.refl R, hz, fun b hb hx => hk b hb (fun hy => hx (h3 b hy)), fun b hb => .inl (hsub.subset hb), fun _ _ hb => .inl hb, hos, htp, hou, hdr⟩

/-- a new chunk in new blocks -/
theorem HOk.push {R : RO} {μ : List Bind} {h : List Ch} {w w' : World} {c : Ch} {B : Bind} (H : HOk R μ h w) (hk : ∀ n, n < w.heap.size → w'.heap[n]? = w.heap[n]?) (hz : w.heap.size ≤ w'.heap.size)
    (hn : (ownC c B).Nodup) (ho : ∀ n ∈ ownC c B, w.heap.size ≤ n ∧ n < w'.heap.size) (hr : CRel R w' (μ ++ [B]) c B)
    (hos : w'.os = w.os) (htp : w'.tape = w.tape) (hou : w'.output = w.output) (hdr : w.drawn ≤ w'.drawn := by first | exact Nat.le_refl _ | exact Nat.le_succ _ | exact Nat.le_add_right _ _) :
    HOk R (μ ++ [B]) (h ++ [c]) w' ∧ Step (ownH h μ) R w (ownH (h ++ [c]) (μ ++ [B])) R w' := by
  have he : ownH (h ++ [c]) (μ ++ [B]) = ownH h μ ++ ownC c B := by
    rw [ownH_app _ _ _ _ H.rel.len]; simp [ownH]
  refine ⟨⟨?_, ?_, fun b hb => ?_, fun b o hb => ?_⟩, ⟨RO.le.refl R, hz, fun b hb _ => hk b hb, fun b hb => ?_, fun _ _ hb => .inl hb, hos, htp, hou, hdr⟩⟩
  · exact HRel.app (HRel.keep (RO.le.refl R) (Ext.app _ _) h μ H.rel fun n hn => hk n (H.own n hn).1) ⟨hr, trivial⟩
  · rw [he, List.nodup_append]
    exact ⟨H.nodup, hn, fun a ha b hb e => by subst e; have := (H.own a ha).1; have := (ho a hb).1; omega⟩
  · rw [he, List.mem_append] at hb
    rcases hb with hb | hb
    · exact ⟨Nat.lt_of_lt_of_le (H.own b hb).1 hz, (H.own b hb).2⟩
    · refine ⟨(ho b hb).2, ?_⟩
      cases hR : R b with
      | none => rfl
      | some o =>
        have := (Array.getElem?_eq_some_iff.1 (H.ro b o hR)).1
        have := (ho b hb).1
        omega
  · have h4 := H.ro b o hb
    rw [hk b (Array.getElem?_eq_some_iff.1 h4).1]; exact h4
  · rw [he, List.mem_append] at hb
    rcases hb with hb | hb
    · exact .inl hb
    · exact .inr (ho b hb).1

/-- nothing at hand changes -/
theorem HOk.same {R : RO} {μ : List Bind} {h : List Ch} {w w' : World} (H : HOk R μ h w) (hk : ∀ n, n < w.heap.size → w'.heap[n]? = w.heap[n]?) (hz : w.heap.size ≤ w'.heap.size)
    (hos : w'.os = w.os) (htp : w'.tape = w.tape) (hou : w'.output = w.output) (hdr : w.drawn ≤ w'.drawn := by first | exact Nat.le_refl _ | exact Nat.le_succ _ | exact Nat.le_add_right _ _) : HOk R μ h w' ∧ Step (ownH h μ) R w (ownH h μ) R w' :=
  ⟨⟨HRel.keep (RO.le.refl R) (Ext.refl μ) h μ H.rel fun n hn => hk n (H.own n hn).1, H.nodup, fun b hb => ⟨Nat.lt_of_lt_of_le (H.own b hb).1 hz, (H.own b hb).2⟩, fun b o hb => by
    have h4 := H.ro b o hb
    rw [hk b (Array.getElem?_eq_some_iff.1 h4).1]; exact h4⟩, ⟨RO.le.refl R, hz, fun b hb _ => hk b hb, fun _ hb => .inl hb, fun _ _ hb => .inl hb, hos, htp, hou, hdr⟩⟩

/-- a new block that lies for good -/
def RO.put (R : RO) (b : Nat) (o : Obj) : RO := fun x => if x = b then some o else R x
theorem HOk.lay {R : RO} {μ : List Bind} {h : List Ch} {w w' : World} {b : Nat} {o : Obj} (H : HOk R μ h w) (hb : w.heap.size ≤ b) (ho : w'.heap[b]? = some o) (hk : ∀ n, n < w.heap.size → w'.heap[n]? = w.heap[n]?) (hz : w.heap.size ≤ w'.heap.size)
    (hos : w'.os = w.os) (htp : w'.tape = w.tape) (hou : w'.output = w.output) (hdr : w.drawn ≤ w'.drawn := by first | exact Nat.le_refl _ | exact Nat.le_succ _ | exact Nat.le_add_right _ _) : HOk (R.put b o) μ h w' ∧ Step (ownH h μ) R w (ownH h μ) (R.put b o) w' ∧ R.le (R.put b o) := by
  have hle : R.le (R.put b o) := fun x y hx => by
    unfold RO.put
    have := (Array.getElem?_eq_some_iff.1 (H.ro x y hx)).1
    rw [if_neg (by omega)]; exact hx
  refine ⟨⟨HRel.keep hle (Ext.refl μ) h μ H.rel fun n hn => hk n (H.own n hn).1, H.nodup, fun x hx => ⟨Nat.lt_of_lt_of_le (H.own x hx).1 hz, ?_⟩, fun x y hx => ?_⟩, ⟨hle, hz, fun n hn _ => hk n hn, fun _ hx => .inl hx, fun x y hx => ?_, hos, htp, hou, hdr⟩, hle⟩
  · unfold RO.put
    have := (H.own x hx).1
    rw [if_neg (by omega)]; exact (H.own x hx).2
  · unfold RO.put at hx
    split at hx
    · rename_i e; subst e; rw [← hx]; exact ho
    · have h4 := H.ro x y hx
      rw [hk x (Array.getElem?_eq_some_iff.1 h4).1]; exact h4
  · unfold RO.put at hx
    split at hx
    · rename_i e; subst e; exact .inr (.inr hb)
    · exact .inl hx

theorem ownC_gone (B : Bind) : ownC .gone B = [] := by cases B <;> rfl
theorem gone_sub (B : Bind) (l : List Nat) : (ownC .gone B).Sublist l := by rw [ownC_gone]; exact List.nil_sublist l
theorem own_mem {c : Ch} {B : Bind} : ∀ {h : List Ch} {m : List Bind} {t : Nat}, h[t]? = some c → m[t]? = some B → ∀ b ∈ ownC c B, b ∈ ownH h m
  | [], _, _, e, _, _, _ => by simp at e
  | _ :: _, [], _, _, e, _, _ => by simp at e
  | _ :: _, _ :: _, 0, e1, e2, b, hb => by simp at e1 e2; subst e1; subst e2; simp [ownH, hb]
  | _ :: l, _ :: m, t + 1, e1, e2, b, hb => by
    simp only [ownH, List.mem_append]; exact .inr (own_mem (by simpa using e1) (by simpa using e2) b hb)
theorem own_gone {c : Ch} {B : Bind} : ∀ {h : List Ch} {m : List Bind} {t : Nat}, (ownH h m).Nodup → h[t]? = some c → m[t]? = some B → ∀ b ∈ ownC c B, b ∉ ownH (h.set t .gone) m
  | [], _, _, _, e, _, _, _ => by simp at e
  | _ :: _, [], _, _, _, e, _, _ => by simp at e
  | c0 :: l, B0 :: m, 0, hn, e1, e2, b, hb => by
    simp at e1 e2; subst e1; subst e2
    simp only [ownH, List.nodup_append] at hn
    simp only [List.set_cons_zero, ownH, ownC, List.nil_append]
    exact fun hx => hn.2.2 b hb b hx rfl
  | c0 :: l, B0 :: m, t + 1, hn, e1, e2, b, hb => by
    simp only [ownH, List.nodup_append] at hn
    simp only [List.set_cons_succ, ownH, List.mem_append]
    rintro (hx | hx)
    · exact hn.2.2 b hx b (own_mem (by simpa using e1) (by simpa using e2) b hb) rfl
    · exact own_gone hn.2.1 (by simpa using e1) (by simpa using e2) b hb hx

/-- chunk t goes over into a new chunk -/
theorem HOk.move {R : RO} {μ : List Bind} {h : List Ch} {w w' : World} {t : Nat} {c c' : Ch} {B B' : Bind} (H : HOk R μ h w) (hc : h[t]? = some c) (hB : μ[t]? = some B)
    (hs : (ownC c' B').Sublist (ownC c B)) (hk : ∀ n, n < w.heap.size → n ∉ ownC c B → w'.heap[n]? = w.heap[n]?) (hz : w.heap.size ≤ w'.heap.size) (hr : CRel R w' (μ ++ [B']) c' B')
    (hos : w'.os = w.os) (htp : w'.tape = w.tape) (hou : w'.output = w.output) (hdr : w.drawn ≤ w'.drawn := by first | exact Nat.le_refl _ | exact Nat.le_succ _ | exact Nat.le_add_right _ _) :
    HOk R (μ ++ [B']) (h.set t .gone ++ [c']) w' ∧ Step (ownH h μ) R w (ownH (h.set t .gone ++ [c']) (μ ++ [B'])) R w' := by
  obtain ⟨H1, hst⟩ := H.set (c' := .gone) hc hB (gone_sub _ _) hk hz trivial hos htp hou hdr
  have he : ownH (h.set t .gone ++ [c']) (μ ++ [B']) = ownH (h.set t .gone) μ ++ ownC c' B' := by
    rw [ownH_app _ _ _ _ H1.rel.len]; simp [ownH]
  have hsub : ∀ b ∈ ownC c' B', b ∈ ownH h μ := fun b hb => own_mem hc hB b (hs.subset hb)
  have hnd : (ownC c B).Nodup := by
    have key : ∀ (h : List Ch) (m : List Bind) (t : Nat), (ownH h m).Nodup → h[t]? = some c → m[t]? = some B → (ownC c B).Nodup := by
      intro h
      induction h with
      | nil => intro m t _ e; simp at e
      | cons a l ih =>
        intro m t hn e1 e2
        cases m with
        | nil => simp at e2
        | cons b m =>
          simp only [ownH, List.nodup_append] at hn
          cases t with
          | zero => simp at e1 e2; subst e1; subst e2; exact hn.1
          | succ t => exact ih m t hn.2.1 (by simpa using e1) (by simpa using e2)
    exact key h μ t H.nodup hc hB
  refine ⟨⟨HRel.app (HRel.keep (RO.le.refl R) (Ext.app _ _) _ _ H1.rel fun _ _ => rfl) ⟨hr, trivial⟩, ?_, fun b hb => ?_, H1.ro⟩, ⟨RO.le.refl R, hz, hst.out, fun b hb => ?_, fun _ _ hb => .inl hb, hos, htp, hou, hdr⟩⟩
  · rw [he, List.nodup_append]
    exact ⟨H1.nodup, hnd.sublist hs, fun a ha b hb e => by subst e; exact own_gone H.nodup hc hB a (hs.subset hb) ha⟩
  · rw [he, List.mem_append] at hb
    rcases hb with hb | hb
    · exact H1.own b hb
    · exact ⟨Nat.lt_of_lt_of_le (H.own b (hsub b hb)).1 hz, (H.own b (hsub b hb)).2⟩
  · rw [he, List.mem_append] at hb
    rcases hb with hb | hb
    · exact hst.own b hb
    · exact .inl (hsub b hb)

/-- chunk t, a row, lies for good from now on -/
theorem HOk.freeze {R : RO} {μ : List Bind} {h : List Ch} {w : World} {t : Nat} {e : Ety} {xs : List e.T} (H : HOk R μ h w) (hc : h[t]? = some (.rows e xs)) :
    ∃ R', HOk R' μ (h.set t .gone) w ∧ Step (ownH h μ) R w (ownH (h.set t .gone) μ) R' w ∧ R.le R' ∧
      ∀ (s n : Nat) (v : Value), Rel R μ (.sl t e s n) v → s + n ≤ xs.length → Rel R' μ (.ro e ((xs.drop s).take n)) v := by
  obtain ⟨B, hB, hr, hown⟩ := H.rel.get hc
  have hsub : (ownH (h.set t .gone) μ).Sublist (ownH h μ) := ownH_set_sub fun c0 B0 h1 h2 => by simp [ownC]
  rcases hr with ⟨rfl, rfl⟩ | ⟨b, cap, arr, ty, rfl, hb, hsz, hlen, hcap, hrel⟩
  · refine ⟨R, ⟨H.rel.set (RO.le.refl R) H.nodup hc hB (fun _ _ _ => rfl) trivial, H.nodup.sublist hsub, fun b hb => H.own b (hsub.subset hb), H.ro⟩, ⟨RO.le.refl R, Nat.le_refl _, fun _ _ _ => rfl, fun b hb => .inl (hsub.subset hb), fun _ _ hb => .inl hb, rfl, rfl, rfl, Nat.le_refl _⟩, RO.le.refl R, fun s n v hv hl => ?_⟩
    have hn : n = 0 := by simpa using (show n ≤ 0 by simp at hl; omega)
    subst hn
    simp only [List.drop_nil, List.take_nil]
    cases hv with
    | sl h1 => rw [hB] at h1; simp at h1
    | sl0 => exact .ro0 (Nat.zero_le _)
  · have hbo : b ∈ ownH h μ := hown b (by simp [ownC])
    have hRb := (H.own b hbo).2
    have hle : R.le (R.put b (.cells arr ty (0, 0))) := fun x y hx => by
      unfold RO.put
      by_cases e : x = b
      · subst e; rw [hRb] at hx; simp at hx
      · rw [if_neg e]; exact hx
    have hnot : b ∉ ownH (h.set t .gone) μ := by
      have key : ∀ (h : List Ch) (m : List Bind) (t : Nat), (ownH h m).Nodup → h[t]? = some (.rows e xs) → m[t]? = some (.blk b cap) → b ∉ ownH (h.set t .gone) m := by
        intro h
        induction h with
        | nil => intro m t _ e _; simp at e
        | cons c l ih =>
          intro m t hn e1 e2
          cases m with
          | nil => simp at e2
          | cons B m =>
            simp only [ownH, List.nodup_append] at hn
            cases t with
            | zero =>
              simp at e1 e2
              subst e1; subst e2
              simp only [List.set_cons_zero, ownH, ownC, List.nil_append]
              exact fun hx => hn.2.2 b (by simp [ownC]) b hx rfl
            | succ t =>
              simp only [List.set_cons_succ, ownH, List.mem_append]
              rintro (hx | hx)
              · have : b ∈ ownH l m := by
                  have key2 : ∀ (h : List Ch) (m : List Bind) (t : Nat), h[t]? = some (.rows e xs) → m[t]? = some (.blk b cap) → b ∈ ownH h m := by
                    intro h
                    induction h with
                    | nil => intro m t e1 _; simp at e1
                    | cons c l ih =>
                      intro m t e1 e2
                      cases m with
                      | nil => simp at e2
                      | cons B m =>
                        cases t with
                        | zero => simp at e1 e2; subst e1; subst e2; simp [ownH, ownC]
                        | succ t => simp only [ownH, List.mem_append]; exact .inr (ih m t (by simpa using e1) (by simpa using e2))
                  exact key2 l m t (by simpa using e1) (by simpa using e2)
                exact hn.2.2 b hx b this rfl
              · exact ih m t hn.2.1 (by simpa using e1) (by simpa using e2) hx
      exact key h μ t H.nodup hc hB
    refine ⟨R.put b (.cells arr ty (0, 0)), ⟨H.rel.set hle H.nodup hc hB (fun _ _ _ => rfl) trivial, H.nodup.sublist hsub, fun x hx => ⟨(H.own x (hsub.subset hx)).1, ?_⟩, fun x y hx => ?_⟩, ⟨hle, Nat.le_refl _, fun _ _ _ => rfl, fun x hx => .inl (hsub.subset hx), fun x y hx => ?_, rfl, rfl, rfl, Nat.le_refl _⟩, hle, fun s n v hv hl => ?_⟩
    · unfold RO.put
      rw [if_neg (fun e : x = b => hnot (e ▸ hx))]; exact (H.own x (hsub.subset hx)).2
    · unfold RO.put at hx
      split at hx
      · rename_i e; subst e; rw [← hx]; exact hb
      · exact H.ro x y hx
    · unfold RO.put at hx
      split at hx
      · rename_i e; subst e; exact .inr (.inl hbo)
      · exact .inl hx
    · have hll : ((xs.drop s).take n).length = n := by simp; omega
      cases hv with
      | @sl _ _ _ _ _ b' cap' c h1 hc1 hl1 hm1 =>
        rw [hB] at h1
        simp only [Option.some.injEq, Bind.blk.injEq] at h1
        obtain ⟨rfl, rfl⟩ := h1
        have h2 : Rel (R.put b (.cells arr ty (0, 0))) μ (.ro e ((xs.drop s).take n)) (.slice (some ⟨b, s * e.sz, none⟩) ((xs.drop s).take n).length c) := by
          refine .ro (arr := arr) (ty := ty) (fr := (0, 0)) (by simp [RO.put]) ?_ (by omega) (by omega)
          have h3 := ((hrel.drop (s * e.sz)).take (n * e.sz)).mono hle (Ext.refl _)
          rw [flat_take, flat_drop, hll]
          have e1 : ((arr.toList.drop (s * e.sz)).take (n * e.sz)) = ((arr.toList.take (xs.length * e.sz)).drop (s * e.sz)).take (n * e.sz) := by
            rw [List.drop_take, List.take_take, Nat.min_eq_left]
            rw [← Nat.sub_mul]
            exact Nat.mul_le_mul_right _ (by omega)
          rw [e1]
          exact h3
        rw [hll] at h2
        exact h2
      | sl0 => simp; exact .ro0 (Nat.zero_le _)
end Go.V

namespace Go.V

/-! ### Definitions -/
def hth : List Ch → Nat → Ch
  | [], _ => .gone
  | c :: _, 0 => c
  | _ :: l, n + 1 => hth l n
theorem hth_get {h : List Ch} : ∀ {t : Nat} {c : Ch}, hth h t = c → c ≠ .gone → h[t]? = some c := by
  induction h with
  | nil => intro t c e hc; exact absurd e.symm hc
  | cons a l ih =>
    intro t c e hc
    cases t with
    | zero => simpa [hth] using e
    | succ n => simpa using ih (by simpa [hth] using e) hc
def setA : List AV → Nat → List AV → List AV
  | vs, _, [] => vs
  | vs, off, a :: l => setA (vs.set off a) (off + 1) l
def cellsA : AV → List AV
  | .agg l => l
  | a => [a]
def okCells : List AV → Prop
  | [] => True
  | a :: l => (a.cell = true) ∧ okCells l
def tfs : List AV → Prop
  | [] => True
  | a :: l => (a.tf = true) ∧ tfs l
def aggT (P : Program) (t : TypeId) : Option Bool := match kdT P t with | .struct => some true | .array _ _ => some true | .other => none | _ => some false
/-- cells of a row's block that a load meets -/
def loadCellsK (P : Program) (t : TypeId) (vs : List AV) (off : Nat) (K : AV → Prop) : Prop :=
  match aggT P t with
  | some true => (off + szT P t ≤ vs.length ∧ szT P t ≠ 0) ∧ K (.agg ((vs.drop off).take (szT P t)))
  | some false => (off < vs.length) ∧ K (nthA vs off)
  | none => False
def loadK (P : Program) (t : TypeId) (a : AV) (h : List Ch) (K : AV → Prop) : Prop :=
  match a with
  | .ptr b off => (match hth h b with
    | .cells vs => loadCellsK P t vs off K
    | _ => False)
  | .ep b e i off => (match hth h b with
    | .rows e' xs => (match asE e e' xs with
      | some xs => (i < xs.length) ∧ loadCellsK P t (e.enc (e.get xs i)) off K
      | none => False)
    | _ => False)
  | .rp e xs i off => loadCellsK P t (e.enc (e.get xs i)) off K
  | _ => False
def storeK (P : Program) (t : TypeId) (a x : AV) (h : List Ch) (K : List Ch → Prop) : Prop :=
  match a with
  | .ptr b off => (match hth h b with
    | .cells vs => ((cellsA x).length = szT P t ∧ off + szT P t ≤ vs.length ∧ szT P t ≠ 0) ∧ okCells (cellsA x) ∧ K (h.set b (.cells (setA vs off (cellsA x))))
    | _ => False)
  | .ep b e i off => (match hth h b with
    | .rows e' xs => (match asE e e' xs with
      | some xs => (match e.dec (setA (e.enc (e.get xs i)) off (cellsA x)) with
        | some y => (i < xs.length ∧ (cellsA x).length = szT P t ∧ off + szT P t ≤ e.sz ∧ szT P t ≠ 0) ∧ okCells (cellsA x) ∧ tfs (cellsA x) ∧ e.decOk (setA (e.enc (e.get xs i)) off (cellsA x)) ∧ K (h.set b (.rows e (xs.set i y)))
        | none => False)
      | none => False)
    | _ => False)
  | _ => False
def allocK (P : Program) (t : TypeId) (h : List Ch) (K : AV → List Ch → Prop) : Prop :=
  match zeroT P t with
  | some zs => K (.ptr h.length 0) (h ++ [.cells zs])
  | none => False
def boxK (x : AV) (h : List Ch) (K : AV → List Ch → Prop) : Prop :=
  okCells (cellsA x) ∧ K (.ptr h.length 0) (h ++ [.cells (cellsA x)])
/-- the elements that a slice value has -/
def srcK (e : Ety) (h : List Ch) (x : AV) (F : List e.T → Prop) : Prop :=
  match x with
  | .ro e' ys => (match asE e e' ys with | some ys => F ys | none => False)
  | .sl b e' s n => (match hth h b with
    | .rows e'' xs => (match asE e e'' xs with
      | some xs => (e' = e) ∧ (s + n ≤ xs.length) ∧ F ((xs.drop s).take n)
      | none => False)
    | _ => False)
  | .lit (.slice none 0 0) => F []
  | _ => False
def bytesOf (e : Ety) (s : List UInt8) : Option (List e.T) := asE e .byte s
/-- 'append': what is appended -/
def appSrcK (k : Kd) (e : Ety) (h : List Ch) (x : AV) (F : List e.T → Prop) : Prop :=
  match k, x with
  | .str, .str s => (match bytesOf e s with | some ys => F ys | none => False)
  | .slice _, x => srcK e h x F
  | _, _ => False
def maxBytes : Nat := 140737488355328
/-- cells of the zero value -/
def zlenT (P : Program) (t : TypeId) : Nat := match zeroT P t with | some zs => zs.length | none => 0
def appK [ETab] (P : Program) (t tx : TypeId) (s x : AV) (h : List Ch) (K : AV → List Ch → Prop) : Prop :=
  match kdT P t with
  | .slice el => (match s with
    | .sl b e 0 n => (match hth h b with
      | .rows e' xs => (match asE e e' xs with
        | some xs => (szT P el = e.sz ∧ zlenT P el = e.sz) ∧ n = xs.length ∧ appSrcK (kdT P tx) e h x fun ys => ((xs.length + ys.length) * bytesT P el ≤ maxBytes ∧ xs.length + ys.length ≤ maxBytes) ∧ K (.sl h.length e 0 (xs.length + ys.length)) (h.set b .gone ++ [.rows e (xs ++ ys)])
        | none => False)
      | _ => False)
    | .lit (.slice none 0 0) => (match ETab.of t with
      | some e => (szT P el = e.sz ∧ zlenT P el = e.sz) ∧ appSrcK (kdT P tx) e h x fun ys => (ys.length * bytesT P el ≤ maxBytes ∧ ys.length ≤ maxBytes) ∧ K (.sl h.length e 0 ys.length) (h ++ [.rows e ys])
      | none => False)
    | _ => False)
  | _ => False
/-- n times the same; no rule unfolds it -/
def repN {α : Type} (n : Nat) (y : α) : List α := if n = 0 then [] else y :: repN (n - 1) y
termination_by n
theorem repN_eq {α : Type} (y : α) : ∀ n : Nat, repN n y = List.replicate n y
  | 0 => by rw [repN]; rfl
  | n + 1 => by rw [repN, if_neg (by omega), Nat.add_sub_cancel, repN_eq y n]; rfl
/-- 'make' of a slice -/
def mkK [ETab] (P : Program) (t : TypeId) (l c : AV) (h : List Ch) (K : AV → List Ch → Prop) : Prop :=
  match kdT P t, l, c with
  | .slice el, .int _ a, .int _ b => (match ETab.of t, zeroT P el with
    | some e, some zs => (match e.dec zs with
      | some y => ((szT P el = e.sz ∧ zs.length = e.sz) ∧ (0 ≤ a ∧ a ≤ b) ∧ (bytesT P el : Int) * b ≤ 281474976710656 ∧ b ≤ 9223372036854775807 ∧ tfs zs ∧ e.decOk zs) ∧ K (.sl h.length e 0 a.toNat) (h ++ [.rows e (repN a.toNat y)])
      | none => False)
    | _, _ => False)
  | _, _, _ => False
end Go.V

namespace Go.V

variable {P : Program} {R : RO} {μ : List Bind} {h : List Ch} {w : World}

def GivesH (P : Program) (R : RO) (μ : List Bind) (h : List Ch) (w : World) (K : AV → List Ch → Prop) (s : Sem Value) : Prop :=
  ∃ v w' R' μ' h' av, s.run P w = .ok v w' ∧ K av h' ∧ Rel R' μ' av v ∧ HOk R' μ' h' w' ∧ Ext μ μ' ∧ Step (ownH h μ) R w (ownH h' μ') R' w'

theorem Rel.one {a : AV} {v : Value} (h : Rel R μ a v) (hc : a.cell = true) : v.oneCell' = true := by
  cases h <;> first | rfl | simp [AV.cell] at hc
  exact hc
theorem cells_rel {x : AV} {v : Value} (hx : Rel R μ x v) (ho : okCells (cellsA x)) : LRel R μ (cellsA x) v.cells.toList ∧ ∀ u ∈ v.cells.toList, u.oneCell' = true := by
  have key : ∀ (l : List AV) (vs : List Value), LRel R μ l vs → okCells l → ∀ u ∈ vs, u.oneCell' = true := by
    intro l
    induction l with
    | nil => intro vs h _ u hu; cases h; simp at hu
    | cons a l ih =>
      intro vs h ho u hu
      cases h with
      | cons h1 h2 =>
        rcases List.mem_cons.1 hu with rfl | hu
        · exact h1.one ho.1
        · exact ih _ h2 ho.2 u hu
  have one : ∀ (x : AV) (v : Value), Rel R μ x v → x.cell = true → LRel R μ [x] v.cells.toList ∧ ∀ u ∈ v.cells.toList, u.oneCell' = true := by
    intro x v hx hc
    have h1 := hx.one hc
    have h2 : v.cells = #[v] := by cases v <;> first | rfl | simp [Value.oneCell'] at h1
    rw [h2]
    exact ⟨.cons hx .nil, fun u hu => by simp at hu; subst hu; exact h1⟩
  cases x with
  | agg l =>
    cases hx with
    | agg hl => exact ⟨by simpa [cellsA, Value.cells] using hl, key _ _ (by simpa [cellsA, Value.cells] using hl) ho⟩
  | _ => exact one _ _ hx ho.1

theorem agg_true {t : TypeId} (h : aggT P t = some true) : ∃ d, P.underlying t = some d ∧ aggD d = true := by
  unfold aggT at h
  split at h <;> simp at h
  · rename_i hk; obtain ⟨fs, hk⟩ := kd_struct hk; exact ⟨_, hk, rfl⟩
  · rename_i hk; exact ⟨_, kd_array hk, rfl⟩
theorem agg_false {t : TypeId} (h : aggT P t = some false) : ∃ d, P.underlying t = some d ∧ aggD d = false := by
  unfold aggT at h
  have hk : kdT P t ≠ .other := by intro e; simp [e] at h
  obtain ⟨d, hd⟩ := kd_ne hk
  refine ⟨d, hd, ?_⟩
  cases d <;> first | rfl | simp [kdT, hd] at h

theorem cell_at {b : Nat} {arr : Array Value} {ty : TypeId} {fr : Nat × Nat} (hb : w.heap[b]? = some (.cells arr ty fr)) (o : Nat) : w.cell? ⟨b, o, none⟩ = arr[o]? := by
  simp [World.cell?, hb]
theorem loadCellsK_ok {t : TypeId} {vs : List AV} {off o b : Nat} {arr : Array Value} {ty : TypeId} {fr : Nat × Nat} {K : AV → Prop} (hb : w.heap[b]? = some (.cells arr ty fr)) (hl : LRel R μ vs ((arr.toList.drop o).take vs.length)) (hK : loadCellsK P t vs off K) :
    ∃ v av, K av ∧ Rel R μ av v ∧ (Instr.loadAt t (.pointer (some ⟨b, o + off, none⟩))).run P w = .ok v w := by
  unfold loadCellsK at hK
  split at hK
  · rename_i ha
    obtain ⟨⟨h1, hz⟩, hK⟩ := hK
    obtain ⟨d, hd, ha⟩ := agg_true ha
    have h2 := (hl.drop off).take (szT P t)
    have hlen := hl.len
    have h3 : (loadCells ⟨b, o + off, none⟩ (((arr.toList.drop o).take vs.length).drop off |>.take (szT P t)).length).run P w = .ok (((arr.toList.drop o).take vs.length).drop off |>.take (szT P t)).toArray w := by
      refine run_loadCells_list w _ _ fun j v hj => ?_
      rw [addr_add, cell_at hb, ← Array.getElem?_toList]
      rw [List.getElem?_take] at hj
      split at hj
      · rw [List.getElem?_drop, List.getElem?_take] at hj
        split at hj
        · rw [List.getElem?_drop] at hj; rw [← hj]; congr 1; omega
        · simp at hj
      · simp at hj
    have h4 : (((arr.toList.drop o).take vs.length).drop off |>.take (szT P t)).length = szT P t := by
      rw [List.length_take, List.length_drop, ← hlen]; omega
    rw [h4] at h3
    refine ⟨_, _, hK, .agg h2, ?_⟩
    simp [Instr.loadAt, Instr.sureAddr, loadVar, run_isAgg hd, ha, run_sizeOf hz, h3]
  · rename_i ha
    obtain ⟨h1, hK⟩ := hK
    obtain ⟨d, hd, ha⟩ := agg_false ha
    have hlen := hl.len
    have h2 : off < ((arr.toList.drop o).take vs.length).length := by omega
    refine ⟨_, _, hK, hl.nth off (List.getElem?_eq_getElem h2), ?_⟩
    have h3 : w.cell? ⟨b, o + off, none⟩ = some ((arr.toList.drop o).take vs.length)[off] := by
      rw [cell_at hb, ← Array.getElem?_toList, ← List.getElem?_eq_getElem h2, List.getElem?_take, if_pos h1, List.getElem?_drop]
    simp [Instr.loadAt, Instr.sureAddr, loadVar, run_isAgg hd, ha, run_load, h3]
  · exact hK.elim

theorem enc_at (e : Ety) (xs : List e.T) (i : Nat) (hi : i < xs.length) {vs : List Value} (hl : LRel R [] (xs.flatMap e.enc) (vs.take (xs.length * e.sz))) : LRel R [] (e.enc (e.get xs i)) ((vs.drop (i * e.sz)).take (e.enc (e.get xs i)).length) := by
  have h1 := (hl.drop (i * e.sz)).take e.sz
  rw [← flat_drop] at h1
  have h2 : ((xs.drop i).flatMap e.enc).take e.sz = e.enc (e.get xs i) := by
    rw [List.drop_eq_getElem_cons hi, List.flatMap_cons, List.take_append_of_le_length (by rw [e.enc_len]; exact Nat.le_refl _), List.take_of_length_le (by rw [e.enc_len]; exact Nat.le_refl _)]
    simp [Ety.get, List.getD_eq_getElem?_getD, List.getElem?_eq_getElem hi]
  rw [h2] at h1
  rw [e.enc_len]
  have h3 : (vs.drop (i * e.sz)).take e.sz = ((vs.take (xs.length * e.sz)).drop (i * e.sz)).take e.sz := by
    rw [List.drop_take, List.take_take, Nat.min_eq_left]
    rw [← Nat.sub_mul]
    exact Nat.le_mul_of_pos_left _ (by omega)
  rw [h3]; exact h1

theorem loadK_ok (H : HOk R μ h w) {t : TypeId} {a : AV} {va : Value} {K : AV → Prop} (ha : Rel R μ a va) (hK : loadK P t a h K) :
    ∃ v av, K av ∧ Rel R μ av v ∧ (Instr.loadAt t va).run P w = .ok v w := by
  unfold loadK at hK
  split at hK
  · rename_i b off
    split at hK
    · rename_i vs hc
      obtain ⟨B, hB, ⟨n, arr, ty, rfl, hb, hl⟩, _⟩ := H.rel.get (hth_get hc (by simp))
      cases ha with
      | ptr h1 h2 =>
        rw [hB] at h1
        obtain rfl := Option.some.inj h1
        simp only [Bind.obj, Option.some.injEq] at h2
        subst h2
        have := loadCellsK_ok (o := 0) hb (by rw [List.drop_zero, List.take_of_length_le (by rw [hl.len]; exact Nat.le_refl _)]; exact hl) hK
        rwa [Nat.zero_add] at this
    · exact hK.elim
  · rename_i b e i off
    split at hK
    · rename_i e' xs hc
      split at hK
      · rename_i ys hy
        obtain ⟨rfl, rfl⟩ := asE_some hy
        obtain ⟨hi, hK⟩ := hK
        obtain ⟨B, hB, hr, _⟩ := H.rel.get (hth_get hc (by simp))
        rcases hr with ⟨rfl, rfl⟩ | ⟨n, cap, arr, ty, rfl, hb, hsz, hlen, hcap, hl⟩
        · simp at hi
        · cases ha with
          | ep h1 =>
            rw [hB] at h1
            simp only [Option.some.injEq, Bind.blk.injEq] at h1
            obtain ⟨rfl, rfl⟩ := h1
            obtain ⟨v, av, h2, h3, h4⟩ := loadCellsK_ok (R := R) (μ := []) hb (enc_at e' xs i hi hl) hK
            exact ⟨v, av, h2, h3.mono (RO.le.refl R) (Ext.nil μ), h4⟩
      · exact hK.elim
    · exact hK.elim
  · rename_i e xs i off
    cases ha with
    | @rp _ _ _ b o _ _ arr ty fr hb hl hi =>
      have hb' := H.ro _ _ hb
      have hl' := enc_at e xs i hi hl
      rw [List.drop_drop] at hl'
      obtain ⟨v, av, h2, h3, h4⟩ := loadCellsK_ok (R := R) (μ := []) hb' hl' hK
      exact ⟨v, av, h2, h3.mono (RO.le.refl R) (Ext.nil μ), h4⟩
  · exact hK.elim
end Go.V

namespace Go.V

variable {P : Program} {R : RO} {μ : List Bind} {h : List Ch} {w : World}

theorem setA_rel : ∀ (l : List AV) (vs : List AV) (off : Nat) (ws us : List Value), LRel R μ vs ws → LRel R μ l us → off + l.length ≤ vs.length → LRel R μ (setA vs off l) (ws.take off ++ us ++ ws.drop (off + us.length))
  | [], vs, off, ws, us, hv, hl, _ => by
    cases hl
    simp [setA]; exact hv
  | a :: l, vs, off, ws, us, hv, hl, hlen => by
    cases hl with
    | @cons _ _ u _ us ha hl =>
      have h1 := setA_rel l (vs.set off a) (off + 1) (ws.set off u) us (hv.set off ha) hl (by simp at hlen ⊢; omega)
      have hw := hv.len
      have hlt : off < ws.length := by simp at hlen; omega
      simp only [setA]
      have e : (ws.set off u).take (off + 1) ++ us ++ (ws.set off u).drop (off + 1 + us.length) = ws.take off ++ u :: us ++ ws.drop (off + (u :: us).length) := by
        rw [List.take_set, List.drop_set_of_lt (by omega)]
        have : (ws.take (off + 1)).set off u = ws.take off ++ [u] := by
          rw [List.take_succ_eq_append_getElem hlt, List.set_append_right _ _ (by simp; omega)]
          simp [Nat.min_eq_left (Nat.le_of_lt hlt)]
        rw [this]
        simp [Nat.add_assoc, Nat.add_comm 1]
      rw [← e]; exact h1
theorem setA_left : ∀ (l A B : List AV) (off : Nat), off + l.length ≤ A.length → setA (A ++ B) off l = setA A off l ++ B
  | [], _, _, _, _ => rfl
  | a :: l, A, B, off, h => by
    simp only [setA]
    rw [List.set_append_left _ _ (by simp at h; omega), setA_left l (A.set off a) B (off + 1) (by simp at h ⊢; omega)]
theorem setA_right : ∀ (l A B : List AV) (k : Nat), setA (A ++ B) (A.length + k) l = A ++ setA B k l
  | [], _, _, _ => rfl
  | a :: l, A, B, k => by
    simp only [setA]
    rw [List.set_append_right _ _ (by omega), Nat.add_sub_cancel_left, Nat.add_assoc, setA_right l A (B.set k a) (k + 1)]
theorem flat_at (e : Ety) (l : List AV) (off : Nat) : ∀ (xs : List e.T) (i : Nat), i < xs.length → off + l.length ≤ e.sz → setA (xs.flatMap e.enc) (i * e.sz + off) l = (xs.take i).flatMap e.enc ++ (setA (e.enc (e.get xs i)) off l ++ (xs.drop (i + 1)).flatMap e.enc)
  | [], i, h, _ => by simp at h
  | x :: xs, 0, _, h => by
    simp only [Nat.zero_mul, Nat.zero_add, List.flatMap_cons, List.take_zero, List.flatMap_nil, List.nil_append, List.drop_succ_cons, List.drop_zero]
    rw [setA_left _ _ _ _ (by rw [e.enc_len]; exact h)]
    rfl
  | x :: xs, i + 1, hi, h => by
    simp only [List.flatMap_cons, List.take_succ_cons, List.drop_succ_cons, List.append_assoc]
    have h1 : (i + 1) * e.sz + off = (e.enc x).length + (i * e.sz + off) := by rw [e.enc_len, Nat.succ_mul]; omega
    rw [h1, setA_right, flat_at e l off xs i (by simpa using hi) h]
    rfl
theorem set_flat (e : Ety) (y : e.T) : ∀ (xs : List e.T) (i : Nat), i < xs.length → (xs.set i y).flatMap e.enc = (xs.take i).flatMap e.enc ++ (e.enc y ++ (xs.drop (i + 1)).flatMap e.enc)
  | [], i, h => by simp at h
  | x :: xs, 0, _ => by simp
  | x :: xs, i + 1, hi => by
    simp only [List.set_cons_succ, List.flatMap_cons, List.take_succ_cons, List.drop_succ_cons, List.append_assoc]
    rw [set_flat e y xs i (by simpa using hi)]
theorem LRel.split {R : RO} {μ : List Bind} : ∀ {l l' : List AV} {vs : List Value}, LRel R μ (l ++ l') vs → ∃ us us', vs = us ++ us' ∧ LRel R μ l us ∧ LRel R μ l' us'
  | [], _, vs, h => ⟨[], vs, rfl, .nil, h⟩
  | a :: l, l', _, h => by
    cases h with
    | cons ha hl =>
      obtain ⟨us, us', h1, h2, h3⟩ := LRel.split hl
      exact ⟨_ :: us, us', by rw [h1]; rfl, .cons ha h2, h3⟩
theorem set_rel {R : RO} {μ : List Bind} (e : Ety) {l : List AV} {off : Nat} {y : e.T} {xs : List e.T} {i : Nat} (hi : i < xs.length) (hf : off + l.length ≤ e.sz) (hd : e.dec (setA (e.enc (e.get xs i)) off l) = some y) (ho : e.decOk (setA (e.enc (e.get xs i)) off l)) {vs : List Value} (h : LRel R μ (setA (xs.flatMap e.enc) (i * e.sz + off) l) vs) : LRel R μ ((xs.set i y).flatMap e.enc) vs := by
  rw [flat_at e l off xs i hi hf] at h
  rw [set_flat e y xs i hi]
  obtain ⟨u1, u2, rfl, h1, h2⟩ := h.split
  obtain ⟨u3, u4, rfl, h3, h4⟩ := h2.split
  exact h1.app ((e.dec_ok hd ho h3).app h4)
theorem Rel.free {R : RO} {μ : List Bind} {a : AV} {v : Value} (h : Rel R μ a v) (ht : a.tf = true) (μ' : List Bind) : Rel R μ' a v := by
  cases h <;> simp [AV.tf] at ht
  case int => exact .int
  case bool => exact .bool
  case str => exact .str
  case lit => exact .lit
  case ro h hl hc hm => exact .ro h hl hc hm
  case ro0 hm => exact .ro0 hm
theorem LRel.free {R : RO} {μ : List Bind} : ∀ {l : List AV} {vs : List Value}, LRel R μ l vs → (∀ a ∈ l, a.tf = true) → ∀ μ', LRel R μ' l vs
  | [], _, .nil, _, _ => .nil
  | _ :: _, _, .cons h hs, ht, μ' => .cons (h.free (ht _ (by simp)) μ') (LRel.free hs (fun a ha => ht a (by simp [ha])) μ')

theorem tfs_ok : ∀ {l : List AV}, tfs l → ∀ a ∈ l, a.tf = true
  | [], _, a, ha => by simp at ha
  | b :: l, h, a, ha => by
    rcases List.mem_cons.1 ha with rfl | ha
    · exact h.1
    · exact tfs_ok h.2 a ha
theorem run_storeVar {t : TypeId} {b off : Nat} {arr : Array Value} {ty : TypeId} {v : Value} (hz : szT P t ≠ 0) (hb : w.heap[b]? = some (.cells arr ty (0, 0))) (hs : v.cells.size = szT P t) (hfit : off + szT P t ≤ arr.size) (h1 : ∀ u ∈ v.cells.toList, u.oneCell' = true) :
    (Instr.storeAt t (.pointer (some ⟨b, off, none⟩)) v).run P w = .ok () (w.setRow b (arr.toList.take off ++ v.cells.toList ++ arr.toList.drop (off + v.cells.toList.length)).toArray) := by
  have hst := run_storeCells_at P b off ty v.cells.toList 0 arr w hb (by simp [hs]; omega) h1
  simp only [Nat.add_zero] at hst
  simp [Instr.storeAt, Instr.sureAddr, storeVar, run_sizeOf hz, hs, hst]

theorem storeK_ok (H : HOk R μ h w) {t : TypeId} {a x : AV} {va vx : Value} {K : List Ch → Prop} (ha : Rel R μ a va) (hx : Rel R μ x vx) (hK : storeK P t a x h K) :
    ∃ w' h', (Instr.storeAt t va vx).run P w = .ok () w' ∧ K h' ∧ HOk R μ h' w' ∧ Step (ownH h μ) R w (ownH h' μ) R w' := by
  unfold storeK at hK
  split at hK
  · rename_i b off
    split at hK
    · rename_i vs hc
      obtain ⟨⟨h1, h2, hz⟩, ho, hK⟩ := hK
      obtain ⟨B, hB, ⟨n, arr, ty, rfl, hb, hl⟩, _⟩ := H.rel.get (hth_get hc (by simp))
      obtain ⟨hxl, hx1⟩ := cells_rel hx ho
      have hlen := hxl.len
      have hlv := hl.len
      cases ha with
      | ptr h3 h4 =>
        rw [hB] at h3
        obtain rfl := Option.some.inj h3
        simp only [Bind.obj, Option.some.injEq] at h4
        subst h4
        have hrun := run_storeVar hz hb (by rw [← Array.length_toList, ← hlen, h1]) (off := off) (by rw [← Array.length_toList, ← hlv]; exact h2) hx1
        have hnew := setRow_heap w n arr (arr.toList.take off ++ vx.cells.toList ++ arr.toList.drop (off + vx.cells.toList.length)).toArray ty (0, 0) hb
        obtain ⟨H', hstep⟩ := H.set (c' := .cells (setA vs off (cellsA x))) (w' := w.setRow n (arr.toList.take off ++ vx.cells.toList ++ arr.toList.drop (off + vx.cells.toList.length)).toArray) (hth_get hc (by simp)) hB (by simp [ownC]) (fun m _ hm => setRow_other w n m _ (fun e => hm (by simp [ownC, e]))) (by simp)
          ⟨n, _, ty, rfl, hnew, by simpa using setA_rel _ _ _ _ _ hl hxl (by rw [h1]; exact h2)⟩ rfl rfl rfl
        exact ⟨_, _, hrun, hK, H', hstep⟩
    · exact hK.elim
  · rename_i b e i off
    split at hK
    · rename_i e' xs hc
      split at hK
      · rename_i ys hy
        obtain ⟨rfl, hy⟩ := asE_some hy
        change xs = ys at hy
        subst hy
        split at hK
        · rename_i y hdec
          obtain ⟨⟨hi, h1, h2, hz⟩, ho, htf, hok, hK⟩ := hK
          obtain ⟨B, hB, hr, _⟩ := H.rel.get (hth_get hc (by simp))
          obtain ⟨hxl, hx1⟩ := cells_rel hx ho
          have hlen := hxl.len
          rcases hr with ⟨rfl, rfl⟩ | ⟨n, cap, arr, ty, rfl, hb, hsz, hlx, hcap, hl⟩
          · simp at hi
          · cases ha with
            | ep h3 =>
              rw [hB] at h3
              simp only [Option.some.injEq, Bind.blk.injEq] at h3
              obtain ⟨rfl, rfl⟩ := h3
              have hrow : i * e'.sz + e'.sz ≤ xs.length * e'.sz := by rw [← Nat.succ_mul]; exact Nat.mul_le_mul_right _ hi
              have hfull : xs.length * e'.sz ≤ arr.size := by rw [hsz]; exact Nat.mul_le_mul_right _ hlx
              have hus : vx.cells.toList.length = szT P t := by rw [← hlen, h1]
              have hfit : i * e'.sz + off + szT P t ≤ arr.size := by omega
              have hrun := run_storeVar hz hb (by rw [← Array.length_toList]; exact hus) (off := i * e'.sz + off) hfit hx1
              have hnew := setRow_heap w n arr (arr.toList.take (i * e'.sz + off) ++ vx.cells.toList ++ arr.toList.drop (i * e'.sz + off + vx.cells.toList.length)).toArray ty (0, 0) hb
              have hrel := set_rel e' hi (by rw [h1]; exact h2) hdec hok (setA_rel (cellsA x) (xs.flatMap e'.enc) (i * e'.sz + off) _ _ hl (hxl.free (tfs_ok htf) []) (by rw [flat_len, h1]; omega))
              have hval : ((arr.toList.take (xs.length * e'.sz)).take (i * e'.sz + off) ++ vx.cells.toList ++ (arr.toList.take (xs.length * e'.sz)).drop (i * e'.sz + off + vx.cells.toList.length)) = (arr.toList.take (i * e'.sz + off) ++ vx.cells.toList ++ arr.toList.drop (i * e'.sz + off + vx.cells.toList.length)).take (xs.length * e'.sz) := by
                rw [List.take_take, Nat.min_eq_left (by omega), List.drop_take, List.take_append, List.take_of_length_le (l := arr.toList.take (i * e'.sz + off) ++ vx.cells.toList) (by simp only [List.length_append, List.length_take, Array.length_toList, hus]; omega)]
                congr 2
                simp only [List.length_append, List.length_take, Array.length_toList, hus]
                omega
              rw [hval] at hrel
              obtain ⟨H', hstep⟩ := H.set (c' := .rows e' (xs.set i y)) (w' := w.setRow n (arr.toList.take (i * e'.sz + off) ++ vx.cells.toList ++ arr.toList.drop (i * e'.sz + off + vx.cells.toList.length)).toArray) (hth_get hc (by simp)) hB (by simp [ownC]) (fun m _ hm => setRow_other w n m _ (fun e => hm (by simp [ownC, e]))) (by simp)
                (.inr ⟨n, cap, _, ty, rfl, hnew, by simp only [List.size_toArray, List.length_append, List.length_take, List.length_drop, Array.length_toList, hus]; omega, by simpa using hlx, hcap, by simpa using hrel⟩) rfl rfl rfl
              exact ⟨_, _, hrun, hK, H', hstep⟩
        · exact hK.elim
      · exact hK.elim
    · exact hK.elim
  · exact hK.elim

theorem newBlock (H : HOk R μ h w) {l : List AV} {vs : List Value} {ty : TypeId} (hl : LRel R μ l vs) :
    HOk R (μ ++ [.cel w.heap.size]) (h ++ [.cells l]) (w.alloc (.cells vs.toArray ty)) ∧ Step (ownH h μ) R w (ownH (h ++ [.cells l]) (μ ++ [.cel w.heap.size])) R (w.alloc (.cells vs.toArray ty)) :=
  H.push (fun n hn => RowKit.Below.heap_alloc w _ n hn) (by simp) (by simp [ownC]) (fun n hn => by simp [ownC] at hn; subst hn; simp)
    ⟨w.heap.size, vs.toArray, ty, rfl, heap_alloc_new w _, by have := hl.mono (RO.le.refl R) (Ext.app μ [.cel w.heap.size]); simpa only [List.toList_toArray] using this⟩ rfl rfl rfl
theorem ptr_new (H : HOk R μ h w) : Rel R (μ ++ [.cel w.heap.size]) (.ptr h.length 0) (.pointer (some ⟨w.heap.size, 0, none⟩)) :=
  .ptr (B := .cel w.heap.size) (by rw [H.rel.len]; simp) rfl
theorem allocK_ok (H : HOk R μ h w) {t : TypeId} {K : AV → List Ch → Prop} (hK : allocK P t h K) : GivesH P R μ h w K (Instr.alloc t true (.tuple #[])) := by
  unfold allocK at hK
  split at hK
  · rename_i zs hz
    unfold zeroT at hz
    split at hz
    · rename_i i hi
      split at hz
      · rename_i z hzz
        simp only [Option.some.injEq] at hz
        subst hz
        have hl := ofV_rels R μ z.cells.toList
        obtain ⟨H', hs⟩ := newBlock H (ty := t) hl
        exact ⟨_, _, R, _, _, _, by simp [Instr.alloc, zeroValue, typeInfo, hi, hzz, newVar, newRow], hK, ptr_new H, H', Ext.app _ _, hs⟩
      · simp at hz
    · simp at hz
  · exact hK.elim
theorem boxK_ok (H : HOk R μ h w) {t : TypeId} {x : AV} {vx : Value} {K : AV → List Ch → Prop} (hx : Rel R μ x vx) (hK : boxK x h K) : GivesH P R μ h w K (Instr.box t vx) := by
  obtain ⟨ho, hK⟩ := hK
  obtain ⟨hl, _⟩ := cells_rel hx ho
  obtain ⟨H', hs⟩ := newBlock H (ty := t) hl
  exact ⟨_, _, R, _, _, _, by simp [Instr.box, newVar, newRow], hK, ptr_new H, H', Ext.app _ _, hs⟩
end Go.V

namespace Go.V

variable {P : Program} {R : RO} {μ : List Bind} {h : List Ch} {w : World}

theorem lrel_one {l : List AV} {vs : List Value} (hl : LRel R μ l vs) (hc : ∀ a ∈ l, a.cell = true) : ∀ u ∈ vs, u.oneCell' = true := by
  intro u hu
  obtain ⟨i, hi, rfl⟩ := List.getElem_of_mem hu
  have h1 := hl.nth i (List.getElem?_eq_getElem hi)
  have hlen := hl.len
  have h2 : nthA l i ∈ l := by
    have : ∀ (l : List AV) (i : Nat), i < l.length → nthA l i ∈ l := by
      intro l
      induction l with
      | nil => intro i hi; simp at hi
      | cons a l ih =>
        intro i hi
        cases i with
        | zero => simp [nthA]
        | succ n => simp only [nthA]; exact List.mem_cons_of_mem _ (ih n (by simpa using hi))
    exact this l i (by omega)
  exact h1.one (hc _ h2)
theorem flat_cell (e : Ety) (xs : List e.T) : ∀ a ∈ xs.flatMap e.enc, a.cell = true := by
  intro a ha
  obtain ⟨x, _, hx⟩ := List.mem_flatMap.1 ha
  exact e.enc_cell x a hx

/-- what the value x yields to an append -/
structure SrcR (P : Program) (R : RO) (w : World) (e : Ety) (tx : TypeId) (v : Value) (ys : List e.T) (news : List Value) : Prop where
  src : Src P e.sz tx v ys.length news w
  rel : LRel R [] (ys.flatMap e.enc) news

theorem src_slice {e : Ety} {tx el : TypeId} (hk : P.underlying tx = some (.slice el)) {b o c : Nat} {ys : List e.T} {news : List Value} (hrel : LRel R [] (ys.flatMap e.enc) news) (hc : ∀ j u, news[j]? = some u → w.cell? ⟨b, o + j, none⟩ = some u) :
    SrcR P R w e tx (.slice (some ⟨b, o, none⟩) ys.length c) ys news :=
  ⟨Src.ofSlice w hk _ _ _ _ (by rw [← hrel.len, flat_len]) (fun j u hu => by rw [addr_add]; exact hc j u hu) (lrel_one hrel (flat_cell e ys)), hrel⟩
theorem src_empty {e : Ety} {tx el : TypeId} (hk : P.underlying tx = some (.slice el)) (a : Option Addr) (c : Nat) : SrcR P R w e tx (.slice a 0 c) ([] : List e.T) [] := by
  refine ⟨?_, by simp; exact .nil⟩
  cases a with
  | none => exact Src.ofNil w hk c
  | some a => exact Src.ofSlice w hk a 0 c [] (by simp) (by simp) (by simp)

theorem srcK_ok (H : HOk R μ h w) {e : Ety} {tx el : TypeId} (hk : P.underlying tx = some (.slice el)) {x : AV} {vx : Value} {F : List e.T → Prop} (hx : Rel R μ x vx) (hK : srcK e h x F) :
    ∃ ys news, F ys ∧ SrcR P R w e tx vx ys news := by
  unfold srcK at hK
  split at hK
  · rename_i e' zs
    split at hK
    · rename_i ys hy
      obtain ⟨rfl, hy⟩ := asE_some hy
      change zs = ys at hy
      subst hy
      cases hx with
      | @ro _ _ _ b o arr ty fr c hb hl hc hm =>
        have hb' := H.ro _ _ hb
        refine ⟨_, _, hK, src_slice hk hl fun j u hu => ?_⟩
        rw [cell_at hb', ← Array.getElem?_toList]
        rw [List.getElem?_take] at hu
        split at hu
        · rw [List.getElem?_drop] at hu; exact hu
        · simp at hu
      | ro0 => exact ⟨_, _, hK, src_empty hk _ _⟩
    · exact hK.elim
  · rename_i b e' s n
    split at hK
    · rename_i e'' zs hc
      split at hK
      · rename_i xs hy
        obtain ⟨rfl, hy⟩ := asE_some hy
        change zs = xs at hy
        subst hy
        obtain ⟨rfl, hle, hK⟩ := hK
        obtain ⟨B, hB, hr, _⟩ := H.rel.get (hth_get hc (by simp))
        have hll : ((zs.drop s).take n).length = n := by simp; omega
        cases hx with
        | @sl _ _ _ _ _ b' cap c h1 hc1 hl1 hm1 =>
          rw [hB] at h1
          obtain rfl := Option.some.inj h1
          rcases hr with ⟨h0, _⟩ | ⟨m, cap', arr, ty, heq, hb, hsz, hlx, hcap, hl⟩
          · simp at h0
          · simp only [Bind.blk.injEq] at heq
            obtain ⟨rfl, rfl⟩ := heq
            have h2 := ((hl.drop (s * e'.sz)).take (n * e'.sz))
            rw [← flat_drop, ← flat_take] at h2
            have h3 := src_slice (w := w) (b := b') (o := s * e'.sz) (c := c) hk h2 fun j u hu => by
              rw [cell_at hb, ← Array.getElem?_toList]
              rw [List.getElem?_take] at hu
              split at hu
              · rw [List.getElem?_drop, List.getElem?_take] at hu
                split at hu
                · exact hu
                · simp at hu
              · simp at hu
            rw [hll] at h3
            exact ⟨_, _, hK, h3⟩
        | sl0 =>
          have : (zs.drop s).take 0 = [] := by simp
          rw [this] at hK
          exact ⟨_, _, hK, src_empty hk _ _⟩
      · exact hK.elim
    · exact hK.elim
  · cases hx
    exact ⟨_, _, hK, src_empty hk _ _⟩
  · exact hK.elim

theorem appSrcK_ok (H : HOk R μ h w) {e : Ety} {tx : TypeId} {x : AV} {vx : Value} {F : List e.T → Prop} (hx : Rel R μ x vx) (hK : appSrcK (kdT P tx) e h x F) :
    ∃ ys news, F ys ∧ SrcR P R w e tx vx ys news := by
  unfold appSrcK at hK
  split at hK
  · rename_i s hk
    split at hK
    · rename_i ys hy
      obtain ⟨rfl, hy⟩ := asE_some hy
      change s = ys at hy
      subst hy
      cases hx
      refine ⟨s, s.map fun b => .int .u8 b.toNat, hK, ⟨?_, ?_⟩⟩
      · have h1 := Src.ofString w (kd_str hk) ⟨s.toArray⟩
        rw [size_str] at h1
        exact h1
      · clear hK hy
        induction s with
        | nil => simp; exact .nil
        | cons a s ih => simp only [List.flatMap_cons, List.map_cons]; exact LRel.app (.cons .int .nil) ih
    · exact hK.elim
  · rename_i hk; exact srcK_ok H (kd_slice hk) hx hK
  · exact hK.elim

theorem bytes_info {t : TypeId} (h : szT P t ≠ 0) : ∃ i, P.info? t = some i ∧ i.size = szT P t ∧ i.bytes = bytesT P t := by
  obtain ⟨i, hi, hs⟩ := sz_info h
  exact ⟨i, hi, hs, by simp [bytesT, hi]⟩

/-- append where nothing is there and nothing comes -/
theorem run_app_stay {t tx ty el : TypeId} (hk : P.underlying t = some (.slice el)) {i : TypeInfo} (hi : P.info? el = some i) {a : Option Addr} {x : Value} (hs : Src P i.size tx x 0 [] w) :
    (Builtin.append_ #[t, tx] ty #[.slice a 0 0, x]).run P w = .ok (.slice a 0 0) w := by
  rcases hs.kind with ⟨e', hk'⟩ | hk' <;> cases a <;> simp [Builtin.append_, run_underlying hk, run_underlying hk', sizeOf, typeInfo, hi, hs.len, hs.cells, storeCells]
/-- append where there is room -/
theorem run_app_room {t tx ty el : TypeId} (hk : P.underlying t = some (.slice el)) {i : TypeInfo} (hi : P.info? el = some i) {b n c m : Nat} {arr : Array Value} {tb : TypeId} {x : Value} {news : List Value} (hs : Src P i.size tx x m news w)
    (hb : w.heap[b]? = some (.cells arr tb (0, 0))) (hroom : n + m ≤ c) (hfit : n * i.size + news.length ≤ arr.size) :
    (Builtin.append_ #[t, tx] ty #[.slice (some ⟨b, 0, none⟩) n c, x]).run P w = .ok (.slice (some ⟨b, 0, none⟩) (n + m) c) (w.setRow b (arr.toList.take (n * i.size) ++ news ++ arr.toList.drop (n * i.size + news.length)).toArray) := by
  have hst := run_storeCells_at P b (n * i.size) tb news 0 arr w hb (by simpa using hfit) hs.one
  simp only [Nat.add_zero] at hst
  rcases hs.kind with ⟨e', hk'⟩ | hk' <;> simp [Builtin.append_, run_underlying hk, run_underlying hk', sizeOf, typeInfo, hi, hs.len, hroom, hs.cells, addr_add, hst]
/-- append where there is none -/
theorem run_app_grow {t tx ty el : TypeId} (hk : P.underlying t = some (.slice el)) {i : TypeInfo} (hi : P.info? el = some i) {z : Value} (hz : i.zero = some z) {a : Option Addr} {n c m : Nat} {olds : List Value} {x : Value} {news : List Value} (hs : Src P i.size tx x m news w)
    (hold : (Builtin.firstCells i.size n (.slice a n c)).run P w.drew = .ok olds.toArray w.drew) (hg : c < n + m) (hbytes : (n + m) * i.bytes ≤ maxBytes) (hlen : n + m ≤ maxBytes) :
    (Builtin.append_ #[t, tx] ty #[.slice a n c, x]).run P w = .ok (.slice (some ⟨w.heap.size, 0, none⟩) (n + m) (grownCap w (n + m) c el))
        (w.drew.alloc (.cells ((olds ++ news).toArray ++ Builtin.zeroCells z.cells (grownCap w (n + m) c el - (n + m))) el)) := by
  have h2 : maxBytes = 140737488355328 := rfl
  exact run_append_grow_src (P := P) w t tx ty el i z hk hi hz a n c olds hold x m news hs hg (by omega) (growslice_fits (by omega) (by rw [h2] at hbytes; exact hbytes))

/-- the type of the elements -/
theorem el_info {el : TypeId} {e : Ety} (hs : szT P el = e.sz) : ∃ i, P.info? el = some i ∧ i.size = e.sz ∧ i.bytes = bytesT P el := by
  obtain ⟨i, hi, h1, h2⟩ := bytes_info (P := P) (t := el) (by rw [hs]; exact Nat.pos_iff_ne_zero.1 e.sz_pos)
  exact ⟨i, hi, h1.trans hs, h2⟩

/-- a new row behind a draw -/
theorem grown_row {e : Ety} {el : TypeId} {ys : List e.T} {vals : List Value} {z : Array Value} (H : HOk R μ h w) (hl : LRel R [] (ys.flatMap e.enc) vals) (hzs : z.size = e.sz) {c : Nat} (hge : ys.length ≤ c) (hcm : c ≤ maxLen) :
    HOk R (μ ++ [.blk w.heap.size c]) (h ++ [.rows e ys]) (w.drew.alloc (.cells (vals.toArray ++ Builtin.zeroCells z (c - ys.length)) el)) ∧
    Step (ownH h μ) R w (ownH (h ++ [.rows e ys]) (μ ++ [.blk w.heap.size c])) R (w.drew.alloc (.cells (vals.toArray ++ Builtin.zeroCells z (c - ys.length)) el)) ∧
    Rel R (μ ++ [.blk w.heap.size c]) (.sl h.length e 0 ys.length) (.slice (some ⟨w.heap.size, 0, none⟩) ys.length c) := by
  have hvl : vals.length = ys.length * e.sz := by rw [← hl.len, flat_len]
  have hp := H.push (w' := w.drew.alloc (.cells (vals.toArray ++ Builtin.zeroCells z (c - ys.length)) el)) (c := .rows e ys) (B := .blk w.heap.size c) (fun n hn => RowKit.Below.heap_alloc w.drew _ n hn) (by simp) (by simp [ownC]) (fun n hn => by simp [ownC] at hn; subst hn; simp)
    (.inr ⟨w.heap.size, c, _, el, rfl, heap_alloc_new w.drew _, by
      simp only [Array.size_append, List.size_toArray, size_zeroCells, hzs, hvl, ← Nat.add_mul]
      congr 1; omega, hge, hcm, by
      simp only [Array.toList_append, List.toList_toArray]
      rw [← hvl, List.take_left]; exact hl⟩) rfl rfl rfl
  refine ⟨hp.1, hp.2, ?_⟩
  have := Rel.sl (R := R) (μ := μ ++ [.blk w.heap.size c]) (t := h.length) (e := e) (start := 0) (len := ys.length) (b := w.heap.size) (cap := c) (c := c) (by rw [H.rel.len]; simp) (by omega) hge hcm
  simpa using this

theorem zero_info {el : TypeId} {e : Ety} (h : zlenT P el = e.sz) : ∃ i z, P.info? el = some i ∧ i.zero = some z ∧ z.cells.size = e.sz := by
  unfold zlenT zeroT at h
  have hp := e.sz_pos
  split at h
  · rename_i zs hz
    split at hz
    · rename_i i hi
      split at hz
      · rename_i z hzz
        simp only [Option.some.injEq] at hz
        subst hz
        exact ⟨i, z, hi, hzz, by simpa using h⟩
      · simp at hz
    · simp at hz
  · omega
variable [ETab]
theorem appK_ok (H : HOk R μ h w) {t tx ty : TypeId} {s x : AV} {vs vx : Value} {K : AV → List Ch → Prop} (hs : Rel R μ s vs) (hx : Rel R μ x vx) (hK : appK P t tx s x h K) : GivesH P R μ h w K (Builtin.append_ #[t, tx] ty #[vs, vx]) := by
  unfold appK at hK
  split at hK
  · rename_i el hk
    have hk := kd_slice hk
    split at hK
    · rename_i b e n
      split at hK
      · rename_i e' zs hc
        split at hK
        · rename_i xs hy
          obtain ⟨rfl, hy⟩ := asE_some hy
          change zs = xs at hy
          subst hy
          obtain ⟨⟨hsz, hzl⟩, hn, hK⟩ := hK
          obtain ⟨ys, news, ⟨⟨hb1, hb2⟩, hK⟩, hsrc⟩ := appSrcK_ok H hx hK
          obtain ⟨i, hi, hisz, hib⟩ := el_info hsz
          obtain ⟨i', z, hi', hz, hzs⟩ := zero_info hzl
          obtain rfl : i' = i := by rw [hi] at hi'; exact (Option.some.inj hi').symm
          have hsr := hsrc.src
          rw [← hisz] at hsr
          rw [← hib] at hb1
          have hct : h[b]? = some (.rows e' zs) := hth_get hc (by simp)
          clear hc
          obtain ⟨B, hB, hr, hown⟩ := H.rel.get hct
          have hgone := H.set (c' := .gone) (w' := w) hct hB (gone_sub _ _) (fun _ _ _ => rfl) (Nat.le_refl _) trivial rfl rfl rfl
          have hlg : (h.set b Ch.gone).length = h.length := List.length_set
          have hfl := hsrc.rel
          cases hs with
          | @sl _ _ _ _ _ b' cap c h1 hc1 hl1 hm1 =>
            subst hn
            rw [hB] at h1
            obtain rfl := Option.some.inj h1
            rcases hr with ⟨h0, _⟩ | ⟨m, cap', arr, ty', heq, hb, hsza, hlx, hcap, hl⟩
            · simp at h0
            · simp only [Bind.blk.injEq] at heq
              obtain ⟨rfl, rfl⟩ := heq
              have hcc : c = cap := by omega
              subst hcc
              have hfull := hl.app hfl
              rw [← List.flatMap_append] at hfull
              have hnl : news.length = ys.length * e'.sz := by rw [← hfl.len, flat_len]
              have hxfit : zs.length * e'.sz ≤ arr.size := by rw [hsza]; exact Nat.mul_le_mul_right _ hlx
              rw [Nat.zero_mul]
              by_cases hroom : zs.length + ys.length ≤ c
              · have hfit : zs.length * i'.size + news.length ≤ arr.size := by
                  rw [hisz, hnl, hsza, ← Nat.add_mul]; exact Nat.mul_le_mul_right _ hroom
                have hrun := run_app_room (ty := ty) hk hi hsr hb hroom hfit
                have hnew := setRow_heap w b' arr (arr.toList.take (zs.length * i'.size) ++ news ++ arr.toList.drop (zs.length * i'.size + news.length)).toArray ty' (0, 0) hb
                rw [hisz] at hrun hnew hfit
                obtain ⟨H', hstep⟩ := H.move (c' := .rows e' (zs ++ ys)) (B' := .blk b' c) (w' := w.setRow b' (arr.toList.take (zs.length * e'.sz) ++ news ++ arr.toList.drop (zs.length * e'.sz + news.length)).toArray) hct hB (by simp [ownC]) (fun m _ hm => setRow_other w b' m _ (fun e => hm (by simp [ownC, e]))) (by simp)
                  (.inr ⟨b', c, _, ty', rfl, hnew, by
                    simp only [List.size_toArray, List.length_append, List.length_take, List.length_drop, Array.length_toList]
                    omega, by simpa using hroom, hcap, by
                    have e1 : (zs ++ ys).length * e'.sz = (arr.toList.take (zs.length * e'.sz) ++ news).length := by
                      simp only [List.length_append, List.length_take, Array.length_toList, hnl, Nat.add_mul]; omega
                    rw [List.toList_toArray, e1, List.take_left]
                    exact hfull⟩) rfl rfl rfl
                refine ⟨_, _, R, _, _, _, hrun, hK, ?_, H', Ext.app _ _, hstep⟩
                have h5 := Rel.sl (R := R) (μ := μ ++ [.blk b' c]) (t := h.length) (e := e') (start := 0) (len := zs.length + ys.length) (b := b') (cap := c) (c := c) (by rw [H.rel.len]; simp) (by omega) hroom hcap
                simpa using h5
              · have hold : (Builtin.firstCells i'.size zs.length (.slice (some ⟨b', 0, none⟩) zs.length c)).run P w.drew = .ok (arr.toList.take (zs.length * e'.sz)).toArray w.drew := by
                  rw [hisz]
                  refine run_firstCells_some w.drew e'.sz zs.length _ zs.length c (arr.toList.take (zs.length * e'.sz)) (by rw [List.length_take, Array.length_toList]; exact Nat.min_eq_left hxfit) fun j v hj => ?_
                  rw [addr_add, Nat.zero_add]
                  show w.cell? _ = _
                  rw [cell_at hb, ← Array.getElem?_toList]
                  rw [List.getElem?_take] at hj
                  split at hj
                  · exact hj
                  · simp at hj
                have hrun := run_app_grow (ty := ty) hk hi hz (a := some ⟨b', 0, none⟩) (n := zs.length) (c := c) hsr hold (by omega) hb1 hb2
                have hml : zs.length + ys.length ≤ maxLen := Nat.le_trans hb2 (by decide)
                obtain ⟨H', hstep, hrel⟩ := grown_row (el := el) (ys := zs ++ ys) hgone.1 hfull hzs (c := grownCap w (zs.length + ys.length) c el) (by rw [List.length_append]; exact grownCap_ge _ _ _ _) (grownCap_le_maxLen _ _ _ _ hml)
                rw [List.length_append] at H' hstep hrel
                rw [hlg] at hrel
                exact ⟨_, _, R, _, _, _, hrun, hK, hrel, H', Ext.app _ _, hgone.2.trans hstep⟩
          | @sl0 _ _ _ _ a ht =>
            have hz0 : zs = [] := List.eq_nil_of_length_eq_zero hn.symm
            subst hz0
            rw [List.length_nil, Nat.zero_add] at hb1 hb2 hK
            rw [List.nil_append] at hK
            cases hys : ys with
            | nil =>
              subst hys
              have hn0 : news = [] := by cases hfl; rfl
              subst hn0
              obtain ⟨H', hstep⟩ := H.move (c' := .rows e' []) (B' := .none) (w' := w) hct hB (List.nil_sublist _) (fun _ _ _ => rfl) (Nat.le_refl _) (.inl ⟨rfl, rfl⟩) rfl rfl rfl
              exact ⟨_, _, R, _, _, _, run_app_stay hk hi hsr, hK, .sl0 (.inl (by rw [H.rel.len]; simp)), H', Ext.app _ _, hstep⟩
            | cons y ys' =>
              have hold : (Builtin.firstCells i'.size 0 (.slice a 0 0)).run P w.drew = .ok ([] : List Value).toArray w.drew := by
                cases a <;> simp [Builtin.firstCells, loadCells, loadCellsFrom]
              have hrun := run_app_grow (ty := ty) hk hi hz (a := a) (n := 0) (c := 0) hsr hold (by rw [hys]; simp) (by rw [Nat.zero_add]; exact hb1) (by rw [Nat.zero_add]; exact hb2)
              have hml : ys.length ≤ maxLen := Nat.le_trans hb2 (by decide)
              rw [Nat.zero_add] at hrun
              obtain ⟨H', hstep, hrel⟩ := grown_row (el := el) (ys := ys) hgone.1 hfl hzs (c := grownCap w ys.length 0 el) (grownCap_ge _ _ _ _) (grownCap_le_maxLen _ _ _ _ hml)
              rw [hlg] at hrel
              exact ⟨_, _, R, _, _, _, hrun, hK, hrel, H', Ext.app _ _, hgone.2.trans hstep⟩
        · exact hK.elim
      · exact hK.elim
    · split at hK
      · rename_i e he
        obtain ⟨⟨hsz, hzl⟩, hK⟩ := hK
        obtain ⟨ys, news, ⟨⟨hb1, hb2⟩, hK⟩, hsrc⟩ := appSrcK_ok H hx hK
        obtain ⟨i, hi, hisz, hib⟩ := el_info hsz
        obtain ⟨i', z, hi', hz, hzs⟩ := zero_info hzl
        obtain rfl : i' = i := by rw [hi] at hi'; exact (Option.some.inj hi').symm
        have hsr := hsrc.src
        rw [← hisz] at hsr
        rw [← hib] at hb1
        have hfl := hsrc.rel
        cases hs
        cases hys : ys with
        | nil =>
          subst hys
          have hn0 : news = [] := by cases hfl; rfl
          subst hn0
          obtain ⟨H', hstep⟩ := H.push (c := .rows e []) (B := .none) (w' := w) (fun _ _ => rfl) (Nat.le_refl _) (by simp [ownC]) (by simp [ownC]) (.inl ⟨rfl, rfl⟩) rfl rfl rfl
          exact ⟨_, _, R, _, _, _, run_app_stay hk hi hsr, hK, .sl0 (.inl (by rw [H.rel.len]; simp)), H', Ext.app _ _, hstep⟩
        | cons y ys' =>
          have hold : (Builtin.firstCells i'.size 0 (.slice none 0 0)).run P w.drew = .ok ([] : List Value).toArray w.drew := by simp [Builtin.firstCells]
          have hrun := run_app_grow (ty := ty) hk hi hz (a := none) (n := 0) (c := 0) hsr hold (by rw [hys]; simp) (by rw [Nat.zero_add]; exact hb1) (by rw [Nat.zero_add]; exact hb2)
          have hml : ys.length ≤ maxLen := Nat.le_trans hb2 (by decide)
          rw [Nat.zero_add] at hrun
          obtain ⟨H', hstep, hrel⟩ := grown_row (el := el) (ys := ys) H hfl hzs (c := grownCap w ys.length 0 el) (grownCap_ge _ _ _ _) (grownCap_le_maxLen _ _ _ _ hml)
          exact ⟨_, _, R, _, _, _, hrun, hK, hrel, H', Ext.app _ _, hstep⟩
      · exact hK.elim
    · exact hK.elim
  · exact hK.elim
end Go.V
