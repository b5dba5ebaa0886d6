/-
  Calls on a part of the memory at hand: slices are lent, objects handed over.
  How the evaluation opens what is asked, from the outside in; small rules of the walk.
  A drawn region in which two operations may change places: one order, and the other.
-/
import Derived.Test.YtifighagbpjogaaPart08
set_option linter.unusedVariables false
set_option linter.unusedSimpArgs false
namespace Go.V

variable {P : Program} {R : RO} {μ : List Bind} {h : List Ch} {w : World}

mutual
/-- nothing in it lies for good -/
def rfA : AV → Bool
  | .ro _ _ => false
  | .rp _ _ _ _ => false
  | .rc _ _ => false
  | .agg l => rfL l
  | .tup l => rfL l
  | .fn _ l => rfL l
  | .ifc _ a => rfA a
  | _ => true
def rfL : List AV → Bool
  | [] => true
  | a :: l => rfA a && rfL l
end
mutual
def rfC : Ch → Bool
  | .cells vs => rfL vs
  | .crow vs => rfL vs
  | .rows e _ => e.flat
  | .gone => true
  | .pack l => rfCs l
  | .map _ e _ => e.flat
  | .iter _ _ e _ _ _ => e.flat
def rfCs : List Ch → Bool
  | [] => true
  | c :: l => rfC c && rfCs l
end
mutual
/-- the value a is what g says, tags through σ; a slice that is owned may be given for one that lies for good -/
def brA (σ : List Nat) (h : List Ch) : AV → AV → Prop
  | .agg l, a => (match a with | .agg l' => brL σ h l l' | _ => False)
  | .ro e xs, a => (match a with
    | .sl t e' s n => (match hth h t with
      | .rows e'' ys => (match asE e e'' ys with
        | some ys => (s + n ≤ ys.length ∧ e' = e ∧ t ∉ σ) ∧ xs = (ys.drop s).take n
        | none => False)
      | _ => False)
    | a => fitA σ (.ro e xs) a)
  | g, a => fitA σ g a
def brL (σ : List Nat) (h : List Ch) : List AV → List AV → Prop
  | [], l => (match l with | [] => True | _ => False)
  | g :: gs, l => (match l with | a :: as => brA σ h g a ∧ brL σ h gs as | [] => False)
end
mutual
/-- the rows that are lent -/
def brT : AV → AV → List Nat
  | .agg l, a => (match a with | .agg l' => brTL l l' | _ => [])
  | .ro _ _, a => (match a with | .sl t _ _ _ => [t] | _ => [])
  | _, _ => []
def brTL : List AV → List AV → List Nat
  | [], _ => []
  | g :: gs, l => (match l with | a :: as => brT g a ++ brTL gs as | [] => [])
end

mutual
theorem Rel.rf {R R' : RO} : ∀ {a : AV} {v : Value}, rfA a = true → Rel R μ a v → Rel R' μ a v
  | .int _ _, _, _, h => by cases h; exact .int
  | .bool _, _, _, h => by cases h; exact .bool
  | .str _, _, _, h => by cases h; exact .str
  | .lit _, _, _, h => by cases h; exact .lit
  | .any, _, _, _ => .any
  | .agg l, _, hf, h => by cases h with | agg h => exact .agg (LRel.rf (by simpa [rfA] using hf) h)
  | .tup l, _, hf, h => by cases h with | tup h => exact .tup (LRel.rf (by simpa [rfA] using hf) h)
  | .fn _ l, _, hf, h => by cases h with | fn h => exact .fn (LRel.rf (by simpa [rfA] using hf) h)
  | .ifc _ a, _, hf, h => by cases h with | ifc h => exact .ifc (Rel.rf (by simpa [rfA] using hf) h)
  | .mp _, _, _, h => by cases h with | mp h => exact .mp h
  | .ptr _ _, _, _, h => by cases h with | ptr h hb => exact .ptr h hb
  | .csl _ _ _, _, _, h => by cases h with | csl h hb hl hm => exact .csl h hb hl hm
  | .ep _ _ _ _, _, _, h => by cases h with | ep h => exact .ep h
  | .sl _ _ _ _, _, _, h => by
    cases h with
    | sl h hc hl hm => exact .sl h hc hl hm
    | sl0 h => exact .sl0 h
  | .ro _ _, _, hf, _ => by simp [rfA] at hf
  | .rp _ _ _ _, _, hf, _ => by simp [rfA] at hf
  | .rc _ _, _, hf, _ => by simp [rfA] at hf
theorem LRel.rf {R R' : RO} : ∀ {l : List AV} {vs : List Value}, rfL l = true → LRel R μ l vs → LRel R' μ l vs
  | [], _, _, h => by cases h; exact .nil
  | a :: l, _, hf, h => by
    simp only [rfL, Bool.and_eq_true] at hf
    cases h with | cons ha hl => exact .cons (Rel.rf hf.1 ha) (LRel.rf hf.2 hl)
end
theorem LRel.ntf {R R' : RO} : ∀ {l : List AV} {vs : List Value}, (∀ a ∈ l, a.ntf = true) → LRel R μ l vs → LRel R' μ l vs
  | [], _, _, h => by cases h; exact .nil
  | a :: l, _, hf, h => by
    cases h with
    | cons ha hl =>
      refine .cons (ha.rf ?_) (LRel.ntf (fun b hb => hf b (by simp [hb])) hl)
      have := hf a (by simp)
      cases a <;> simp [AV.ntf] at this <;> rfl
theorem rf_of_ntf : ∀ {l : List AV}, (∀ a ∈ l, a.ntf = true) → rfL l = true
  | [], _ => rfl
  | a :: l, h => by
    have h1 := h a (by simp)
    have h2 := rf_of_ntf (l := l) fun b hb => h b (by simp [hb])
    have h3 : rfA a = true := by cases a <;> first | rfl | simp [AV.ntf] at h1
    simp [rfL, h2, h3]
theorem rf_valA (e : Ety) (hf : e.flat = true) (x : e.T) : rfA (valA e x) = true := by
  have h := rf_of_ntf (e.enc_flat hf x)
  unfold valA
  split
  · rename_i a ha
    rw [ha] at h
    simpa [rfL] using h
  · simpa [rfA] using h
theorem rfL_map {α : Type} {f : α → AV} (h : ∀ x, rfA (f x) = true) : ∀ {l : List α}, rfL (l.map f) = true
  | [] => rfl
  | x :: l => by simp [rfL, h x, rfL_map h (l := l)]
mutual
theorem CRel.rf {R R' : RO} {μ : List Bind} : ∀ {c : Ch} {B : Bind}, rfC c = true → CRel R w μ c B → CRel R' w μ c B
  | .cells vs, B, hf, h => by
    obtain ⟨n, arr, ty, h1, h2, h3⟩ := h
    exact ⟨n, arr, ty, h1, h2, h3.rf (by simpa [rfC] using hf)⟩
  | .crow vs, B, hf, h => by
    obtain ⟨n, arr, ty, h1, h2, h3⟩ := h
    exact ⟨n, arr, ty, h1, h2, h3.rf (by simpa [rfC] using hf)⟩
  | .rows e xs, B, hf, h => by
    rcases h with h | ⟨n, cap, arr, ty, h1, h2, h3, h4, h5, h6⟩
    · exact .inl h
    · exact .inr ⟨n, cap, arr, ty, h1, h2, h3, h4, h5, h6.ntf fun a ha => by
        obtain ⟨x, _, hx⟩ := List.mem_flatMap.1 ha
        exact e.enc_flat (by simpa [rfC] using hf) x a hx⟩
  | .gone, _, _, _ => trivial
  | .map k e kv, B, hf, h => by
    obtain ⟨n, es, clock, kv0, h1, h2, h3, h4, h5⟩ := h
    exact ⟨n, es, clock, kv0, h1, h2, h3.ntf fun a ha => by
        obtain ⟨p, _, rfl⟩ := List.mem_map.1 ha
        cases k <;> rfl, h4.rf (rfL_map (α := k.T × e.T) (f := fun p => valA e p.2) fun p => rf_valA e (by simpa [rfC] using hf) p.2), h5⟩
  | .iter g k e kv todo last, B, hf, h => by
    obtain ⟨r, m, es, clock, seen, kv0, td0, h0, h1, h2, h3, h4, h5, h6, hs, h7, h8, ht, h9⟩ := h
    have hk : ∀ x : k.T, (k.av x).ntf = true := fun x => by cases k <;> rfl
    have hv : ∀ x : e.T, rfA (valA e x) = true := fun x => rf_valA e (by simpa [rfC] using hf) x
    have hkl : ∀ l : List (k.T × e.T), ∀ a ∈ l.map fun p => k.av p.1, a.ntf = true := fun l a ha => by
      obtain ⟨p, _, rfl⟩ := List.mem_map.1 ha
      exact hk p.1
    refine ⟨r, m, es, clock, seen, kv0, td0, h0, h1, h2, h3, h4.ntf (hkl kv0), h5.rf (rfL_map (α := k.T × e.T) (f := fun p => valA e p.2) fun p => hv p.2), h6, hs, h7.ntf (hkl td0), h8.rf (rfL_map (α := k.T × e.T) (f := fun p => valA e p.2) fun p => hv p.2), ht, fun p hp => ?_⟩
    obtain ⟨x, b1, b2, b3, b4⟩ := h9 p hp
    exact ⟨x, b1, b2, by
      have e := KTy.av_val b3
      rw [e]
      cases k
      · exact .int
      · exact .str, b4.rf (hv p.2)⟩
  | .pack l, B, hf, h => by
    obtain ⟨bl, rfl, h⟩ := h
    exact ⟨bl, rfl, HRel.rf (by simpa [rfC] using hf) h⟩
theorem HRel.rf {R R' : RO} {μ : List Bind} : ∀ {l : List Ch} {m : List Bind}, rfCs l = true → HRel R w μ l m → HRel R' w μ l m
  | [], [], _, _ => trivial
  | c :: l, b :: m, hf, h => by
    simp only [rfCs, Bool.and_eq_true] at hf
    exact ⟨CRel.rf hf.1 h.1, HRel.rf hf.2 h.2⟩
  | [], _ :: _, _, h => h.elim
  | _ :: _, [], _, h => h.elim
end

mutual
theorem brA_ok (H : HOk R μ h w) {R1 : RO} (hle : R.le R1) {σ : List Nat} : ∀ {g a : AV} {v : Value}, brA σ h g a → (∀ t ∈ brT g a, ∀ b cap, μ[t]? = some (.blk b cap) → R1 b = w.heap[b]?) → Rel R μ a v → Rel R1 (pickB σ μ) g v
  | .agg l, a, v, hb, hl, hr => by
    cases a <;> simp only [brA] at hb
    cases hr with | agg hr => exact .agg (brL_ok H hle hb (by simpa only [brT] using hl) hr)
  | .ro e xs, a, v, hb, hl, hr => by
    simp only [brA] at hb
    split at hb
    · rename_i t e' s n
      split at hb
      · rename_i e'' ys hh
        split at hb
        · rename_i zs hz
          obtain ⟨he, hz⟩ := asE_some hz
          subst he
          simp only at hz
          subst hz
          obtain ⟨⟨hlen, rfl, _⟩, rfl⟩ := hb
          cases hr with
          | @sl _ _ _ _ _ b cap c h1 hc hn hm =>
            have htl : t < h.length := by rw [H.rel.len]; exact (List.getElem?_eq_some_iff.1 h1).1
            obtain ⟨B, hB, hr, _⟩ := H.rel.get (hth_some htl)
            rw [h1] at hB
            obtain rfl := (Option.some.inj hB)
            rw [hh] at hr
            rcases hr with ⟨h0, _⟩ | ⟨b', cap', arr, ty, h0, hb, hsz, hle2, hcap, hrel⟩
            · exact Bind.noConfusion h0
            · simp only [Bind.blk.injEq] at h0
              obtain ⟨rfl, rfl⟩ := h0
              have hll : ((ys.drop s).take n).length = n := by simp; omega
              have hR1 := hl t (by simp [brT]) b cap h1
              rw [hb] at hR1
              have h2 : Rel R1 (pickB σ μ) (.ro e' ((ys.drop s).take n)) (.slice (some ⟨b, s * e'.sz, none⟩) ((ys.drop s).take n).length c) := by
                refine .ro (arr := arr) (ty := ty) (fr := (0, 0)) hR1 ?_ (by omega) (by omega)
                have h3 := ((hrel.drop (s * e'.sz)).take (n * e'.sz)).mono hle (Ext.refl _)
                rw [flat_take, flat_drop, hll]
                have e1 : ((arr.toList.drop (s * e'.sz)).take (n * e'.sz)) = ((arr.toList.take (ys.length * e'.sz)).drop (s * e'.sz)).take (n * e'.sz) := by
                  rw [List.drop_take, List.take_take, Nat.min_eq_left]
                  rw [← Nat.sub_mul]
                  exact Nat.mul_le_mul_right _ (by omega)
                rw [e1]
                exact h3
              rw [hll] at h2
              exact h2
          | sl0 h1 => simp; exact .ro0 (Nat.zero_le _)
        · exact hb.elim
      · exact hb.elim
    · exact (fitA_ok (σ := σ) hb hr).mono hle (Ext.refl _)
  | .any, a, v, hb, hl, hr => .any
  | .int _ _, a, v, hb, hl, hr => (fitA_ok (σ := σ) hb hr).mono hle (Ext.refl _)
  | .bool _, a, v, hb, hl, hr => (fitA_ok (σ := σ) hb hr).mono hle (Ext.refl _)
  | .str _, a, v, hb, hl, hr => (fitA_ok (σ := σ) hb hr).mono hle (Ext.refl _)
  | .lit _, a, v, hb, hl, hr => (fitA_ok (σ := σ) hb hr).mono hle (Ext.refl _)
  | .tup _, a, v, hb, hl, hr => (fitA_ok (σ := σ) hb hr).mono hle (Ext.refl _)
  | .ptr _ _, a, v, hb, hl, hr => (fitA_ok (σ := σ) hb hr).mono hle (Ext.refl _)
  | .csl _ _ _, a, v, hb, hl, hr => (fitA_ok (σ := σ) hb hr).mono hle (Ext.refl _)
  | .ep _ _ _ _, a, v, hb, hl, hr => (fitA_ok (σ := σ) hb hr).mono hle (Ext.refl _)
  | .sl _ _ _ _, a, v, hb, hl, hr => (fitA_ok (σ := σ) hb hr).mono hle (Ext.refl _)
  | .rp _ _ _ _, a, v, hb, hl, hr => (fitA_ok (σ := σ) hb hr).mono hle (Ext.refl _)
  | .rc _ _, a, v, hb, hl, hr => (fitA_ok (σ := σ) hb hr).mono hle (Ext.refl _)
  | .fn _ _, a, v, hb, hl, hr => (fitA_ok (σ := σ) hb hr).mono hle (Ext.refl _)
  | .ifc _ _, a, v, hb, hl, hr => (fitA_ok (σ := σ) hb hr).mono hle (Ext.refl _)
  | .mp _, a, v, hb, hl, hr => (fitA_ok (σ := σ) hb hr).mono hle (Ext.refl _)
theorem brL_ok (H : HOk R μ h w) {R1 : RO} (hle : R.le R1) {σ : List Nat} : ∀ {gs as : List AV} {vs : List Value}, brL σ h gs as → (∀ t ∈ brTL gs as, ∀ b cap, μ[t]? = some (.blk b cap) → R1 b = w.heap[b]?) → LRel R μ as vs → LRel R1 (pickB σ μ) gs vs
  | [], as, vs, hb, hl, hr => by
    cases as <;> simp only [brL] at hb
    cases hr; exact .nil
  | g :: gs, as, vs, hb, hl, hr => by
    cases as <;> simp only [brL] at hb
    cases hr with
    | cons ha hs => exact .cons (brA_ok H hle hb.1 (fun t ht => hl t (by simp [brTL, ht])) ha) (brL_ok H hle hb.2 (fun t ht => hl t (by simp [brTL, ht])) hs)
end

mutual
theorem brT_rows {σ : List Nat} : ∀ {g a : AV}, brA σ h g a → ∀ t ∈ brT g a, (∃ e xs, hth h t = .rows e xs) ∧ t ∉ σ
  | .agg l, a, hb, t, ht => by
    cases a <;> simp only [brA] at hb
    exact brTL_rows hb t (by simpa only [brT] using ht)
  | .ro e xs, a, hb, t, ht => by
    simp only [brT] at ht
    split at ht
    · rename_i t' e' s n
      simp only [List.mem_singleton] at ht
      subst ht
      simp only [brA] at hb
      split at hb
      · rename_i e'' ys hh
        split at hb
        · exact ⟨⟨e'', ys, hh⟩, hb.1.2.2⟩
        · exact hb.elim
      · exact hb.elim
    · simp at ht
  | .any, _, _, t, ht => by simp [brT] at ht
  | .int _ _, _, _, t, ht => by simp [brT] at ht
  | .bool _, _, _, t, ht => by simp [brT] at ht
  | .str _, _, _, t, ht => by simp [brT] at ht
  | .lit _, _, _, t, ht => by simp [brT] at ht
  | .tup _, _, _, t, ht => by simp [brT] at ht
  | .ptr _ _, _, _, t, ht => by simp [brT] at ht
  | .csl _ _ _, _, _, t, ht => by simp [brT] at ht
  | .ep _ _ _ _, _, _, t, ht => by simp [brT] at ht
  | .sl _ _ _ _, _, _, t, ht => by simp [brT] at ht
  | .rp _ _ _ _, _, _, t, ht => by simp [brT] at ht
  | .rc _ _, _, _, t, ht => by simp [brT] at ht
  | .fn _ _, _, _, t, ht => by simp [brT] at ht
  | .ifc _ _, _, _, t, ht => by simp [brT] at ht
  | .mp _, _, _, t, ht => by simp [brT] at ht
theorem brTL_rows {σ : List Nat} : ∀ {gs as : List AV}, brL σ h gs as → ∀ t ∈ brTL gs as, (∃ e xs, hth h t = .rows e xs) ∧ t ∉ σ
  | [], _, _, t, ht => by simp [brTL] at ht
  | g :: gs, as, hb, t, ht => by
    cases as <;> simp only [brL] at hb
    simp only [brTL, List.mem_append] at ht
    rcases ht with ht | ht
    · exact brT_rows hb.1 t ht
    · exact brTL_rows hb.2 t ht
end

def lentB (μ : List Bind) : List Nat → List Nat
  | [] => []
  | t :: ts => (match μ[t]? with | some (.blk b _) => b :: lentB μ ts | _ => lentB μ ts)
theorem lentB_mem {ts : List Nat} {t b cap : Nat} (ht : t ∈ ts) (hb : μ[t]? = some (.blk b cap)) : b ∈ lentB μ ts := by
  induction ts with
  | nil => simp at ht
  | cons s ts ih =>
    rcases List.mem_cons.1 ht with rfl | ht
    · simp [lentB, hb]
    · have := ih ht
      unfold lentB
      split
      · simp [this]
      · exact this
theorem lentB_of {ts : List Nat} {b : Nat} (hb : b ∈ lentB μ ts) : ∃ t ∈ ts, ∃ cap, μ[t]? = some (.blk b cap) := by
  induction ts with
  | nil => simp [lentB] at hb
  | cons s ts ih =>
    unfold lentB at hb
    split at hb
    · rename_i b' c hh
      rcases List.mem_cons.1 hb with rfl | hb
      · exact ⟨s, by simp, c, hh⟩
      · obtain ⟨t, h1, h2⟩ := ih hb
        exact ⟨t, by simp [h1], h2⟩
    · obtain ⟨t, h1, h2⟩ := ih hb
      exact ⟨t, by simp [h1], h2⟩
open Classical in
noncomputable def lend (Bs : List Nat) (w : World) (R : RO) : RO := fun b => if b ∈ Bs then w.heap[b]? else R b
open Classical in
noncomputable def unlend (Bs : List Nat) (R : RO) : RO := fun b => if b ∈ Bs then none else R b
theorem unlend_nil (R : RO) : unlend [] R = R := by
  funext b
  unfold unlend
  rw [if_neg (by simp)]
theorem lent_own (H : HOk R μ h w) {σ ts : List Nat} (hr : ∀ t ∈ ts, (∃ e xs, hth h t = .rows e xs) ∧ t ∉ σ) {b : Nat} (hb : b ∈ lentB μ ts) : ∃ t ∈ ts, t ∉ σ ∧ ∃ c B, h[t]? = some c ∧ μ[t]? = some B ∧ b ∈ ownC c B := by
  obtain ⟨t, ht, cap, hm⟩ := lentB_of hb
  obtain ⟨⟨e, xs, hh⟩, hn⟩ := hr t ht
  have htl : t < h.length := by rw [H.rel.len]; exact (List.getElem?_eq_some_iff.1 hm).1
  refine ⟨t, ht, hn, _, _, hth_some htl, hm, ?_⟩
  rw [hh]
  simp [ownC]
theorem enter (H : HOk R μ h w) {Bs : List Nat} (hBs : ∀ b ∈ Bs, b ∈ ownH h μ) {l : List Ch} {bl : List Bind} (hl : HRel R w bl l bl) (hnd : (ownH l bl).Nodup) (hsub : ∀ b ∈ ownH l bl, b ∈ ownH h μ ∧ b ∉ Bs) :
    HOk (lend Bs w R) bl l w ∧ R.le (lend Bs w R) := by
  have hle : R.le (lend Bs w R) := fun b o hb => by
    unfold lend
    rw [if_neg]
    · exact hb
    · intro hx
      have := (H.own b (hBs b hx)).2
      rw [this] at hb
      simp at hb
  refine ⟨⟨HRel.keep hle (Ext.refl bl) l bl hl fun _ _ => rfl, hnd, fun b hb => ⟨(H.own b (hsub b hb).1).1, ?_⟩, fun b o hb => ?_⟩, hle⟩
  · unfold lend
    rw [if_neg (hsub b hb).2]
    exact (H.own b (hsub b hb).1).2
  · unfold lend at hb
    split at hb
    · exact hb
    · exact H.ro b o hb
theorem leave (H : HOk R μ h w) {Bs : List Nat} (hBs : ∀ b ∈ Bs, b ∈ ownH h μ) {O O' : List Nat} {R' : RO} {w' : World} (st : Step O (lend Bs w R) w O' R' w') :
    R.le (unlend Bs R') ∧ (∀ b o, unlend Bs R' b = some o → R' b = some o) ∧ ∀ b o, unlend Bs R' b = some o → R b = some o ∨ b ∈ O ∨ w.heap.size ≤ b := by
  refine ⟨fun b o hb => ?_, fun b o hb => ?_, fun b o hb => ?_⟩
  · have hn : b ∉ Bs := fun hx => by
      have := (H.own b (hBs b hx)).2
      rw [this] at hb
      simp at hb
    unfold unlend
    rw [if_neg hn]
    refine st.ro b o ?_
    unfold lend
    rw [if_neg hn]
    exact hb
  · unfold unlend at hb
    split at hb
    · simp at hb
    · exact hb
  · unfold unlend at hb
    split at hb
    · simp at hb
    · rename_i hn
      rcases st.nro b o hb with h1 | h1 | h1
      · unfold lend at h1
        rw [if_neg hn] at h1
        exact .inl h1
      · exact .inr (.inl h1)
      · exact .inr (.inr h1)

/-! ### Several chunks are replaced -/
def setHL (h : List Ch) : List Nat → List Ch → List Ch
  | t :: ts, c :: cs => setHL (h.set t c) ts cs
  | _, _ => h
def setML (m : List Bind) : List Nat → List Bind → List Bind
  | t :: ts, b :: bs => setML (m.set t b) ts bs
  | _, _ => m
theorem setHL_len : ∀ (ts : List Nat) (cs : List Ch) (h : List Ch), (setHL h ts cs).length = h.length
  | [], cs, h => by cases cs <;> rfl
  | _ :: _, [], h => rfl
  | t :: ts, c :: cs, h => by simp [setHL, setHL_len ts cs]
theorem setML_len : ∀ (ts : List Nat) (cs : List Bind) (h : List Bind), (setML h ts cs).length = h.length
  | [], cs, h => by cases cs <;> rfl
  | _ :: _, [], h => rfl
  | t :: ts, c :: cs, h => by simp [setML, setML_len ts cs]
theorem setML_ne {s : Nat} : ∀ (ts : List Nat) (bs m : List Bind), s ∉ ts → (setML m ts bs)[s]? = m[s]?
  | [], bs, m, _ => by cases bs <;> rfl
  | _ :: _, [], m, _ => rfl
  | t :: ts, b :: bs, m, hs => by
    simp only [List.mem_cons, not_or] at hs
    rw [setML, setML_ne ts bs _ hs.2, List.getElem?_set_ne (Ne.symm hs.1)]
theorem setML_at : ∀ (ts : List Nat) (bs m : List Bind) (i t : Nat), ts.Nodup → ts[i]? = some t → t < m.length → bs.length = ts.length → (setML m ts bs)[t]? = bs[i]?
  | [], _, _, _, _, _, h, _, _ => by simp at h
  | _ :: _, [], _, _, _, _, _, _, h => by simp at h
  | t0 :: ts, b :: bs, m, 0, t, hn, h, hl, _ => by
    simp at h
    subst h
    rw [setML, setML_ne ts bs _ (List.nodup_cons.1 hn).1, List.getElem?_set_self hl]
    rfl
  | t0 :: ts, b :: bs, m, i + 1, t, hn, h, hl, hb => by
    rw [setML]
    exact setML_at ts bs _ i t (List.nodup_cons.1 hn).2 (by simpa using h) (by simpa using hl) (by simpa using hb)
theorem setML_ext : ∀ (ts : List Nat) (bs m : List Bind), ts.Nodup → (∀ (i t : Nat) (B : Bind), ts[i]? = some t → m[t]? = some B → ∃ B' : Bind, bs[i]? = some B' ∧ BLe B B') → Ext m (setML m ts bs)
  | [], bs, m, _, _ => by cases bs <;> exact Ext.refl m
  | _ :: _, [], m, _, _ => Ext.refl m
  | t :: ts, b :: bs, m, hn, h => by
    obtain ⟨h1, h2⟩ := List.nodup_cons.1 hn
    rw [setML]
    have hstep : Ext m (m.set t b) := by
      by_cases hlt : t < m.length
      · obtain ⟨B', h3, h4⟩ := h 0 t m[t] (by simp) (by simp [hlt])
        simp at h3
        subst h3
        exact Ext.set (by simp [hlt]) h4
      · rw [List.set_eq_of_length_le (by omega)]
        exact Ext.refl m
    refine hstep.trans (setML_ext ts bs _ h2 fun i s B hi hB => ?_)
    have hne : s ≠ t := fun e => h1 (e ▸ List.mem_of_getElem? hi)
    rw [List.getElem?_set_ne (Ne.symm hne)] at hB
    simpa using h (i + 1) s B (by simpa using hi) hB
theorem HRel.put {c : Ch} {B : Bind} (hc : CRel R w μ c B) : ∀ {h : List Ch} {m : List Bind} {t : Nat}, HRel R w μ h m → HRel R w μ (h.set t c) (m.set t B)
  | [], [], _, h => by simpa using h
  | _ :: _, _ :: _, 0, h => ⟨hc, h.2⟩
  | _ :: _, _ :: _, t + 1, h => ⟨h.1, HRel.put hc h.2⟩
  | [], _ :: _, _, h => h.elim
  | _ :: _, [], _, h => h.elim
theorem HRel.puts : ∀ (ts : List Nat) {cs : List Ch} {bs : List Bind} {h : List Ch} {m : List Bind}, HRel R w μ cs bs → HRel R w μ h m → HRel R w μ (setHL h ts cs) (setML m ts bs)
  | [], [], [], _, _, _, h => h
  | [], _ :: _, _ :: _, _, _, _, h => h
  | _ :: _, [], [], _, _, _, h => h
  | t :: ts, c :: cs, b :: bs, _, _, hc, h => HRel.puts ts hc.2 (HRel.put hc.1 h)
  | _, [], _ :: _, _, _, hc, _ => hc.elim
  | _, _ :: _, [], _, _, hc, _ => hc.elim
theorem own_put {c : Ch} {B : Bind} : ∀ {h : List Ch} {m : List Bind} {t : Nat}, ∀ b ∈ ownH (h.set t c) (m.set t B), b ∈ ownC c B ∨ b ∈ ownH h m
  | [], m, _, b, hb => by simp [ownH] at hb
  | _ :: _, [], _, b, hb => by cases ‹Nat› <;> simp [ownH] at hb
  | _ :: _, _ :: _, 0, b, hb => by
    simp only [List.set_cons_zero, ownH, List.mem_append] at hb ⊢
    exact hb.imp id .inr
  | _ :: _, _ :: _, t + 1, b, hb => by
    simp only [List.set_cons_succ, ownH, List.mem_append] at hb ⊢
    rcases hb with hb | hb
    · exact .inr (.inl hb)
    · exact (own_put b hb).imp id .inr
theorem own_puts : ∀ (ts : List Nat) {cs : List Ch} {bs : List Bind} {h : List Ch} {m : List Bind}, cs.length = bs.length → ∀ b ∈ ownH (setHL h ts cs) (setML m ts bs), b ∈ ownH cs bs ∨ b ∈ ownH h m
  | [], cs, bs, h, m, _, b, hb => by
    cases cs <;> cases bs <;> exact .inr hb
  | _ :: _, [], [], _, _, _, b, hb => .inr hb
  | t :: ts, c :: cs, d :: bs, h, m, hl, b, hb => by
    simp only [ownH, List.mem_append]
    rcases own_puts ts (by simpa using hl) b hb with h1 | h1
    · exact .inl (.inr h1)
    · rcases own_put b h1 with h2 | h2
      · exact .inl (.inl h2)
      · exact .inr h2
  | _ :: _, [], _ :: _, _, _, hl, _, _ => by simp at hl
  | _ :: _, _ :: _, [], _, _, hl, _, _ => by simp at hl
theorem own_puts_nodup : ∀ (ts : List Nat) {cs : List Ch} {bs : List Bind} {h : List Ch} {m : List Bind}, cs.length = bs.length → (ownH cs bs).Nodup → (ownH h m).Nodup → (∀ b ∈ ownH cs bs, b ∉ ownH h m) → (ownH (setHL h ts cs) (setML m ts bs)).Nodup
  | [], cs, bs, h, m, _, _, hn, _ => by cases cs <;> cases bs <;> exact hn
  | _ :: _, [], [], _, _, _, _, hn, _ => hn
  | t :: ts, c :: cs, d :: bs, h, m, hl, hc, hn, hd => by
    simp only [ownH, List.nodup_append] at hc
    have hstep : (ownH (h.set t c) (m.set t d)).Nodup := by
      cases e1 : h[t]? with
      | none =>
        rw [List.set_eq_of_length_le (by simpa using e1)]
        have key : ∀ (h : List Ch) (m : List Bind) (t : Nat), h.length ≤ t → ownH h (m.set t d) = ownH h m := by
          intro h
          induction h with
          | nil => intro m t _; rfl
          | cons a l ih =>
            intro m t ht
            cases m with
            | nil => simp
            | cons x m =>
              cases t with
              | zero => simp at ht
              | succ t => simp only [List.set_cons_succ, ownH, ih m t (by simpa using ht)]
        rw [key h m t (by simpa using e1)]
        exact hn
      | some c0 =>
        cases e2 : m[t]? with
        | none =>
          have hm : m.set t d = m := List.set_eq_of_length_le (by simpa using e2)
          rw [hm]
          have key : ∀ (m : List Bind) (h : List Ch) (t : Nat), m.length ≤ t → ownH (h.set t c) m = ownH h m := by
            intro m
            induction m with
            | nil => intro h t _; cases h <;> cases t <;> rfl
            | cons a l ih =>
              intro h t ht
              cases h with
              | nil => simp
              | cons x h =>
                cases t with
                | zero => simp at ht
                | succ t => simp only [List.set_cons_succ, ownH, ih h t (by simpa using ht)]
          rw [key m h t (by simpa using e2)]
          exact hn
        | some B0 => exact own_swap_nodup hc.1 hn e1 e2 fun b hb hx => absurd hx (hd b (by simp [ownH, hb]))
    rw [setHL, setML]
    refine own_puts_nodup ts (by simpa using hl) hc.2.1 hstep fun b hb hx => ?_
    rcases own_put b hx with h1 | h1
    · exact hc.2.2 b h1 b hb rfl
    · exact hd b (by simp [ownH, hb]) h1
  | _ :: _, [], _ :: _, _, _, hl, _, _, _ => by simp at hl
  | _ :: _, _ :: _, [], _, _, hl, _, _, _ => by simp at hl
theorem HRel.split : ∀ {l l' : List Ch} {m : List Bind}, HRel R w μ (l ++ l') m → HRel R w μ l (m.take l.length) ∧ HRel R w μ l' (m.drop l.length)
  | [], _, _, h => ⟨trivial, h⟩
  | _ :: _, _, [], h => h.elim
  | c :: l, l', b :: m, h => by
    obtain ⟨h1, h2⟩ := HRel.split (l := l) h.2
    exact ⟨⟨h.1, h1⟩, h2⟩
theorem ownH_split : ∀ (l l' : List Ch) (m : List Bind), ownH (l ++ l') m = ownH l (m.take l.length) ++ ownH l' (m.drop l.length)
  | [], _, _ => by simp [ownH]
  | _ :: l, l', [] => by cases l' <;> simp [ownH]
  | c :: l, l', b :: m => by simp [ownH, ownH_split l l' m]
theorem fitHs_lt {σ : List Nat} : ∀ {gh : List Ch} {ts : List Nat}, fitHs σ h gh ts → ∀ t ∈ ts, t < h.length
  | [], ts, hf, t, ht => by cases ts <;> simp only [fitHs] at hf; simp at ht
  | g :: gs, ts, hf, t, ht => by
    cases ts with
    | nil => simp [fitHs] at hf
    | cons t' ts =>
      simp only [fitHs] at hf
      rcases List.mem_cons.1 ht with rfl | ht
      · exact hf.1
      · exact fitHs_lt hf.2.2 t ht

/-- how the callee's tags become the caller's -/
def rhoC (σ : List Nat) (n : Nat) (j : Nat) : Nat := if j < σ.length then σ.getD j 0 else n + (j - σ.length)
/-- the end of a walk on a part of the memory: the objects handed over, then what is new -/
def EndF (n : Nat) (ret : AV) (hp : List Ch) (v : AV) (h' : List Ch) : Prop := ∃ τ : List Nat, τ.take n = List.range n ∧ Fit τ [ret] hp [v] h'

theorem Does.frame {g : FuncId} {la : List AV} {lh : List Ch} {ret : AV} {obj cs : List Ch} {σ : List Nat} {as : List AV} {K : KT}
    (hb : DoesK P σ.length g la lh (EndF σ.length ret (obj ++ cs))) (ho : obj.length = σ.length)
    (hbr : brL σ h la as) (hfh : fitHs σ h lh σ) (hσ : σ.Nodup) (hrf : brTL la as = [] ∨ (rfA ret && rfCs obj && rfCs cs) = true)
    (HK : K (renA (rhoC σ h.length) ret) (setHL (goneH h σ) σ (renCs (rhoC σ h.length) obj) ++ renCs (rhoC σ h.length) cs)) : Does P g as h K := by
  refine ⟨hb.here, fun R μ w vs hv H => ?_⟩
  obtain ⟨f1, f2, f3⟩ := fitH_ok H hfh hσ
  have hlen := H.rel.len
  have hσlt : ∀ t ∈ σ, t < μ.length := fun t ht => by rw [← hlen]; exact fitHs_lt hfh t ht
  generalize hBs : lentB μ (brTL la as) = Bs at *
  have hBown : ∀ b ∈ Bs, ∃ t, t ∉ σ ∧ ∃ c B, h[t]? = some c ∧ μ[t]? = some B ∧ b ∈ ownC c B := fun b hb => by
    rw [← hBs] at hb
    obtain ⟨t, _, h1, h2⟩ := lent_own H (brTL_rows hbr) hb
    exact ⟨t, h1, h2⟩
  have hBin : ∀ b ∈ Bs, b ∈ ownH h μ := fun b hb => by
    obtain ⟨t, _, c, B, e1, e2, e3⟩ := hBown b hb
    exact own_mem e1 e2 b e3
  have hlsub : ∀ b ∈ ownH lh (pickB σ μ), b ∈ ownH h μ ∧ b ∉ Bs := fun b hb => by
    obtain ⟨t, ht, c, B, e1, e2, e3⟩ := f3 b hb
    refine ⟨own_mem e1 e2 b e3, fun hx => ?_⟩
    obtain ⟨t', ht', c', B', e1', e2', e3'⟩ := hBown b hx
    exact own_apart H.nodup (fun (e : t = t') => ht' (e ▸ ht)) e1 e2 e1' e2' b e3 e3'
  obtain ⟨H1, hle⟩ := enter H hBin f1 f2 hlsub
  have hv1 := brL_ok H hle hbr (fun t ht b cap hm => by
    unfold lend
    rw [if_pos (by rw [← hBs]; exact lentB_mem ht hm)]) hv
  refine (hb.run _ _ w vs hv1 H1 (by simp [pickB])).mono fun e w' hr => ?_
  obtain ⟨v, R', μ', h', av, rfl, ⟨τ, hτ, hfit⟩, hrv, H2, kp, st⟩ := hr
  obtain ⟨H3, hr3, st3⟩ := hfit.ok H2 (.cons hrv .nil)
  have kp3 := kp.trans (Keeps.pick hτ)
  have st4 := st.trans st3
  generalize pickB τ μ' = μf at *
  have hrv3 : Rel R' μf ret v := by cases hr3 with | cons h _ => exact h
  obtain ⟨l1, l2, l3⟩ := leave H hBin st4
  -- nothing of what is lent stays in the results
  have hboth : Rel (unlend Bs R') μf ret v ∧ HRel (unlend Bs R') w' μf obj (μf.take obj.length) ∧ HRel (unlend Bs R') w' μf cs (μf.drop obj.length) := by
    obtain ⟨s1, s2⟩ := H3.rel.split
    rcases hrf with hrf | hrf
    · rw [hrf] at hBs
      simp only [lentB] at hBs
      subst hBs
      rw [unlend_nil]
      exact ⟨hrv3, s1, s2⟩
    · simp only [Bool.and_eq_true] at hrf
      exact ⟨hrv3.rf hrf.1.1, HRel.rf hrf.1.2 s1, HRel.rf hrf.2 s2⟩
  obtain ⟨b1, b2, b3⟩ := hboth
  have hnd := H3.nodup
  have hown3 := H3.own
  rw [ownH_split] at hnd hown3 st4
  rw [ho] at b2 b3 hnd hown3 st4
  have hfl : μf.length = σ.length + cs.length := by rw [← H3.rel.len, List.length_append, ho]
  have hma : (μf.take σ.length).length = σ.length := by simp; omega
  generalize hmA : μf.take σ.length = ma at *
  generalize hmB : μf.drop σ.length = mb at *
  rw [List.nodup_append] at hnd
  -- the caller's tags
  have hext0 : Ext μ (setML μ σ ma) := setML_ext σ ma μ hσ fun i t B hi hB => by
    have hlt : i < σ.length := (List.getElem?_eq_some_iff.1 hi).1
    obtain ⟨B', h1, h2⟩ := kp3.get hlt (pickB_get hi hB)
    exact ⟨B', by rw [← hmA, List.getElem?_take, if_pos hlt]; exact h1, h2⟩
  have hext : Ext μ (setML μ σ ma ++ mb) := hext0.trans (Ext.app _ _)
  have hren : ∀ (j : Nat) (B : Bind), μf[j]? = some B → (setML μ σ ma ++ mb)[rhoC σ h.length j]? = some B := by
    intro j B hj
    unfold rhoC
    split
    · rename_i hlt
      have hjt : σ[j]? = some (σ.getD j 0) := by simp [List.getD_eq_getElem?_getD, hlt]
      have htl := hσlt _ (List.mem_of_getElem? hjt)
      rw [List.getElem?_append_left (by rw [setML_len]; exact htl), setML_at σ ma μ j _ hσ hjt htl hma, ← hmA, List.getElem?_take, if_pos hlt]
      exact hj
    · rename_i hge
      rw [List.getElem?_append_right (by rw [setML_len]; omega), setML_len, hlen, ← hmB, List.getElem?_drop]
      rw [← hj]
      congr 1
      omega
  -- the memory that was not handed over
  obtain ⟨G1, G2, G3⟩ := H.goneH σ
  have hgo : ∀ b ∈ ownH (goneH h σ) μ, b ∉ ownH lh (pickB σ μ) := fun b hb hx => by
    obtain ⟨t, ht, c, B, e1, e2, e3⟩ := f3 b hx
    exact G3 t ht c B e1 e2 b e3 hb
  have hgrel : HRel (unlend Bs R') w' (setML μ σ ma ++ mb) (goneH h σ) μ :=
    HRel.keep l1 hext _ _ G1.rel fun n hn => st4.out n (G1.own n hn).1 (hgo n hn)
  have hrel : HRel (unlend Bs R') w' (setML μ σ ma ++ mb) (setHL (goneH h σ) σ (renCs (rhoC σ h.length) obj) ++ renCs (rhoC σ h.length) cs) (setML μ σ ma ++ mb) :=
    HRel.app (HRel.puts σ (b2.ren hren) hgrel) (b3.ren hren)
  have hcl : (renCs (rhoC σ h.length) obj).length = ma.length := by
    have key : ∀ l : List Ch, (renCs (rhoC σ h.length) l).length = l.length := by
      intro l
      induction l with
      | nil => rfl
      | cons c l ih => simp [renCs, ih]
    rw [key, ho, hma]
  have hownc : ownH (setHL (goneH h σ) σ (renCs (rhoC σ h.length) obj) ++ renCs (rhoC σ h.length) cs) (setML μ σ ma ++ mb) = ownH (setHL (goneH h σ) σ (renCs (rhoC σ h.length) obj)) (setML μ σ ma) ++ ownH cs mb := by
    rw [ownH_app _ _ _ _ (by rw [setHL_len, setML_len, goneH_len, hlen]), renCs_own]
  -- what is new or was handed over is not among the rest
  have hfar : ∀ b, b ∈ ownH obj ma ∨ b ∈ ownH cs mb → b ∉ ownH (goneH h σ) μ := fun b hb hx => by
    have hb' : b ∈ ownH obj ma ++ ownH cs mb := List.mem_append.2 hb
    rcases st4.own b hb' with h1 | h1
    · exact hgo b hx h1
    · have := (G1.own b hx).1
      omega
  have hset : ∀ b ∈ ownH (setHL (goneH h σ) σ (renCs (rhoC σ h.length) obj)) (setML μ σ ma), b ∈ ownH obj ma ∨ b ∈ ownH (goneH h σ) μ := fun b hb => by
    have := own_puts σ hcl b hb
    rwa [renCs_own] at this
  have hnone : ∀ b, (R b = none ∧ b < w.heap.size ∧ b ∉ ownH lh (pickB σ μ)) ∨ R' b = none → unlend Bs R' b = none := fun b hb => by
    cases hu : unlend Bs R' b with
    | none => rfl
    | some o =>
      rcases hb with ⟨hb1, hb2, hb3⟩ | hb
      · rcases l3 b o hu with h1 | h1 | h1
        · rw [hb1] at h1; cases h1
        · exact absurd h1 hb3
        · omega
      · have := l2 b o hu
        rw [hb] at this
        cases this
  refine ⟨v, unlend Bs R', setML μ σ ma ++ mb, _, _, rfl, HK, b1.ren hren, ⟨hrel, ?_, fun b hb => ?_, fun b o hb => H3.ro b o (l2 b o hb)⟩, hext, ?_⟩
  · rw [hownc, List.nodup_append]
    refine ⟨own_puts_nodup σ hcl (by rw [renCs_own]; exact hnd.1) G1.nodup (fun b hb => by rw [renCs_own] at hb; exact hfar b (.inl hb)), hnd.2.1, fun b hb b' hb' e => ?_⟩
    subst e
    rcases hset b hb with h1 | h1
    · exact hnd.2.2 b h1 b hb' rfl
    · exact hfar b (.inr hb') h1
  · rw [hownc, List.mem_append] at hb
    have cases3 : (b ∈ ownH obj ma ++ ownH cs mb) ∨ b ∈ ownH (goneH h σ) μ := by
      rcases hb with hb | hb
      · rcases hset b hb with h1 | h1
        · exact .inl (List.mem_append.2 (.inl h1))
        · exact .inr h1
      · exact .inl (List.mem_append.2 (.inr hb))
    rcases cases3 with h1 | h1
    · exact ⟨(hown3 b h1).1, hnone b (.inr (hown3 b h1).2)⟩
    · exact ⟨Nat.lt_of_lt_of_le (G1.own b h1).1 st4.size, hnone b (.inl ⟨(G1.own b h1).2, (G1.own b h1).1, hgo b h1⟩)⟩
  · refine ⟨l1, st4.size, fun b hb hx => st4.out b hb fun hy => hx (hlsub b hy).1, fun b hb => ?_, fun b o hb => ?_, st4.os, st4.tape, st4.output, st4.drawn⟩
    · rw [hownc, List.mem_append] at hb
      have cases3 : (b ∈ ownH obj ma ++ ownH cs mb) ∨ b ∈ ownH (goneH h σ) μ := by
        rcases hb with hb | hb
        · rcases hset b hb with h1 | h1
          · exact .inl (List.mem_append.2 (.inl h1))
          · exact .inr h1
        · exact .inl (List.mem_append.2 (.inr hb))
      rcases cases3 with h1 | h1
      · rcases st4.own b h1 with h2 | h2
        · exact .inl (hlsub b h2).1
        · exact .inr h2
      · exact .inl (G2 b h1)
    · rcases l3 b o hb with h1 | h1 | h1
      · exact .inl h1
      · exact .inr (.inl (hlsub b h1).1)
      · exact .inr (.inr h1)

/-! ### Results are frozen -/
def frzLX : List AV → List Ch → (List AV → List Ch → Prop) → Prop
  | [], h, K => K [] h
  | x :: l, h, K => frzX x h fun x h => frzLX l h fun l h => K (x :: l) h
def frzV (x : AV) (h : List Ch) (K : AV → List Ch → Prop) : Prop :=
  match x with
  | .tup l => frzLX l h fun l h => K (.tup l) h
  | x => frzX x h K
theorem DoesK.close {k : Nat} {g : FuncId} {as : List AV} {K : KT} (H : DoesK P k g as h fun v h' => ∃ v' h2, Gh [v] h' [v'] h2 ∧ K v' h2) : DoesK P k g as h K :=
  ⟨H.here, fun R μ w vs hv H0 hk => (H.run R μ w vs hv H0 hk).mono fun e w' hr => by
    obtain ⟨v, R', μ', h', av, rfl, ⟨v', h2', hcl, h1⟩, h2, h3, h4, h5⟩ := hr
    obtain ⟨Rc, μc, Hc, stc, ec, fc⟩ := hcl R' μ' w' [v] h3 (.cons h2 .nil)
    have hv' : Rel Rc μc v' v := by cases fc [v] (.cons h2 .nil) with | cons h _ => exact h
    exact ⟨v, Rc, μc, h2', v', rfl, h1, hv', Hc, h4.trans (Keeps.ext h4.len ec), h5.trans stc⟩⟩
theorem Does.after {g : FuncId} {as : List AV} {K : KT} (H : Does P g as h fun v h' => ∃ v' h2, Gh [v] h' [v'] h2 ∧ K v' h2) : Does P g as h K :=
  ⟨H.here, fun R μ w vs hv H0 => (H.run R μ w vs hv H0).mono fun e w' hr => by
    obtain ⟨v, R', μ', h', av, rfl, ⟨v', h2', hcl, h1⟩, h2, h3, h4, h5⟩ := hr
    obtain ⟨Rc, μc, Hc, stc, ec, fc⟩ := hcl R' μ' w' [v] h3 (.cons h2 .nil)
    have hv' : Rel Rc μc v' v := by cases fc [v] (.cons h2 .nil) with | cons h _ => exact h
    exact ⟨v, Rc, μc, h2', v', rfl, h1, hv', Hc, h4.trans ec, h5.trans stc⟩⟩
end Go.V

namespace Go.V
theorem mmgo_def (mx : Bool) (k : IntKind) (x : Int) (l : List AV) (K : AV → Prop) : mmK.go mx k x l K = match l with
  | [] => K (.int k x)
  | a :: r => (match a with | .int _ y => mmK.go mx k (if mx then max x y else min x y) r K | _ => False) := by
  cases l with
  | nil => rfl
  | cons a l => cases a <;> rfl
theorem mm_def (mx : Bool) (l : List AV) (K : AV → Prop) : mmK mx l K = match l with
  | [] => False
  | a :: r => (match a with | .int k x => mmK.go mx k x r K | _ => False) := by
  cases l with
  | nil => rfl
  | cons a l => cases a <;> rfl
theorem frzP_def (l : List (Nat × AV)) (h : List Ch) (K : List (Nat × AV) → List Ch → Prop) : frzP l h K = match l with
  | [] => K [] h
  | p :: l => frzX p.2 h fun x h => frzP l h fun l h => K ((p.1, x) :: l) h := by cases l <;> rfl
theorem frzL_def (l : List AV) (h : List Ch) (K : List AV → List Ch → Prop) : frzL l h K = match l with
  | [] => K [] h
  | a :: l => frz1 a h fun a h => frzL l h fun l h => K (a :: l) h := by cases l <;> rfl
theorem frzLX_def (l : List AV) (h : List Ch) (K : List AV → List Ch → Prop) : frzLX l h K = match l with
  | [] => K [] h
  | x :: l => frzX x h fun x h => frzLX l h fun l h => K (x :: l) h := by cases l <;> rfl
theorem elemsK_def (e : Ety) (l : List (Nat × AV)) (j : Nat) (K : List e.T → Prop) : elemsK e l j K = match l with
  | [] => K []
  | p :: r => (match e.dec (cellsA p.2) with
    | some y => (p.1 = j ∧ okCells (cellsA p.2) ∧ tfs (cellsA p.2) ∧ e.decOk (cellsA p.2)) ∧ elemsK e r (j + 1) fun ys => K (y :: ys)
    | none => False) := by cases l <;> rfl
theorem fillK_def (place : Nat → Option (Nat × Nat)) (zs : List AV) (l : List (Nat × AV)) (K : List AV → Prop) : fillK place zs l K = match l with
  | [] => K zs
  | p :: r => (match place p.1 with
    | some q => ((cellsA p.2).length = q.2 ∧ q.1 + q.2 ≤ zs.length) ∧ okCells (cellsA p.2) ∧ fillK place (setA zs q.1 (cellsA p.2)) r K
    | none => False) := by
  cases l with
  | nil => rfl
  | cons p r =>
    simp only [fillK]
    cases place p.1 <;> rfl
theorem resK_def (P : Program) (l : List ResultVar) (tm : List AV) (h : List Ch) (K : List AV → Prop) : resK P l tm h K = match l with
  | [] => K []
  | r :: l => (match r with
    | .tmp t => resK P l tm h fun l => K (nthA tm t :: l)
    | .cell a t => loadK P t (nthA tm a) h fun v => resK P l tm h fun l => K (v :: l)) := by
  cases l with
  | nil => rfl
  | cons r l => cases r <;> rfl

/-- a claim that the evaluation does not look into -/
class Hold where
  val : Prop
def hideB (b : Bool) [A : Hold] [B : Hold] : Prop := splitB b A.val B.val
theorem hideB_true (A B : Hold) : @hideB true A B = A.val := splitB_true _ _
theorem hideB_false (A B : Hold) : @hideB false A B = B.val := splitB_false _ _
theorem hideB_i {b : Bool} {A B : Hold} (h1 : b = true → A.val) (h2 : b = false → B.val) : @hideB b A B := ⟨h1, h2⟩
theorem pickK_def (c a b : AV) (K : AV → Prop) : pickK c a b K = match c with
  | .bool c => @hideB c ⟨K a⟩ ⟨K b⟩
  | _ => False := by unfold pickK hideB; cases c <;> rfl
theorem w_res {P : Program} {tm : List AV} {h : List Ch} {rs : List ResultVar} {K : List AV → Prop} (H : resK P rs tm h K) : resK P rs tm h K := H

/-! ### Arguments that are lent -/
section
variable {σ : List Nat} {h : List Ch}
theorem br_cons {g a : AV} {gs as : List AV} (h1 : brA σ h g a) (h2 : brL σ h gs as) : brL σ h (g :: gs) (a :: as) := by
  simp only [brL]
  exact ⟨h1, h2⟩
theorem br_nil : brL σ h [] [] := trivial
theorem br_int {k : IntKind} {n : Int} : brA σ h (.int k n) (.int k n) := by simp only [brA, fitA, and_self]
theorem br_bool {b : Bool} : brA σ h (.bool b) (.bool b) := rfl
theorem br_str {s : List UInt8} : brA σ h (.str s) (.str s) := rfl
theorem br_any {a : AV} : brA σ h .any a := trivial
theorem br_lit {v : Value} : brA σ h (.lit v) (.lit v) := rfl
theorem br_agg {l l' : List AV} (h1 : brL σ h l l') : brA σ h (.agg l) (.agg l') := h1
theorem br_ro {e : Ety} {xs : List e.T} : brA σ h (.ro e xs) (.ro e xs) := by
  simp only [brA, fitA, asE_self]
theorem br_ro0 {e : Ety} : brA σ h (.ro e []) (.lit (.slice none 0 0)) := rfl
theorem br_rp {e : Ety} {xs : List e.T} {i off : Nat} : brA σ h (.rp e xs i off) (.rp e xs i off) := by
  simp only [brA, fitA, asE_self, and_self]
theorem br_sl {e : Ety} {ys : List e.T} {t s n : Nat} (hh : hth h t = .rows e ys) (hl : s + n ≤ ys.length) (hn : t ∉ σ) : brA σ h (.ro e ((ys.drop s).take n)) (.sl t e s n) := by
  simp only [brA, hh, asE_self, hl, hn, not_false_eq_true, and_self]
theorem br_full {e : Ety} {ys : List e.T} {t n : Nat} (hh : hth h t = .rows e ys) (hl : n = ys.length) (hn : t ∉ σ) : brA σ h (.ro e ys) (.sl t e 0 n) := by
  subst hl
  have := br_sl (s := 0) (n := ys.length) hh (by simp) hn
  simpa using this
theorem br_ptr {t t' off : Nat} (hs : σ[t]? = some t') : brA σ h (.ptr t off) (.ptr t' off) := by simp only [brA, fitA, hs, and_self]
end
/-- nothing is lent -/
def isRO (e : Ety) (xs : List e.T) (a : AV) : Prop := a = .ro e xs ∨ (a = .lit (.slice none 0 0) ∧ xs = [])
theorem isRO_ro {e : Ety} {xs : List e.T} : isRO e xs (.ro e xs) := .inl rfl
theorem isRO_nil {e : Ety} : isRO e [] (.lit (.slice none 0 0)) := .inr ⟨rfl, rfl⟩
theorem isRO.br {σ : List Nat} {h : List Ch} {e : Ety} {xs : List e.T} {a : AV} (H : isRO e xs a) : brA σ h (.ro e xs) a := by
  rcases H with rfl | ⟨rfl, rfl⟩
  · exact br_ro
  · exact br_ro0
theorem isRO.brT {e : Ety} {xs : List e.T} {a : AV} (H : isRO e xs a) : V.brT (.ro e xs) a = [] := by
  rcases H with rfl | ⟨rfl, rfl⟩ <;> rfl

/-! ### Frames of common shapes -/
section
variable {P : Program} {g : FuncId} {h : List Ch}
/-- nothing is handed over, nothing is new -/
theorem frame_pure {la as : List AV} {ret : AV} {K : KT} (hb : DoesK P 0 g la [] (EndF 0 ret [])) (hbr : brL [] h la as) (hrf : brTL la as = [] ∨ (rfA ret && true && true) = true) (hret : ∀ ρ, renA ρ ret = ret) (HK : K ret h) : Does P g as h K :=
  Does.frame (σ := []) (la := la) (lh := []) (ret := ret) (obj := []) (cs := []) hb rfl hbr trivial .nil hrf (by
    show K (renA _ ret) (h ++ [])
    rw [hret, List.append_nil]
    exact HK)
/-- one new chunk, the result shows it -/
theorem frame_new {la as : List AV} {ret ret' : AV} {c : Ch} {K : KT} (hb : DoesK P 0 g la [] (EndF 0 ret [c])) (hbr : brL [] h la as) (hrf : brTL la as = [] ∨ (rfA ret && true && (rfC c && true)) = true) (hc : ∀ ρ, renC ρ c = c) (hret : renA (rhoC [] h.length) ret = ret') (HK : K ret' (h ++ [c])) : Does P g as h K :=
  Does.frame (σ := []) (la := la) (lh := []) (ret := ret) (obj := []) (cs := [c]) hb rfl hbr trivial .nil hrf (by
    show K (renA _ ret) (h ++ [renC _ c])
    rw [hret, hc]
    exact HK)
/-- one object is handed over -/
theorem frame_obj {t : Nat} {la as : List AV} {ret ret' : AV} {c c' : Ch} {cs : List Ch} {K : KT} (hb : DoesK P 1 g la [c] (EndF 1 ret ([c'] ++ cs))) (ht : hth h t = c) (hg : c ≠ .gone) (hcc : ∀ σ, fitC σ c c) (hbr : brL [t] h la as) (hrf : brTL la as = [] ∨ (rfA ret && (rfC c' && true) && rfCs cs) = true)
    (hc : ∀ ρ, renC ρ c' = c') (hcs : ∀ ρ, renCs ρ cs = cs) (hret : renA (rhoC [t] h.length) ret = ret') (HK : K ret' (h.set t c' ++ cs)) : Does P g as h K :=
  Does.frame (σ := [t]) (la := la) (lh := [c]) (ret := ret) (obj := [c']) (cs := cs) hb rfl hbr ⟨hth_lt (by rw [ht]; exact hg), by rw [ht]; exact hcc _, trivial⟩ (by simp) hrf (by
    show K (renA _ ret) ((h.set t .gone).set t (renC _ c') ++ renCs _ cs)
    rw [List.set_set, hret, hc, hcs]
    exact HK)
/-- one object is handed over, nothing is new -/
theorem frame_obj0 {t : Nat} {la as : List AV} {ret ret' : AV} {c c' : Ch} {K : KT} (hb : DoesK P 1 g la [c] (EndF 1 ret ([c'] ++ []))) (ht : hth h t = c) (hg : c ≠ .gone) (hcc : ∀ σ, fitC σ c c) (hbr : brL [t] h la as) (hrf : brTL la as = [] ∨ (rfA ret && (rfC c' && true) && true) = true)
    (hc : ∀ ρ, renC ρ c' = c') (hret : renA (rhoC [t] h.length) ret = ret') (HK : K ret' (h.set t c')) : Does P g as h K :=
  frame_obj hb ht hg hcc hbr hrf hc (fun _ => rfl) hret (by rw [List.append_nil]; exact HK)
theorem set_hth {h : List Ch} {t : Nat} {c : Ch} (ht : hth h t = c) (hg : c ≠ .gone) : h.set t c = h := by
  have := hth_get ht hg
  obtain ⟨hlt, he⟩ := List.getElem?_eq_some_iff.1 this
  rw [← he]
  exact List.set_getElem_self hlt
/-- one object is handed over and looked at -/
theorem frame_look {t : Nat} {la as : List AV} {ret ret' : AV} {c : Ch} {K : KT} (hb : DoesK P 1 g la [c] (EndF 1 ret ([c] ++ []))) (ht : hth h t = c) (hg : c ≠ .gone) (hcc : ∀ σ, fitC σ c c) (hbr : brL [t] h la as) (hrf : brTL la as = [] ∨ (rfA ret && (rfC c && true) && true) = true)
    (hc : ∀ ρ, renC ρ c = c) (hret : renA (rhoC [t] h.length) ret = ret') (HK : K ret' h) : Does P g as h K :=
  frame_obj hb ht hg hcc hbr hrf hc (fun _ => rfl) hret (by rw [set_hth ht hg, List.append_nil]; exact HK)
theorem fitC_pack (l : List Ch) (σ : List Nat) : fitC σ (.pack l) (.pack l) := rfl
theorem fitC_rows (e : Ety) (xs : List e.T) (σ : List Nat) : fitC σ (.rows e xs) (.rows e xs) := by
  simp only [fitC, asE_self]
end

theorem and_k {A B : Prop} (h2 : B) (h1 : A) : A ∧ B := ⟨h1, h2⟩

/-- an object of one chunk is closed ahead of a call -/
theorem does_close1 {P : Program} {g : FuncId} {h : List Ch} {t : Nat} {vs as : List AV} {K : KT} (hc : hth h t = .cells vs) (hf : fitL [t] vs vs) (H : Does P g (.ptr t 0 :: as) (h.set t (.pack [.cells vs])) K) : Does P g (.ptr t 0 :: as) h K :=
  Does.ghost (gh_close (t := t) (ts := []) (l := [.cells vs]) ⟨⟨_, _, rfl⟩, ⟨hth_lt (by rw [hc]; simp), by rw [hc]; exact hf, trivial⟩, by simp⟩) H

/-! ### Memory -/
/-- the object is opened -/
theorem w_open {P : Program} {k : Nat} {c : Code} {tm : List AV} {h h' : List Ch} {q : Post} {vs : List AV} {rest : List Ch} (t : Nat) (hc : hth h t = .pack (.cells vs :: rest)) (he : openH h t vs rest = h') (H : Wp P k c tm h' q) : Wp P k c tm h q :=
  Wp.ghost (gh_open hc) (he ▸ H)

/-! ### Drawn regions -/
section
variable [ETab] {P : Program} {all : List Oper} {Fin : List AV → List Ch → Prop} {r : List Oper} {i : Nat} {tm : List AV} {h : List Ch} {ps : List Rec} {hs : List (Nat × List Ch)}
theorem d_nil (H : Fin tm h) : DW P all Fin [] i tm h ps hs := .nil H
theorem d_pure {d : Option Nat} {op : Op} {ty : TypeId} {pos : String} {af : Array Edge} (v : AV) (hf : ∀ K : KT, K v h → opK P op tm h K) (hh : ∀ p ∈ hs, reachB all i p.1 = false → Fact P op tm p.2 v p.2)
    (H : ∀ tm', tm' = putA tm d v → DW P all Fin r (i + 1) tm' h (⟨i, op, tm, v⟩ :: ps) hs) : DW P all Fin (⟨d, op, ty, pos, af, none⟩ :: r) i tm h ps hs :=
  .pure v (.inl rfl) hf hh (H _ rfl)
theorem d_heap {d : Option Nat} {op : Op} {ty : TypeId} {pos : String} {af : Array Edge} (v : AV) (h' : List Ch) (hf : ∀ K : KT, K v h' → opK P op tm h K) (hh : ∀ p ∈ hs, reachB all i p.1 = true) (hp : ∀ p ∈ ps, reachB all i p.i = false → Fact P p.o p.tm h' p.v h')
    (H : ∀ tm', tm' = putA tm d v → DW P all Fin r (i + 1) tm' h' ps ((i, h) :: hs)) : DW P all Fin (⟨d, op, ty, pos, af, none⟩ :: r) i tm h ps hs :=
  .heap v h' (.inl rfl) hf hh hp (H _ rfl)
theorem d_run_pure {d : Option Nat} {op : Op} {ty : TypeId} {pos : String} {af : Array Edge} {j t : Nat} {w : Bool} (hd : dstAt all j = some t) (hb : nthA tm t = .bool w) (v : AV) (hf : ∀ K : KT, K v h → opK P op tm h K) (hh : ∀ p ∈ hs, reachB all i p.1 = false → Fact P op tm p.2 v p.2)
    (H : ∀ tm', tm' = putA tm d v → DW P all Fin r (i + 1) tm' h (⟨i, op, tm, v⟩ :: ps) hs) : DW P all Fin (⟨d, op, ty, pos, af, some (j, w)⟩ :: r) i tm h ps hs :=
  .pure v (.inr ⟨j, w, t, rfl, hd, hb⟩) hf hh (H _ rfl)
theorem d_run_heap {d : Option Nat} {op : Op} {ty : TypeId} {pos : String} {af : Array Edge} {j t : Nat} {w : Bool} (hd : dstAt all j = some t) (hb : nthA tm t = .bool w) (v : AV) (h' : List Ch) (hf : ∀ K : KT, K v h' → opK P op tm h K) (hh : ∀ p ∈ hs, reachB all i p.1 = true) (hp : ∀ p ∈ ps, reachB all i p.i = false → Fact P p.o p.tm h' p.v h')
    (H : ∀ tm', tm' = putA tm d v → DW P all Fin r (i + 1) tm' h' ps ((i, h) :: hs)) : DW P all Fin (⟨d, op, ty, pos, af, some (j, w)⟩ :: r) i tm h ps hs :=
  .heap v h' (.inr ⟨j, w, t, rfl, hd, hb⟩) hf hh hp (H _ rfl)
theorem d_pass {d : Option Nat} {op : Op} {ty : TypeId} {pos : String} {af : Array Edge} {j t : Nat} {w : Bool} (hd : dstAt all j = some t) (hb : nthA tm t = .bool (!w)) (H : ∀ tm', tm' = putA tm d (.lit undef) → DW P all Fin r (i + 1) tm' h ps hs) : DW P all Fin (⟨d, op, ty, pos, af, some (j, w)⟩ :: r) i tm h ps hs :=
  .skip j t w rfl hd (.inl hb) (H _ rfl)
theorem d_passu {d : Option Nat} {op : Op} {ty : TypeId} {pos : String} {af : Array Edge} {j t : Nat} {w : Bool} (hd : dstAt all j = some t) (hb : nthA tm t = .lit undef) (H : ∀ tm', tm' = putA tm d (.lit undef) → DW P all Fin r (i + 1) tm' h ps hs) : DW P all Fin (⟨d, op, ty, pos, af, some (j, w)⟩ :: r) i tm h ps hs :=
  .skip j t w rfl hd (.inr hb) (H _ rfl)
/-- a boolean that is not known is looked at -/
theorem d_split {j t : Nat} {w b : Bool} {o : Oper} (_hg : o.guard = some (j, w)) (_hd : dstAt all j = some t) (_hb : nthA tm t = .bool b)
    (H1 : b = true → DW P all Fin (o :: r) i tm h ps hs) (H2 : b = false → DW P all Fin (o :: r) i tm h ps hs) : DW P all Fin (o :: r) i tm h ps hs := by
  cases b
  · exact H2 rfl
  · exact H1 rfl
omit [ETab] in
theorem all_nil {α : Type} {p : α → Prop} : ∀ x ∈ ([] : List α), p x := fun x hx => by cases hx
omit [ETab] in
theorem all_cons' {α : Type} {p : α → Prop} {a : α} {l : List α} (h2 : ∀ x ∈ l, p x) (h1 : p a) : ∀ x ∈ a :: l, p x := fun x hx => by
  rcases List.mem_cons.1 hx with rfl | hx
  · exact h1
  · exact h2 x hx
omit [ETab] in
theorem all_cons {α : Type} {p : α → Prop} {a : α} {l : List α} (h1 : p a) (h2 : ∀ x ∈ l, p x) : ∀ x ∈ a :: l, p x := fun x hx => by
  rcases List.mem_cons.1 hx with rfl | hx
  · exact h1
  · exact h2 x hx
end
attribute [go_sem ↓] slice3K clearK appInK appRcK rangeK nextK entryK lookupK mupdK mmapK mdelK mlenK len2K mkK eqSK eqNK eqCell eqFlds opK nilIK binK ibin shK sbin eqK unK convHK convK fldAddrK idxAddrK idxK loK sliceK nilCheckK extractK pickK_def lenTK fieldK callK loadK loadCellsK storeK openK allocK boxK srcK appSrcK appK bsK bsR bsC catK appCK taK conK isSlK frzX frz1 frzV buildK mmgo_def mm_def frzP_def frzL_def frzLX_def elemsK_def fillK_def resK_def hideB_true hideB_false nthA dstAt
attribute [go_sem] sliceHK_sl sliceHK_none sliceHK_ro sliceHK_str sliceHK_lit capN_rows capN_succ capM_self isTmp slR clipA_full app2K_rc app2K_sl app2K_ro app2K_str app2K_lit app2K_nil app3K_rc app3K_sl app3K_ro app3K_str app3K_lit app3K_csl zoneT okCells repN_len asM_self allP_nil KTy.av KTy.of KTy.kd lookR decV okV valA zokV Ety.dflt Int.natCast_zero Int.natCast_one List.take_length List.length_take Nat.min_self Int.toNat_natCast Int.toNat_zero Nat.mul_one Option.isNone_none Option.isNone_some Option.getD_none Option.getD_some Option.isSome_some Option.isSome_none maxBytes evA evAs evPs optA nthA List.set_cons_zero List.set_cons_succ List.set_nil writes dsts killT liveT setH Option.bind_some Option.bind_none ofV partA allN setA cellsA okCells tfs aggT hth zlenT openH renA renL renC renCs rhoO rhoC asE_self bytesOf Ety.enc Ety.dec Ety.sz Ety.decOk okByte roA AV.cell AV.tf Value.oneCell' retA fitA fitL fitC fitHs closeH goneH setHL frA frL frC frHs frOb frObL frObC frObH isNil rfA rfL rfC rfCs Ety.flat brTL brT List.map_cons List.map_nil List.length_cons List.length_nil List.length_set List.length_append List.cons_append List.nil_append List.append_nil List.drop_succ_cons List.drop_zero List.take_succ_cons List.take_zero Nat.zero_add Nat.add_zero List.replicate_succ List.replicate_zero List.getElem?_cons_zero List.getElem?_cons_succ List.replicate List.toList_toArray Bool.false_eq_true if_true if_false and_true true_and and_self implies_true forall_const List.range_zero exists_eq_left exists_eq_left' ne_eq not_false_eq_true not_true_eq_false
/-- no loop at the head -/
def notLoop : Code → Bool
  | .block _ (.loop _) => false
  | _ => true
theorem w_seqN {P : Program} {k : Nat} {a b : Code} {tm : List AV} {h : List Ch} {q : Post} (_ : notLoop a = true) (H : ∀ K : List AV → List Ch → Prop, (∀ tm h, Wp P k b tm h q → K tm h) → Wp P k a tm h ⟨K, q.x, q.r⟩) : Wp P k (.seq a b) tm h q := w_seq H
end Go.V

namespace Go.V
section
variable {P : Program} {Q : Exit → Act → World → Prop}
structure Sim (π : Nat → Nat) (X Y : Nat) (l l' : Array Oper) : Prop where
  ne : X ≠ Y
  inv : ∀ j, π (π j) = j
  op : ∀ j o, l[j]? = some o → ∃ o', l'[π j]? = some o' ∧ o'.op = o.op ∧ o'.dst = o.dst ∧ o'.type = o.type ∧ o'.pos = o.pos ∧ o'.guard = o.guard.map (fun x => (π x.1, x.2))
  no : ∀ j, l[j]? = none → l'[π j]? = none
  e1 : ∀ j o o', l[j]? = some o → l'[π j]? = some o' → ∀ e' ∈ o'.after, Region.binds .any e' = true → (∃ e ∈ o.after, Region.binds .any e = true ∧ e'.on = π e.on) ∨ (j = X ∧ e'.on = π Y)
  e2 : ∀ j o o', l[j]? = some o → l'[π j]? = some o' → ∀ e ∈ o.after, Region.binds .any e = true → ∃ e' ∈ o'.after, Region.binds .any e' = true ∧ e'.on = π e.on
theorem upon_same {o o' : Oper} (h1 : o'.op = o.op) (h2 : o'.dst = o.dst) (h3 : o'.type = o.type) (h4 : o'.pos = o.pos) {a : Act} {w : World} {K : Act → World → Prop} :
    (o'.wp P a w K Q → o.wp P a w K Q) ∧ (o'.asks P a w → o.asks P a w) := by
  obtain ⟨d, op, ty, pos, af, g⟩ := o
  obtain ⟨d', op', ty', pos', af', g'⟩ := o'
  dsimp only at h1 h2 h3 h4
  subst h1 h2 h3 h4
  exact ⟨fun h => h, fun h => h⟩
theorem wanted_sim {π : Nat → Nat} {X Y : Nat} {l l' : Array Oper} (S : Sim π X Y l l') {o o' : Oper} (hg : o'.guard = o.guard.map (fun x => (π x.1, x.2))) (tmps : Array Value) : Region.wanted o' (yielded l' tmps) = Region.wanted o (yielded l tmps) := by
  have hy : ∀ j, yielded l' tmps (π j) = yielded l tmps j := fun j => by
    unfold yielded
    cases h : l[j]? with
    | none => rw [S.no j h]
    | some o1 =>
      obtain ⟨o2, h2, _, h3, _⟩ := S.op j o1 h
      rw [h2]
      simp only [Option.bind_some, h3]
  unfold Region.wanted
  rw [hg]
  cases o.guard with
  | none => rfl
  | some x => simp only [Option.map_some, hy]
theorem wpOp_sim {π : Nat → Nat} {X Y : Nat} {l l' : Array Oper} (S : Sim π X Y l l') {i : Nat} {K : Act → World → Prop} {a : Act} {w : World} (h : wpOp P l' Q (π i) K a w) : wpOp P l Q i K a w := by
  unfold wpOp at *
  cases hi : l[i]? with
  | none =>
    rw [S.no i hi] at h
    exact h
  | some o =>
    obtain ⟨o', h1, h2, h3, h4, h5, h6⟩ := S.op i o hi
    rw [h1] at h
    simp only at h ⊢
    rw [wanted_sim S h6] at h
    split
    · rename_i hw
      rw [if_pos hw] at h
      obtain ⟨u1, u2⟩ := upon_same (P := P) (Q := Q) (a := a) (w := w) (K := K) h2 h3 h4 h5
      exact h.imp u1 fun x => ⟨u2 x.1, x.2⟩
    · rename_i hw
      rw [if_neg hw] at h
      rw [← h3]
      exact h
theorem ready_bwd {π : Nat → Nat} {X Y : Nat} {l l' : Array Oper} (S : Sim π X Y l l') {listed listed' : Array Bool} (hl : ∀ j d, listed'.getD (π j) d = listed.getD j d) {j : Nat} (h : π j ∈ Region.ready .any l' listed') : j ∈ Region.ready .any l listed := by
  obtain ⟨h1, o', ho', h2⟩ := mem_ready.1 h
  rw [hl] at h1
  cases ho : l[j]? with
  | none => rw [S.no j ho] at ho'; cases ho'
  | some o =>
    refine mem_ready.2 ⟨h1, o, ho, fun e he hb => ?_⟩
    obtain ⟨e', he', hb', hon⟩ := S.e2 j o o' ho ho' e he hb
    have := h2 e' he' hb'
    rw [hon, hl] at this
    exact this
theorem ready_fwd {π : Nat → Nat} {X Y : Nat} {l l' : Array Oper} (S : Sim π X Y l l') {listed listed' : Array Bool} (hl : ∀ j d, listed'.getD (π j) d = listed.getD j d) {j : Nat} (h : j ∈ Region.ready .any l listed) (hf : j = X → listed.getD Y false = true) : π j ∈ Region.ready .any l' listed' := by
  obtain ⟨h1, o, ho, h2⟩ := mem_ready.1 h
  obtain ⟨o', ho', _⟩ := S.op j o ho
  refine mem_ready.2 ⟨by rw [hl]; exact h1, o', ho', fun e' he' hb' => ?_⟩
  rcases S.e1 j o o' ho ho' e' he' hb' with ⟨e, he, hb, hon⟩ | ⟨hX, hon⟩
  · rw [hon, hl]
    exact h2 e he hb
  · rw [hon, hl]
    exact hf hX
/-- X does not come ahead of Y -/
def okO (X Y : Nat) : List Nat → Bool
  | [] => true
  | i :: r => if i = Y then true else if i = X then false else okO X Y r
theorem okO_or {X Y : Nat} : ∀ {l : List Nat}, okO X Y l = false → okO Y X l = true
  | [], h => by simp [okO] at h
  | i :: r, h => by
    unfold okO at h ⊢
    by_cases c : i = X
    · rw [if_pos c]
    · rw [if_neg c]
      by_cases d : i = Y
      · rw [if_pos d] at h; cases h
      · rw [if_neg d, if_neg c] at h
        rw [if_neg d]
        exact okO_or h
theorem run_sim {π : Nat → Nat} {X Y : Nat} {l l' : Array Oper} (S : Sim π X Y l l') : ∀ (fuel t : Nat) (listed listed' : Array Bool) (a : Act) (w : World), (∀ j d, listed'.getD (π j) d = listed.getD j d) →
    (listed.getD Y false = true ∨ okO X Y (Region.linearise.go .any l fuel t listed []) = true) → wpAny P .any l' Q fuel listed' a w → wpOps P l Q (Region.linearise.go .any l fuel t listed []) a w := by
  intro fuel
  induction fuel with
  | zero => intro t listed listed' a w _ _ h; simpa [Region.linearise.go, wpOps] using h.2
  | succ fuel ih =>
    intro t listed listed' a w hl hf h
    obtain ⟨h₀, h₁⟩ := h
    have hgo : Region.linearise.go .any l (fuel + 1) t listed [] = (match (Region.ready .any l listed)[t % (Region.ready .any l listed).length]? with
      | some i => Region.linearise.go .any l fuel (t / (Region.ready .any l listed).length) (listed.setIfInBounds i true) [i]
      | none => [].reverse) := by
      rw [Region.linearise.go]
      rfl
    rw [hgo] at hf ⊢
    cases hi : (Region.ready .any l listed)[t % (Region.ready .any l listed).length]? with
    | none =>
      have hnil : Region.ready .any l listed = [] := by
        cases hr : Region.ready .any l listed with
        | nil => rfl
        | cons x xs =>
          rw [hr] at hi
          have hlt : t % (x :: xs).length < (x :: xs).length := Nat.mod_lt _ (by simp)
          simp at hi
          simp at hlt
          omega
      have hnil' : Region.ready .any l' listed' = [] := by
        apply List.eq_nil_iff_forall_not_mem.2
        intro j hj
        have e : π (π j) = j := S.inv j
        rw [← e] at hj
        have := ready_bwd S hl hj
        rw [hnil] at this
        cases this
      simpa [wpOps] using h₀ hnil'
    | some i =>
      rw [hi] at hf
      simp only [] at hf ⊢
      rw [linearise_go_acc, List.reverse_singleton, List.singleton_append] at hf ⊢
      rw [wpOps_cons]
      have hmem := List.mem_of_getElem? hi
      have hi1 := (mem_ready.1 hmem).1
      have hin : i < listed.size := by
        false_or_by_contra
        rename_i hc
        simp [Array.getD, hc] at hi1
      have hfl : i = X → listed.getD Y false = true := fun e => by
        rcases hf with hf | hf
        · exact hf
        · unfold okO at hf
          by_cases c : i = Y
          · rw [if_pos c] at hf
            exact absurd (e.symm.trans c) S.ne
          · rw [if_neg c, if_pos e] at hf
            cases hf
      have hmem' := ready_fwd S hl hmem hfl
      have hi2 := (mem_ready.1 hmem').1
      have hin' : π i < listed'.size := by
        false_or_by_contra
        rename_i hc
        simp [Array.getD, hc] at hi2
      refine wpOp_sim S (wpOp_mono (fun a w hk => ih _ _ _ a w ?_ ?_ hk) (h₁ (π i) hmem'))
      · intro j d
        by_cases e : j = i
        · subst e
          simp [Array.getD, hin, hin']
        · have e' : π i ≠ π j := fun q => e (by rw [← S.inv j, ← q, S.inv i])
          rw [getD_set_ne d e', getD_set_ne d (fun q => e q.symm)]
          exact hl j d
      · by_cases c : i = Y
        · left
          subst c
          simp [Array.getD, hin]
        · rcases hf with hf | hf
          · left
            rw [getD_set_ne false c]
            exact hf
          · right
            unfold okO at hf
            rw [if_neg c] at hf
            split at hf
            · cases hf
            · exact hf
/-- places p and the next are exchanged -/
def sw (p j : Nat) : Nat := if j = p then p + 1 else if j = p + 1 then p else j
theorem sw_sw (p j : Nat) : sw p (sw p j) = j := by
  unfold sw
  by_cases h1 : j = p
  · simp [h1]
  · by_cases h2 : j = p + 1
    · simp [h2]
    · simp [h1, h2]
def reE (p : Nat) (e : Edge) : Edge := ⟨sw p e.on, e.ground⟩
def reO (p : Nat) (o : Oper) : Oper := ⟨o.dst, o.op, o.type, o.pos, o.after.map (reE p), o.guard.map fun x => (sw p x.1, x.2)⟩
def addE (p : Nat) (o : Oper) : Oper := ⟨o.dst, o.op, o.type, o.pos, o.after.push ⟨p, .data⟩, o.guard⟩
def opA (p j : Nat) (o : Oper) : Oper := if j = p + 1 then addE p o else o
def opB (p j : Nat) (o : Oper) : Oper := if j = p + 1 then addE p (reO p o) else reO p o
def mapK (f : Nat → Oper → Oper) : Nat → List Oper → List Oper
  | _, [] => []
  | k, o :: r => f k o :: mapK f (k + 1) r
theorem mapK_get (f : Nat → Oper → Oper) : ∀ (l : List Oper) (k j : Nat), (mapK f k l)[j]? = (l[j]?).map (f (k + j))
  | [], _, _ => by simp [mapK]
  | o :: r, k, 0 => by simp [mapK]
  | o :: r, k, j + 1 => by
    simp only [mapK, List.getElem?_cons_succ]
    rw [mapK_get f r (k + 1) j, Nat.add_right_comm, Nat.add_assoc]
theorem mapK_len (f : Nat → Oper → Oper) : ∀ (l : List Oper) (k : Nat), (mapK f k l).length = l.length
  | [], _ => rfl
  | _ :: r, k => by simp [mapK, mapK_len f r]
def lA (p : Nat) (l : List Oper) : List Oper := mapK (opA p) 0 l
def lS : Nat → List Oper → List Oper
  | 0, a :: b :: r => b :: a :: r
  | n + 1, a :: r => a :: lS n r
  | _, l => l
def lB (p : Nat) (l : List Oper) : List Oper := mapK (opB p) 0 (lS p l)
theorem lS_get : ∀ (p : Nat) (l : List Oper), p + 1 < l.length → ∀ j, (lS p l)[sw p j]? = l[j]?
  | 0, [], h, _ => by simp at h
  | 0, [_], h, _ => by simp at h
  | 0, a :: b :: r, _, j => by
    match j with
    | 0 => rfl
    | 1 => rfl
    | j + 2 => simp [lS, sw]
  | p + 1, [], h, _ => by simp at h
  | p + 1, a :: r, h, j => by
    match j with
    | 0 => simp [lS, sw]
    | j + 1 =>
      have e : sw (p + 1) (j + 1) = sw p j + 1 := by
        by_cases h1 : j = p
        · simp [sw, h1]
        · by_cases h2 : j = p + 1
          · simp [sw, h2]
          · simp [sw, h1, h2]
      rw [e]
      simp only [lS, List.getElem?_cons_succ]
      exact lS_get p r (by simpa using h) j
theorem simA (p : Nat) (l : List Oper) : Sim id (p + 1) p l.toArray (lA p l).toArray := by
  have hg : ∀ j, (lA p l)[j]? = (l[j]?).map (opA p j) := fun j => by unfold lA; rw [mapK_get, Nat.zero_add]
  refine ⟨by omega, fun _ => rfl, fun j o ho => ?_, fun j ho => ?_, fun j o o' ho ho' e' he' hb' => ?_, fun j o o' ho ho' e he hb => ?_⟩
  · have ho : l[j]? = some o := by simpa using ho
    refine ⟨opA p j o, by simp [hg, ho], ?_⟩
    unfold opA
    split
    · exact ⟨rfl, rfl, rfl, rfl, by show o.guard = _; cases o.guard <;> rfl⟩
    · exact ⟨rfl, rfl, rfl, rfl, by cases o.guard <;> rfl⟩
  · have ho : l[j]? = none := by simpa using ho
    simp [hg, ho]
  · have ho : l[j]? = some o := by simpa using ho
    have ho' : opA p j o = o' := by simpa [hg, ho] using ho'
    subst ho'
    unfold opA at he'
    split at he'
    · simp only [addE, Array.mem_push] at he'
      rcases he' with he' | rfl
      · exact .inl ⟨e', he', hb', rfl⟩
      · rename_i c
        exact .inr ⟨c, rfl⟩
    · exact .inl ⟨e', he', hb', rfl⟩
  · have ho : l[j]? = some o := by simpa using ho
    have ho' : opA p j o = o' := by simpa [hg, ho] using ho'
    subst ho'
    refine ⟨e, ?_, hb, rfl⟩
    unfold opA
    split
    · simp [addE, he]
    · exact he
theorem simB (p : Nat) (l : List Oper) (hp : p + 1 < l.length) : Sim (sw p) p (p + 1) l.toArray (lB p l).toArray := by
  have hg : ∀ j, (lB p l)[sw p j]? = (l[j]?).map (opB p (sw p j)) := fun j => by unfold lB; rw [mapK_get, Nat.zero_add, lS_get p l hp]
  have hsp : sw p (p + 1) = p := by simp [sw]
  refine ⟨by omega, sw_sw p, fun j o ho => ?_, fun j ho => ?_, fun j o o' ho ho' e' he' hb' => ?_, fun j o o' ho ho' e he hb => ?_⟩
  · have ho : l[j]? = some o := by simpa using ho
    refine ⟨opB p (sw p j) o, by simp [hg, ho], ?_⟩
    unfold opB
    split
    · exact ⟨rfl, rfl, rfl, rfl, rfl⟩
    · exact ⟨rfl, rfl, rfl, rfl, rfl⟩
  · have ho : l[j]? = none := by simpa using ho
    simp [hg, ho]
  · have ho : l[j]? = some o := by simpa using ho
    have ho' : opB p (sw p j) o = o' := by simpa [hg, ho] using ho'
    subst ho'
    have key : ∀ e' ∈ o.after.map (reE p), Region.binds .any e' = true → ∃ e ∈ o.after, Region.binds .any e = true ∧ e'.on = sw p e.on := fun e' he' hb' => by
      obtain ⟨e, he, rfl⟩ := Array.mem_map.1 he'
      exact ⟨e, he, by simpa [Region.binds, reE] using hb', rfl⟩
    unfold opB at he'
    split at he'
    · simp only [addE, reO, Array.mem_push] at he'
      rcases he' with he' | rfl
      · exact .inl (key e' he' hb')
      · rename_i c
        refine .inr ⟨?_, hsp.symm⟩
        have := congrArg (sw p) c
        rw [sw_sw, hsp] at this
        exact this
    · exact .inl (key e' he' hb')
  · have ho : l[j]? = some o := by simpa using ho
    have ho' : opB p (sw p j) o = o' := by simpa [hg, ho] using ho'
    subst ho'
    refine ⟨reE p e, ?_, by simpa [Region.binds, reE] using hb, rfl⟩
    have hm : reE p e ∈ o.after.map (reE p) := Array.mem_map.2 ⟨e, he, rfl⟩
    unfold opB
    split
    · simp only [addE, reO, Array.mem_push]
      exact .inl hm
    · exact hm
end
variable {P : Program} [ETab]
theorem draw_any {k : Nat} {l : List Oper} {tm : List AV} {h : List Ch} {q : Post} (hc : chkR l = true) (H : ∀ Fin : List AV → List Ch → Prop, (∀ tm h, q.n tm h → Fin tm h) → DW P l Fin l 0 tm h [] []) {R : RO} {μ : List Bind} {a : Act} {w : World} (s : SR R μ tm h a w) (hl : k ≤ μ.length) :
    wpAny P .any l.toArray (EndQ k R μ h w q) l.toArray.size (Array.replicate l.toArray.size false) a { w with drawn := w.drawn + 1 } := by
  have C := chkR_ok hc
  have hw := H q.n fun _ _ h => h
  have hp0 : Past P l h tm 0 tm h [] [] [] := ⟨rfl, by cases l <;> rfl, fun p hp => (by cases hp), rfl, fun j o v hj => by omega⟩
  obtain ⟨tm', h', ps', hs', vs', h1, h2⟩ := hw.data C (fun j => by simp) [] hp0
  rw [Nat.zero_add] at h2
  have hget : ∀ j, (Array.replicate l.length false).getD j false = false := by
    intro j
    by_cases hj : j < l.length <;> simp [hj]
  have hD0 : (fun j => (Array.replicate l.toArray.size false).getD j false) = fun _ => false := by
    funext j
    simpa using hget j
  have e1 : putsD (fun j => (Array.replicate l.toArray.size false).getD j false) l vs' 0 tm = tm := by
    rw [hD0]
    have key : ∀ (os : List Oper) (vs : List AV) (i : Nat), putsD (fun _ => false) os vs i tm = tm := by
      intro os
      induction os with
      | nil => intro vs i; cases vs <;> rfl
      | cons o os ih =>
        intro vs i
        cases vs with
        | nil => rfl
        | cons v vs => simp [putsD, ih]
    exact key ..
  have sm := s.mem.same (w' := { w with drawn := w.drawn + 1 }) (fun _ _ => rfl) (Nat.le_refl _) rfl rfl rfl
  have hheap : heapR (fun j => (Array.replicate l.toArray.size false).getD j false) hs' h' = h := by
    rw [hD0]
    exact h2.first
  refine any_ok C (Q := EndQ k R μ h w q) (k := k) (R0 := R) (μ0 := μ) (h0 := h) (w0 := w) (fun R' μ' tm' h' a' w' s' st kp hk => ⟨R', μ', tm', h', s', st, kp, hk⟩) h1 h2 _ _ R μ a _ (by simp) ?_ ?_ ?_ ?_ (.refl hl)
  · rw [hD0]
    intro i hi
    cases hi
  · rw [hD0]
    have : ∀ n, cntD (fun _ => false) n ≤ n := by
      intro n
      induction n with
      | zero => exact Nat.le_refl _
      | succ n ih => simp only [cntD]; simp; exact ih
    simpa using this l.length
  · rw [e1, hheap]
    exact ⟨sm.1, s.tm, s.dfr⟩
  · rw [hheap]
    exact sm.2
/-- in the region id the operations p and p + 1 have no order -/
structure SwapAt (id p : Nat) : Prop where
theorem w_drawS {p : Nat} {k : Nat} {id : Nat} {l la lb : List Oper} {tm : List AV} {h : List Ch} {q : Post} (hs : SwapAt id p) (hm : P.follows .mixedOrders = true) (hp : p + 1 < l.length) (eA : lA p l = la) (eB : lB p l = lb) (cA : chkR la = true) (cB : chkR lb = true)
    (HA : ∀ Fin : List AV → List Ch → Prop, (∀ tm h, q.n tm h → Fin tm h) → DW P la Fin la 0 tm h [] []) (HB : ∀ Fin : List AV → List Ch → Prop, (∀ tm h, q.n tm h → Fin tm h) → DW P lb Fin lb 0 tm h [] []) : Wp P k (.region id l.toArray true) tm h q :=
  ⟨fun R μ a w s hl => wp_region_draw fun t => by
    simp only [Region.schedule, hm, Bool.true_or, if_true]
    subst eA eB
    have zA := draw_any cA HA s hl
    have zB := draw_any cB HB s hl
    have sA : (lA p l).toArray.size = l.toArray.size := by simp [lA, mapK_len]
    have sB : (lB p l).toArray.size = l.toArray.size := by
      have key : ∀ (p : Nat) (l : List Oper), (lS p l).length = l.length := by
        intro p
        induction p with
        | zero => intro l; match l with
          | [] => rfl
          | [_] => rfl
          | _ :: _ :: _ => rfl
        | succ p ih => intro l; match l with
          | [] => rfl
          | _ :: r => simp [lS, ih]
      simp [lB, key, mapK_len]
    rw [sA] at zA
    rw [sB] at zB
    have hrep : ∀ j d, (Array.replicate l.toArray.size false).getD (sw p j) d = (Array.replicate l.toArray.size false).getD j d := fun j d => by
      have e : sw p j < l.length ↔ j < l.length := by unfold sw; split <;> (try split) <;> omega
      by_cases c : j < l.length
      · have c' := e.2 c
        simp [Array.getD, c, c']
      · have c' : ¬ sw p j < l.length := fun q => c (e.1 q)
        simp [Array.getD, c, c']
    cases ho : okO (p + 1) p (Region.linearise.go .any l.toArray l.toArray.size t (Array.replicate l.toArray.size false) []) with
    | true => exact run_sim (simA p l) _ t _ _ a _ (fun _ _ => rfl) (.inr ho) zA
    | false => exact run_sim (simB p l hp) _ t _ _ a _ hrep (.inr (okO_or ho)) zB⟩
end Go.V
