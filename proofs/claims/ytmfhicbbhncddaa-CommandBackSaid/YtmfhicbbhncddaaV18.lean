/-
  Calls on a part of the memory at hand: slices are lent, objects handed over.
-/
import Derived.Test.YtmfhicbbhncddaaV14
set_option linter.unusedVariables false
set_option linter.unusedSimpArgs false
namespace Go.V

variable {P : Program} {R : RO} {μ : List Bind} {h : List Ch} {w : World}

mutual
/-- nothing in it lies for good -/
def rfA : AV → Bool
  | .ro _ _ => false
  | .rp _ _ _ _ => false
  | .agg l => rfL l
  | .tup l => rfL l
  | .fn _ l => rfL l
  | .ifc _ a => rfA a
  | _ => true
def rfL : List AV → Bool
  | [] => true
  | a :: l => rfA a && rfL l
end
def rfKV : List (AV × AV) → Bool
  | [] => true
  | p :: l => rfA p.1 && rfA p.2 && rfKV l
mutual
def rfC : Ch → Bool
  | .cells vs => rfL vs
  | .rows e _ => e.flat
  | .gone => true
  | .pack l => rfCs l
  | .map kv => rfKV kv
def rfCs : List Ch → Bool
  | [] => true
  | c :: l => rfC c && rfCs l
end
mutual
/-- the value a is what g says, tags through σ; a slice that is owned may be given for one that lies for good -/
def brA (σ : List Nat) (h : List Ch) : AV → AV → Prop
  | .agg l, a => (match a with | .agg l' => brL σ h l l' | _ => False)
  | .ro e xs, a => (match a with
    | .sl t e' s n => (match hth h t with
      | .rows e'' ys => (match asE e e'' ys with
        | some ys => (s + n ≤ ys.length ∧ e' = e ∧ t ∉ σ) ∧ xs = (ys.drop s).take n
        | none => False)
      | _ => False)
    | a => fitA σ (.ro e xs) a)
  | g, a => fitA σ g a
def brL (σ : List Nat) (h : List Ch) : List AV → List AV → Prop
  | [], l => (match l with | [] => True | _ => False)
  | g :: gs, l => (match l with | a :: as => brA σ h g a ∧ brL σ h gs as | [] => False)
end
mutual
/-- the rows that are lent -/
def brT : AV → AV → List Nat
  | .agg l, a => (match a with | .agg l' => brTL l l' | _ => [])
  | .ro _ _, a => (match a with | .sl t _ _ _ => [t] | _ => [])
  | _, _ => []
def brTL : List AV → List AV → List Nat
  | [], _ => []
  | g :: gs, l => (match l with | a :: as => brT g a ++ brTL gs as | [] => [])
end

mutual
theorem Rel.rf {R R' : RO} : ∀ {a : AV} {v : Value}, rfA a = true → Rel R μ a v → Rel R' μ a v
  | .int _ _, _, _, h => by cases h; exact .int
  | .bool _, _, _, h => by cases h; exact .bool
  | .str _, _, _, h => by cases h; exact .str
  | .lit _, _, _, h => by cases h; exact .lit
  | .any, _, _, _ => .any
  | .agg l, _, hf, h => by cases h with | agg h => exact .agg (LRel.rf (by simpa [rfA] using hf) h)
  | .tup l, _, hf, h => by cases h with | tup h => exact .tup (LRel.rf (by simpa [rfA] using hf) h)
  | .fn _ l, _, hf, h => by cases h with | fn h => exact .fn (LRel.rf (by simpa [rfA] using hf) h)
  | .ifc _ a, _, hf, h => by cases h with | ifc h => exact .ifc (Rel.rf (by simpa [rfA] using hf) h)
  | .mp _, _, _, h => by cases h with | mp h => exact .mp h
  | .ptr _ _, _, _, h => by cases h with | ptr h hb => exact .ptr h hb
  | .ep _ _ _ _, _, _, h => by cases h with | ep h => exact .ep h
  | .sl _ _ _ _, _, _, h => by
    cases h with
    | sl h hc hl hm => exact .sl h hc hl hm
    | sl0 h => exact .sl0 h
  | .ro _ _, _, hf, _ => by simp [rfA] at hf
  | .rp _ _ _ _, _, hf, _ => by simp [rfA] at hf
theorem LRel.rf {R R' : RO} : ∀ {l : List AV} {vs : List Value}, rfL l = true → LRel R μ l vs → LRel R' μ l vs
  | [], _, _, h => by cases h; exact .nil
  | a :: l, _, hf, h => by
    simp only [rfL, Bool.and_eq_true] at hf
    cases h with | cons ha hl => exact .cons (Rel.rf hf.1 ha) (LRel.rf hf.2 hl)
end
theorem LRel.ntf {R R' : RO} : ∀ {l : List AV} {vs : List Value}, (∀ a ∈ l, a.ntf = true) → LRel R μ l vs → LRel R' μ l vs
  | [], _, _, h => by cases h; exact .nil
  | a :: l, _, hf, h => by
    cases h with
    | cons ha hl =>
      refine .cons (ha.rf ?_) (LRel.ntf (fun b hb => hf b (by simp [hb])) hl)
      have := hf a (by simp)
      cases a <;> simp [AV.ntf] at this <;> rfl
theorem rfKV_1 : ∀ {kv : List (AV × AV)}, rfKV kv = true → rfL (kv.map (·.1)) = true ∧ rfL (kv.map (·.2)) = true
  | [], _ => ⟨rfl, rfl⟩
  | p :: l, h => by
    simp only [rfKV, Bool.and_eq_true] at h
    have := rfKV_1 h.2
    exact ⟨by simp [rfL, h.1.1, this.1], by simp [rfL, h.1.2, this.2]⟩
mutual
theorem CRel.rf {R R' : RO} {μ : List Bind} : ∀ {c : Ch} {B : Bind}, rfC c = true → CRel R w μ c B → CRel R' w μ c B
  | .cells vs, B, hf, h => by
    obtain ⟨n, arr, ty, h1, h2, h3⟩ := h
    exact ⟨n, arr, ty, h1, h2, h3.rf (by simpa [rfC] using hf)⟩
  | .rows e xs, B, hf, h => by
    rcases h with h | ⟨n, cap, arr, ty, h1, h2, h3, h4, h5, h6⟩
    · exact .inl h
    · exact .inr ⟨n, cap, arr, ty, h1, h2, h3, h4, h5, h6.ntf fun a ha => by
        obtain ⟨x, _, hx⟩ := List.mem_flatMap.1 ha
        exact e.enc_flat (by simpa [rfC] using hf) x a hx⟩
  | .gone, _, _, _ => trivial
  | .map kv, B, hf, h => by
    obtain ⟨n, es, clock, h1, h2, h3, h4⟩ := h
    have := rfKV_1 (by simpa [rfC] using hf)
    exact ⟨n, es, clock, h1, h2, h3.rf this.1, h4.rf this.2⟩
  | .pack l, B, hf, h => by
    obtain ⟨bl, rfl, h⟩ := h
    exact ⟨bl, rfl, HRel.rf (by simpa [rfC] using hf) h⟩
theorem HRel.rf {R R' : RO} {μ : List Bind} : ∀ {l : List Ch} {m : List Bind}, rfCs l = true → HRel R w μ l m → HRel R' w μ l m
  | [], [], _, _ => trivial
  | c :: l, b :: m, hf, h => by
    simp only [rfCs, Bool.and_eq_true] at hf
    exact ⟨CRel.rf hf.1 h.1, HRel.rf hf.2 h.2⟩
  | [], _ :: _, _, h => h.elim
  | _ :: _, [], _, h => h.elim
end

mutual
theorem brA_ok (H : HOk R μ h w) {R1 : RO} (hle : R.le R1) {σ : List Nat} : ∀ {g a : AV} {v : Value}, brA σ h g a → (∀ t ∈ brT g a, ∀ b cap, μ[t]? = some (.blk b cap) → R1 b = w.heap[b]?) → Rel R μ a v → Rel R1 (pickB σ μ) g v
  | .agg l, a, v, hb, hl, hr => by
    cases a <;> simp only [brA] at hb
    cases hr with | agg hr => exact .agg (brL_ok H hle hb (by simpa only [brT] using hl) hr)
  | .ro e xs, a, v, hb, hl, hr => by
    simp only [brA] at hb
    split at hb
    · rename_i t e' s n
      split at hb
      · rename_i e'' ys hh
        split at hb
        · rename_i zs hz
          obtain ⟨he, hz⟩ := asE_some hz
          subst he
          simp only at hz
          subst hz
          obtain ⟨⟨hlen, rfl, _⟩, rfl⟩ := hb
          cases hr with
          | @sl _ _ _ _ _ b cap c h1 hc hn hm =>
            have htl : t < h.length := by rw [H.rel.len]; exact (List.getElem?_eq_some_iff.1 h1).1
            obtain ⟨B, hB, hr, _⟩ := H.rel.get (hth_some htl)
            rw [h1] at hB
            obtain rfl := (Option.some.inj hB)
            rw [hh] at hr
            rcases hr with ⟨h0, _⟩ | ⟨b', cap', arr, ty, h0, hb, hsz, hle2, hcap, hrel⟩
            · exact Bind.noConfusion h0
            · simp only [Bind.blk.injEq] at h0
              obtain ⟨rfl, rfl⟩ := h0
              have hll : ((ys.drop s).take n).length = n := by simp; omega
              have hR1 := hl t (by simp [brT]) b cap h1
              rw [hb] at hR1
              have h2 : Rel R1 (pickB σ μ) (.ro e' ((ys.drop s).take n)) (.slice (some ⟨b, s * e'.sz, none⟩) ((ys.drop s).take n).length c) := by
                refine .ro (arr := arr) (ty := ty) (fr := (0, 0)) hR1 ?_ (by omega) (by omega)
                have h3 := ((hrel.drop (s * e'.sz)).take (n * e'.sz)).mono hle (Ext.refl _)
                rw [flat_take, flat_drop, hll]
                have e1 : ((arr.toList.drop (s * e'.sz)).take (n * e'.sz)) = ((arr.toList.take (ys.length * e'.sz)).drop (s * e'.sz)).take (n * e'.sz) := by
                  rw [List.drop_take, List.take_take, Nat.min_eq_left]
                  rw [← Nat.sub_mul]
                  exact Nat.mul_le_mul_right _ (by omega)
                rw [e1]
                exact h3
              rw [hll] at h2
              exact h2
          | sl0 h1 => simp; exact .ro0 (Nat.zero_le _)
        · exact hb.elim
      · exact hb.elim
    · exact (fitA_ok (σ := σ) hb hr).mono hle (Ext.refl _)
  | .any, a, v, hb, hl, hr => .any
  | .int _ _, a, v, hb, hl, hr => (fitA_ok (σ := σ) hb hr).mono hle (Ext.refl _)
  | .bool _, a, v, hb, hl, hr => (fitA_ok (σ := σ) hb hr).mono hle (Ext.refl _)
  | .str _, a, v, hb, hl, hr => (fitA_ok (σ := σ) hb hr).mono hle (Ext.refl _)
  | .lit _, a, v, hb, hl, hr => (fitA_ok (σ := σ) hb hr).mono hle (Ext.refl _)
  | .tup _, a, v, hb, hl, hr => (fitA_ok (σ := σ) hb hr).mono hle (Ext.refl _)
  | .ptr _ _, a, v, hb, hl, hr => (fitA_ok (σ := σ) hb hr).mono hle (Ext.refl _)
  | .ep _ _ _ _, a, v, hb, hl, hr => (fitA_ok (σ := σ) hb hr).mono hle (Ext.refl _)
  | .sl _ _ _ _, a, v, hb, hl, hr => (fitA_ok (σ := σ) hb hr).mono hle (Ext.refl _)
  | .rp _ _ _ _, a, v, hb, hl, hr => (fitA_ok (σ := σ) hb hr).mono hle (Ext.refl _)
  | .fn _ _, a, v, hb, hl, hr => (fitA_ok (σ := σ) hb hr).mono hle (Ext.refl _)
  | .ifc _ _, a, v, hb, hl, hr => (fitA_ok (σ := σ) hb hr).mono hle (Ext.refl _)
  | .mp _, a, v, hb, hl, hr => (fitA_ok (σ := σ) hb hr).mono hle (Ext.refl _)
theorem brL_ok (H : HOk R μ h w) {R1 : RO} (hle : R.le R1) {σ : List Nat} : ∀ {gs as : List AV} {vs : List Value}, brL σ h gs as → (∀ t ∈ brTL gs as, ∀ b cap, μ[t]? = some (.blk b cap) → R1 b = w.heap[b]?) → LRel R μ as vs → LRel R1 (pickB σ μ) gs vs
  | [], as, vs, hb, hl, hr => by
    cases as <;> simp only [brL] at hb
    cases hr; exact .nil
  | g :: gs, as, vs, hb, hl, hr => by
    cases as <;> simp only [brL] at hb
    cases hr with
    | cons ha hs => exact .cons (brA_ok H hle hb.1 (fun t ht => hl t (by simp [brTL, ht])) ha) (brL_ok H hle hb.2 (fun t ht => hl t (by simp [brTL, ht])) hs)
end

mutual
theorem brT_rows {σ : List Nat} : ∀ {g a : AV}, brA σ h g a → ∀ t ∈ brT g a, (∃ e xs, hth h t = .rows e xs) ∧ t ∉ σ
  | .agg l, a, hb, t, ht => by
    cases a <;> simp only [brA] at hb
    exact brTL_rows hb t (by simpa only [brT] using ht)
  | .ro e xs, a, hb, t, ht => by
    simp only [brT] at ht
    split at ht
    · rename_i t' e' s n
      simp only [List.mem_singleton] at ht
      subst ht
      simp only [brA] at hb
      split at hb
      · rename_i e'' ys hh
        split at hb
        · exact ⟨⟨e'', ys, hh⟩, hb.1.2.2⟩
        · exact hb.elim
      · exact hb.elim
    · simp at ht
  | .any, _, _, t, ht => by simp [brT] at ht
  | .int _ _, _, _, t, ht => by simp [brT] at ht
  | .bool _, _, _, t, ht => by simp [brT] at ht
  | .str _, _, _, t, ht => by simp [brT] at ht
  | .lit _, _, _, t, ht => by simp [brT] at ht
  | .tup _, _, _, t, ht => by simp [brT] at ht
  | .ptr _ _, _, _, t, ht => by simp [brT] at ht
  | .ep _ _ _ _, _, _, t, ht => by simp [brT] at ht
  | .sl _ _ _ _, _, _, t, ht => by simp [brT] at ht
  | .rp _ _ _ _, _, _, t, ht => by simp [brT] at ht
  | .fn _ _, _, _, t, ht => by simp [brT] at ht
  | .ifc _ _, _, _, t, ht => by simp [brT] at ht
  | .mp _, _, _, t, ht => by simp [brT] at ht
theorem brTL_rows {σ : List Nat} : ∀ {gs as : List AV}, brL σ h gs as → ∀ t ∈ brTL gs as, (∃ e xs, hth h t = .rows e xs) ∧ t ∉ σ
  | [], _, _, t, ht => by simp [brTL] at ht
  | g :: gs, as, hb, t, ht => by
    cases as <;> simp only [brL] at hb
    simp only [brTL, List.mem_append] at ht
    rcases ht with ht | ht
    · exact brT_rows hb.1 t ht
    · exact brTL_rows hb.2 t ht
end

def lentB (μ : List Bind) : List Nat → List Nat
  | [] => []
  | t :: ts => (match μ[t]? with | some (.blk b _) => b :: lentB μ ts | _ => lentB μ ts)
theorem lentB_mem {ts : List Nat} {t b cap : Nat} (ht : t ∈ ts) (hb : μ[t]? = some (.blk b cap)) : b ∈ lentB μ ts := by
  induction ts with
  | nil => simp at ht
  | cons s ts ih =>
    rcases List.mem_cons.1 ht with rfl | ht
    · simp [lentB, hb]
    · have := ih ht
      unfold lentB
      split
      · simp [this]
      · exact this
theorem lentB_of {ts : List Nat} {b : Nat} (hb : b ∈ lentB μ ts) : ∃ t ∈ ts, ∃ cap, μ[t]? = some (.blk b cap) := by
  induction ts with
  | nil => simp [lentB] at hb
  | cons s ts ih =>
    unfold lentB at hb
    split at hb
    · rename_i b' c hh
      rcases List.mem_cons.1 hb with rfl | hb
      · exact ⟨s, by simp, c, hh⟩
      · obtain ⟨t, h1, h2⟩ := ih hb
        exact ⟨t, by simp [h1], h2⟩
    · obtain ⟨t, h1, h2⟩ := ih hb
      exact ⟨t, by simp [h1], h2⟩
open Classical in
noncomputable def lend (Bs : List Nat) (w : World) (R : RO) : RO := fun b => if b ∈ Bs then w.heap[b]? else R b
open Classical in
noncomputable def unlend (Bs : List Nat) (R : RO) : RO := fun b => if b ∈ Bs then none else R b
theorem unlend_nil (R : RO) : unlend [] R = R := by
  funext b
  unfold unlend
  rw [if_neg (by simp)]
theorem lent_own (H : HOk R μ h w) {σ ts : List Nat} (hr : ∀ t ∈ ts, (∃ e xs, hth h t = .rows e xs) ∧ t ∉ σ) {b : Nat} (hb : b ∈ lentB μ ts) : ∃ t ∈ ts, t ∉ σ ∧ ∃ c B, h[t]? = some c ∧ μ[t]? = some B ∧ b ∈ ownC c B := by
  obtain ⟨t, ht, cap, hm⟩ := lentB_of hb
  obtain ⟨⟨e, xs, hh⟩, hn⟩ := hr t ht
  have htl : t < h.length := by rw [H.rel.len]; exact (List.getElem?_eq_some_iff.1 hm).1
  refine ⟨t, ht, hn, _, _, hth_some htl, hm, ?_⟩
  rw [hh]
  simp [ownC]
theorem enter (H : HOk R μ h w) {Bs : List Nat} (hBs : ∀ b ∈ Bs, b ∈ ownH h μ) {l : List Ch} {bl : List Bind} (hl : HRel R w bl l bl) (hnd : (ownH l bl).Nodup) (hsub : ∀ b ∈ ownH l bl, b ∈ ownH h μ ∧ b ∉ Bs) :
    HOk (lend Bs w R) bl l w ∧ R.le (lend Bs w R) := by
  have hle : R.le (lend Bs w R) := fun b o hb => by
    unfold lend
    rw [if_neg]
    · exact hb
    · intro hx
      have := (H.own b (hBs b hx)).2
      rw [this] at hb
      simp at hb
  refine ⟨⟨HRel.keep hle (Ext.refl bl) l bl hl fun _ _ => rfl, hnd, fun b hb => ⟨(H.own b (hsub b hb).1).1, ?_⟩, fun b o hb => ?_⟩, hle⟩
  · unfold lend
    rw [if_neg (hsub b hb).2]
    exact (H.own b (hsub b hb).1).2
  · unfold lend at hb
    split at hb
    · exact hb
    · exact H.ro b o hb
theorem leave (H : HOk R μ h w) {Bs : List Nat} (hBs : ∀ b ∈ Bs, b ∈ ownH h μ) {O O' : List Nat} {R' : RO} {w' : World} (st : Step O (lend Bs w R) w O' R' w') :
    R.le (unlend Bs R') ∧ (∀ b o, unlend Bs R' b = some o → R' b = some o) ∧ ∀ b o, unlend Bs R' b = some o → R b = some o ∨ b ∈ O ∨ w.heap.size ≤ b := by
  refine ⟨fun b o hb => ?_, fun b o hb => ?_, fun b o hb => ?_⟩
  · have hn : b ∉ Bs := fun hx => by
      have := (H.own b (hBs b hx)).2
      rw [this] at hb
      simp at hb
    unfold unlend
    rw [if_neg hn]
    refine st.ro b o ?_
    unfold lend
    rw [if_neg hn]
    exact hb
  · unfold unlend at hb
    split at hb
    · simp at hb
    · exact hb
  · unfold unlend at hb
    split at hb
    · simp at hb
    · rename_i hn
      rcases st.nro b o hb with h1 | h1 | h1
      · unfold lend at h1
        rw [if_neg hn] at h1
        exact .inl h1
      · exact .inr (.inl h1)
      · exact .inr (.inr h1)

/-! ### Several chunks are replaced -/
def setHL (h : List Ch) : List Nat → List Ch → List Ch
  | t :: ts, c :: cs => setHL (h.set t c) ts cs
  | _, _ => h
def setML (m : List Bind) : List Nat → List Bind → List Bind
  | t :: ts, b :: bs => setML (m.set t b) ts bs
  | _, _ => m
theorem setHL_len : ∀ (ts : List Nat) (cs : List Ch) (h : List Ch), (setHL h ts cs).length = h.length
  | [], cs, h => by cases cs <;> rfl
  | _ :: _, [], h => rfl
  | t :: ts, c :: cs, h => by simp [setHL, setHL_len ts cs]
theorem setML_len : ∀ (ts : List Nat) (cs : List Bind) (h : List Bind), (setML h ts cs).length = h.length
  | [], cs, h => by cases cs <;> rfl
  | _ :: _, [], h => rfl
  | t :: ts, c :: cs, h => by simp [setML, setML_len ts cs]
theorem setML_ne {s : Nat} : ∀ (ts : List Nat) (bs m : List Bind), s ∉ ts → (setML m ts bs)[s]? = m[s]?
  | [], bs, m, _ => by cases bs <;> rfl
  | _ :: _, [], m, _ => rfl
  | t :: ts, b :: bs, m, hs => by
    simp only [List.mem_cons, not_or] at hs
    rw [setML, setML_ne ts bs _ hs.2, List.getElem?_set_ne (Ne.symm hs.1)]
theorem setML_at : ∀ (ts : List Nat) (bs m : List Bind) (i t : Nat), ts.Nodup → ts[i]? = some t → t < m.length → bs.length = ts.length → (setML m ts bs)[t]? = bs[i]?
  | [], _, _, _, _, _, h, _, _ => by simp at h
  | _ :: _, [], _, _, _, _, _, _, h => by simp at h
  | t0 :: ts, b :: bs, m, 0, t, hn, h, hl, _ => by
    simp at h
    subst h
    rw [setML, setML_ne ts bs _ (List.nodup_cons.1 hn).1, List.getElem?_set_self hl]
    rfl
  | t0 :: ts, b :: bs, m, i + 1, t, hn, h, hl, hb => by
    rw [setML]
    exact setML_at ts bs _ i t (List.nodup_cons.1 hn).2 (by simpa using h) (by simpa using hl) (by simpa using hb)
theorem setML_ext : ∀ (ts : List Nat) (bs m : List Bind), ts.Nodup → (∀ (i t : Nat) (B : Bind), ts[i]? = some t → m[t]? = some B → ∃ B' : Bind, bs[i]? = some B' ∧ BLe B B') → Ext m (setML m ts bs)
  | [], bs, m, _, _ => by cases bs <;> exact Ext.refl m
  | _ :: _, [], m, _, _ => Ext.refl m
  | t :: ts, b :: bs, m, hn, h => by
    obtain ⟨h1, h2⟩ := List.nodup_cons.1 hn
    rw [setML]
    have hstep : Ext m (m.set t b) := by
      by_cases hlt : t < m.length
      · obtain ⟨B', h3, h4⟩ := h 0 t m[t] (by simp) (by simp [hlt])
        simp at h3
        subst h3
        exact Ext.set (by simp [hlt]) h4
      · rw [List.set_eq_of_length_le (by omega)]
        exact Ext.refl m
    refine hstep.trans (setML_ext ts bs _ h2 fun i s B hi hB => ?_)
    have hne : s ≠ t := fun e => h1 (e ▸ List.mem_of_getElem? hi)
    rw [List.getElem?_set_ne (Ne.symm hne)] at hB
    simpa using h (i + 1) s B (by simpa using hi) hB
theorem HRel.put {c : Ch} {B : Bind} (hc : CRel R w μ c B) : ∀ {h : List Ch} {m : List Bind} {t : Nat}, HRel R w μ h m → HRel R w μ (h.set t c) (m.set t B)
  | [], [], _, h => by simpa using h
  | _ :: _, _ :: _, 0, h => ⟨hc, h.2⟩
  | _ :: _, _ :: _, t + 1, h => ⟨h.1, HRel.put hc h.2⟩
  | [], _ :: _, _, h => h.elim
  | _ :: _, [], _, h => h.elim
theorem HRel.puts : ∀ (ts : List Nat) {cs : List Ch} {bs : List Bind} {h : List Ch} {m : List Bind}, HRel R w μ cs bs → HRel R w μ h m → HRel R w μ (setHL h ts cs) (setML m ts bs)
  | [], [], [], _, _, _, h => h
  | [], _ :: _, _ :: _, _, _, _, h => h
  | _ :: _, [], [], _, _, _, h => h
  | t :: ts, c :: cs, b :: bs, _, _, hc, h => HRel.puts ts hc.2 (HRel.put hc.1 h)
  | _, [], _ :: _, _, _, hc, _ => hc.elim
  | _, _ :: _, [], _, _, hc, _ => hc.elim
theorem own_put {c : Ch} {B : Bind} : ∀ {h : List Ch} {m : List Bind} {t : Nat}, ∀ b ∈ ownH (h.set t c) (m.set t B), b ∈ ownC c B ∨ b ∈ ownH h m
  | [], m, _, b, hb => by simp [ownH] at hb
  | _ :: _, [], _, b, hb => by cases ‹Nat› <;> simp [ownH] at hb
  | _ :: _, _ :: _, 0, b, hb => by
    simp only [List.set_cons_zero, ownH, List.mem_append] at hb ⊢
    exact hb.imp id .inr
  | _ :: _, _ :: _, t + 1, b, hb => by
    simp only [List.set_cons_succ, ownH, List.mem_append] at hb ⊢
    rcases hb with hb | hb
    · exact .inr (.inl hb)
    · exact (own_put b hb).imp id .inr
theorem own_puts : ∀ (ts : List Nat) {cs : List Ch} {bs : List Bind} {h : List Ch} {m : List Bind}, cs.length = bs.length → ∀ b ∈ ownH (setHL h ts cs) (setML m ts bs), b ∈ ownH cs bs ∨ b ∈ ownH h m
  | [], cs, bs, h, m, _, b, hb => by
    cases cs <;> cases bs <;> exact .inr hb
  | _ :: _, [], [], _, _, _, b, hb => .inr hb
  | t :: ts, c :: cs, d :: bs, h, m, hl, b, hb => by
    simp only [ownH, List.mem_append]
    rcases own_puts ts (by simpa using hl) b hb with h1 | h1
    · exact .inl (.inr h1)
    · rcases own_put b h1 with h2 | h2
      · exact .inl (.inl h2)
      · exact .inr h2
  | _ :: _, [], _ :: _, _, _, hl, _, _ => by simp at hl
  | _ :: _, _ :: _, [], _, _, hl, _, _ => by simp at hl
theorem own_puts_nodup : ∀ (ts : List Nat) {cs : List Ch} {bs : List Bind} {h : List Ch} {m : List Bind}, cs.length = bs.length → (ownH cs bs).Nodup → (ownH h m).Nodup → (∀ b ∈ ownH cs bs, b ∉ ownH h m) → (ownH (setHL h ts cs) (setML m ts bs)).Nodup
  | [], cs, bs, h, m, _, _, hn, _ => by cases cs <;> cases bs <;> exact hn
  | _ :: _, [], [], _, _, _, _, hn, _ => hn
  | t :: ts, c :: cs, d :: bs, h, m, hl, hc, hn, hd => by
    simp only [ownH, List.nodup_append] at hc
    have hstep : (ownH (h.set t c) (m.set t d)).Nodup := by
      cases e1 : h[t]? with
      | none =>
        rw [List.set_eq_of_length_le (by simpa using e1)]
        have key : ∀ (h : List Ch) (m : List Bind) (t : Nat), h.length ≤ t → ownH h (m.set t d) = ownH h m := by
          intro h
          induction h with
          | nil => intro m t _; rfl
          | cons a l ih =>
            intro m t ht
            cases m with
            | nil => simp
            | cons x m =>
              cases t with
              | zero => simp at ht
              | succ t => simp only [List.set_cons_succ, ownH, ih m t (by simpa using ht)]
        rw [key h m t (by simpa using e1)]
        exact hn
      | some c0 =>
        cases e2 : m[t]? with
        | none =>
          have hm : m.set t d = m := List.set_eq_of_length_le (by simpa using e2)
          rw [hm]
          have key : ∀ (m : List Bind) (h : List Ch) (t : Nat), m.length ≤ t → ownH (h.set t c) m = ownH h m := by
            intro m
            induction m with
            | nil => intro h t _; cases h <;> cases t <;> rfl
            | cons a l ih =>
              intro h t ht
              cases h with
              | nil => simp
              | cons x h =>
                cases t with
                | zero => simp at ht
                | succ t => simp only [List.set_cons_succ, ownH, ih h t (by simpa using ht)]
          rw [key m h t (by simpa using e2)]
          exact hn
        | some B0 => exact own_swap_nodup hc.1 hn e1 e2 fun b hb hx => absurd hx (hd b (by simp [ownH, hb]))
    rw [setHL, setML]
    refine own_puts_nodup ts (by simpa using hl) hc.2.1 hstep fun b hb hx => ?_
    rcases own_put b hx with h1 | h1
    · exact hc.2.2 b h1 b hb rfl
    · exact hd b (by simp [ownH, hb]) h1
  | _ :: _, [], _ :: _, _, _, hl, _, _, _ => by simp at hl
  | _ :: _, _ :: _, [], _, _, hl, _, _, _ => by simp at hl
theorem HRel.split : ∀ {l l' : List Ch} {m : List Bind}, HRel R w μ (l ++ l') m → HRel R w μ l (m.take l.length) ∧ HRel R w μ l' (m.drop l.length)
  | [], _, _, h => ⟨trivial, h⟩
  | _ :: _, _, [], h => h.elim
  | c :: l, l', b :: m, h => by
    obtain ⟨h1, h2⟩ := HRel.split (l := l) h.2
    exact ⟨⟨h.1, h1⟩, h2⟩
theorem ownH_split : ∀ (l l' : List Ch) (m : List Bind), ownH (l ++ l') m = ownH l (m.take l.length) ++ ownH l' (m.drop l.length)
  | [], _, _ => by simp [ownH]
  | _ :: l, l', [] => by cases l' <;> simp [ownH]
  | c :: l, l', b :: m => by simp [ownH, ownH_split l l' m]
theorem fitHs_len {σ : List Nat} : ∀ {gh : List Ch} {ts : List Nat}, fitHs σ h gh ts → gh.length = ts.length
  | [], ts, hf => by cases ts <;> simp only [fitHs] at hf; rfl
  | g :: gs, ts, hf => by
    cases ts with
    | nil => simp [fitHs] at hf
    | cons t ts => simp only [fitHs] at hf; simp [fitHs_len hf.2.2]
theorem fitHs_lt {σ : List Nat} : ∀ {gh : List Ch} {ts : List Nat}, fitHs σ h gh ts → ∀ t ∈ ts, t < h.length
  | [], ts, hf, t, ht => by cases ts <;> simp only [fitHs] at hf; simp at ht
  | g :: gs, ts, hf, t, ht => by
    cases ts with
    | nil => simp [fitHs] at hf
    | cons t' ts =>
      simp only [fitHs] at hf
      rcases List.mem_cons.1 ht with rfl | ht
      · exact hf.1
      · exact fitHs_lt hf.2.2 t ht

/-- how the callee's tags become the caller's -/
def rhoC (σ : List Nat) (n : Nat) (j : Nat) : Nat := if j < σ.length then σ.getD j 0 else n + (j - σ.length)
/-- the end of a walk on a part of the memory: the objects handed over, then what is new -/
def EndF (n : Nat) (ret : AV) (hp : List Ch) (v : AV) (h' : List Ch) : Prop := ∃ τ : List Nat, τ.take n = List.range n ∧ Fit τ [ret] hp [v] h'

theorem Does.frame {g : FuncId} {la : List AV} {lh : List Ch} {ret : AV} {obj cs : List Ch} {σ : List Nat} {as : List AV} {K : KT}
    (hb : DoesK P σ.length g la lh (EndF σ.length ret (obj ++ cs))) (ho : obj.length = σ.length)
    (hbr : brL σ h la as) (hfh : fitHs σ h lh σ) (hσ : σ.Nodup) (hrf : brTL la as = [] ∨ (rfA ret && rfCs obj && rfCs cs) = true)
    (HK : K (renA (rhoC σ h.length) ret) (setHL (goneH h σ) σ (renCs (rhoC σ h.length) obj) ++ renCs (rhoC σ h.length) cs)) : Does P g as h K := by
  refine ⟨hb.here, fun R μ w vs hv H => ?_⟩
  obtain ⟨f1, f2, f3⟩ := fitH_ok H hfh hσ
  have hlen := H.rel.len
  have hσlt : ∀ t ∈ σ, t < μ.length := fun t ht => by rw [← hlen]; exact fitHs_lt hfh t ht
  generalize hBs : lentB μ (brTL la as) = Bs at *
  have hBown : ∀ b ∈ Bs, ∃ t, t ∉ σ ∧ ∃ c B, h[t]? = some c ∧ μ[t]? = some B ∧ b ∈ ownC c B := fun b hb => by
    rw [← hBs] at hb
    obtain ⟨t, _, h1, h2⟩ := lent_own H (brTL_rows hbr) hb
    exact ⟨t, h1, h2⟩
  have hBin : ∀ b ∈ Bs, b ∈ ownH h μ := fun b hb => by
    obtain ⟨t, _, c, B, e1, e2, e3⟩ := hBown b hb
    exact own_mem e1 e2 b e3
  have hlsub : ∀ b ∈ ownH lh (pickB σ μ), b ∈ ownH h μ ∧ b ∉ Bs := fun b hb => by
    obtain ⟨t, ht, c, B, e1, e2, e3⟩ := f3 b hb
    refine ⟨own_mem e1 e2 b e3, fun hx => ?_⟩
    obtain ⟨t', ht', c', B', e1', e2', e3'⟩ := hBown b hx
    exact own_apart H.nodup (fun (e : t = t') => ht' (e ▸ ht)) e1 e2 e1' e2' b e3 e3'
  obtain ⟨H1, hle⟩ := enter H hBin f1 f2 hlsub
  have hv1 := brL_ok H hle hbr (fun t ht b cap hm => by
    unfold lend
    rw [if_pos (by rw [← hBs]; exact lentB_mem ht hm)]) hv
  refine (hb.run _ _ w vs hv1 H1 (by simp [pickB])).mono fun e w' hr => ?_
  obtain ⟨v, R', μ', h', av, rfl, ⟨τ, hτ, hfit⟩, hrv, H2, kp, st⟩ := hr
  obtain ⟨H3, hr3, st3⟩ := hfit.ok H2 (.cons hrv .nil)
  have kp3 := kp.trans (Keeps.pick hτ)
  have st4 := st.trans st3
  generalize pickB τ μ' = μf at *
  have hrv3 : Rel R' μf ret v := by cases hr3 with | cons h _ => exact h
  obtain ⟨l1, l2, l3⟩ := leave H hBin st4
  -- nothing of what is lent stays in the results
  have hboth : Rel (unlend Bs R') μf ret v ∧ HRel (unlend Bs R') w' μf obj (μf.take obj.length) ∧ HRel (unlend Bs R') w' μf cs (μf.drop obj.length) := by
    obtain ⟨s1, s2⟩ := H3.rel.split
    rcases hrf with hrf | hrf
    · rw [hrf] at hBs
      simp only [lentB] at hBs
      subst hBs
      rw [unlend_nil]
      exact ⟨hrv3, s1, s2⟩
    · simp only [Bool.and_eq_true] at hrf
      exact ⟨hrv3.rf hrf.1.1, HRel.rf hrf.1.2 s1, HRel.rf hrf.2 s2⟩
  obtain ⟨b1, b2, b3⟩ := hboth
  have hnd := H3.nodup
  have hown3 := H3.own
  rw [ownH_split] at hnd hown3 st4
  rw [ho] at b2 b3 hnd hown3 st4
  have hfl : μf.length = σ.length + cs.length := by rw [← H3.rel.len, List.length_append, ho]
  have hma : (μf.take σ.length).length = σ.length := by simp; omega
  generalize hmA : μf.take σ.length = ma at *
  generalize hmB : μf.drop σ.length = mb at *
  rw [List.nodup_append] at hnd
  -- the caller's tags
  have hext0 : Ext μ (setML μ σ ma) := setML_ext σ ma μ hσ fun i t B hi hB => by
    have hlt : i < σ.length := (List.getElem?_eq_some_iff.1 hi).1
    obtain ⟨B', h1, h2⟩ := kp3.get hlt (pickB_get hi hB)
    exact ⟨B', by rw [← hmA, List.getElem?_take, if_pos hlt]; exact h1, h2⟩
  have hext : Ext μ (setML μ σ ma ++ mb) := hext0.trans (Ext.app _ _)
  have hren : ∀ (j : Nat) (B : Bind), μf[j]? = some B → (setML μ σ ma ++ mb)[rhoC σ h.length j]? = some B := by
    intro j B hj
    unfold rhoC
    split
    · rename_i hlt
      have hjt : σ[j]? = some (σ.getD j 0) := by simp [List.getD_eq_getElem?_getD, hlt]
      have htl := hσlt _ (List.mem_of_getElem? hjt)
      rw [List.getElem?_append_left (by rw [setML_len]; exact htl), setML_at σ ma μ j _ hσ hjt htl hma, ← hmA, List.getElem?_take, if_pos hlt]
      exact hj
    · rename_i hge
      rw [List.getElem?_append_right (by rw [setML_len]; omega), setML_len, hlen, ← hmB, List.getElem?_drop]
      rw [← hj]
      congr 1
      omega
  -- the memory that was not handed over
  obtain ⟨G1, G2, G3⟩ := H.goneH σ
  have hgo : ∀ b ∈ ownH (goneH h σ) μ, b ∉ ownH lh (pickB σ μ) := fun b hb hx => by
    obtain ⟨t, ht, c, B, e1, e2, e3⟩ := f3 b hx
    exact G3 t ht c B e1 e2 b e3 hb
  have hgrel : HRel (unlend Bs R') w' (setML μ σ ma ++ mb) (goneH h σ) μ :=
    HRel.keep l1 hext _ _ G1.rel fun n hn => st4.out n (G1.own n hn).1 (hgo n hn)
  have hrel : HRel (unlend Bs R') w' (setML μ σ ma ++ mb) (setHL (goneH h σ) σ (renCs (rhoC σ h.length) obj) ++ renCs (rhoC σ h.length) cs) (setML μ σ ma ++ mb) :=
    HRel.app (HRel.puts σ (b2.ren hren) hgrel) (b3.ren hren)
  have hcl : (renCs (rhoC σ h.length) obj).length = ma.length := by
    have key : ∀ l : List Ch, (renCs (rhoC σ h.length) l).length = l.length := by
      intro l
      induction l with
      | nil => rfl
      | cons c l ih => simp [renCs, ih]
    rw [key, ho, hma]
  have hownc : ownH (setHL (goneH h σ) σ (renCs (rhoC σ h.length) obj) ++ renCs (rhoC σ h.length) cs) (setML μ σ ma ++ mb) = ownH (setHL (goneH h σ) σ (renCs (rhoC σ h.length) obj)) (setML μ σ ma) ++ ownH cs mb := by
    rw [ownH_app _ _ _ _ (by rw [setHL_len, setML_len, goneH_len, hlen]), renCs_own]
  -- what is new or was handed over is not among the rest
  have hfar : ∀ b, b ∈ ownH obj ma ∨ b ∈ ownH cs mb → b ∉ ownH (goneH h σ) μ := fun b hb hx => by
    have hb' : b ∈ ownH obj ma ++ ownH cs mb := List.mem_append.2 hb
    rcases st4.own b hb' with h1 | h1
    · exact hgo b hx h1
    · have := (G1.own b hx).1
      omega
  have hset : ∀ b ∈ ownH (setHL (goneH h σ) σ (renCs (rhoC σ h.length) obj)) (setML μ σ ma), b ∈ ownH obj ma ∨ b ∈ ownH (goneH h σ) μ := fun b hb => by
    have := own_puts σ hcl b hb
    rwa [renCs_own] at this
  have hnone : ∀ b, (R b = none ∧ b < w.heap.size ∧ b ∉ ownH lh (pickB σ μ)) ∨ R' b = none → unlend Bs R' b = none := fun b hb => by
    cases hu : unlend Bs R' b with
    | none => rfl
    | some o =>
      rcases hb with ⟨hb1, hb2, hb3⟩ | hb
      · rcases l3 b o hu with h1 | h1 | h1
        · rw [hb1] at h1; cases h1
        · exact absurd h1 hb3
        · omega
      · have := l2 b o hu
        rw [hb] at this
        cases this
  refine ⟨v, unlend Bs R', setML μ σ ma ++ mb, _, _, rfl, HK, b1.ren hren, ⟨hrel, ?_, fun b hb => ?_, fun b o hb => H3.ro b o (l2 b o hb)⟩, hext, ?_⟩
  · rw [hownc, List.nodup_append]
    refine ⟨own_puts_nodup σ hcl (by rw [renCs_own]; exact hnd.1) G1.nodup (fun b hb => by rw [renCs_own] at hb; exact hfar b (.inl hb)), hnd.2.1, fun b hb b' hb' e => ?_⟩
    subst e
    rcases hset b hb with h1 | h1
    · exact hnd.2.2 b h1 b hb' rfl
    · exact hfar b (.inr hb') h1
  · rw [hownc, List.mem_append] at hb
    have cases3 : (b ∈ ownH obj ma ++ ownH cs mb) ∨ b ∈ ownH (goneH h σ) μ := by
      rcases hb with hb | hb
      · rcases hset b hb with h1 | h1
        · exact .inl (List.mem_append.2 (.inl h1))
        · exact .inr h1
      · exact .inl (List.mem_append.2 (.inr hb))
    rcases cases3 with h1 | h1
    · exact ⟨(hown3 b h1).1, hnone b (.inr (hown3 b h1).2)⟩
    · exact ⟨Nat.lt_of_lt_of_le (G1.own b h1).1 st4.size, hnone b (.inl ⟨(G1.own b h1).2, (G1.own b h1).1, hgo b h1⟩)⟩
  · refine ⟨l1, st4.size, fun b hb hx => st4.out b hb fun hy => hx (hlsub b hy).1, fun b hb => ?_, fun b o hb => ?_, st4.os, st4.tape, st4.output⟩
    · rw [hownc, List.mem_append] at hb
      have cases3 : (b ∈ ownH obj ma ++ ownH cs mb) ∨ b ∈ ownH (goneH h σ) μ := by
        rcases hb with hb | hb
        · rcases hset b hb with h1 | h1
          · exact .inl (List.mem_append.2 (.inl h1))
          · exact .inr h1
        · exact .inl (List.mem_append.2 (.inr hb))
      rcases cases3 with h1 | h1
      · rcases st4.own b h1 with h2 | h2
        · exact .inl (hlsub b h2).1
        · exact .inr h2
      · exact .inl (G2 b h1)
    · rcases l3 b o hb with h1 | h1 | h1
      · exact .inl h1
      · exact .inr (.inl (hlsub b h1).1)
      · exact .inr (.inr h1)

/-! ### Results are frozen -/
def frzLX : List AV → List Ch → (List AV → List Ch → Prop) → Prop
  | [], h, K => K [] h
  | x :: l, h, K => frzX x h fun x h => frzLX l h fun l h => K (x :: l) h
def frzV (x : AV) (h : List Ch) (K : AV → List Ch → Prop) : Prop :=
  match x with
  | .tup l => frzLX l h fun l h => K (.tup l) h
  | x => frzX x h K
theorem frzLX_ok : ∀ {l : List AV} {vs : List Value} {R : RO} {h : List Ch} {K : List AV → List Ch → Prop}, HOk R μ h w → LRel R μ l vs → frzLX l h K → Ghost R μ h w fun R' h' => ∃ l', K l' h' ∧ LRel R' μ l' vs
  | [], _, R, h, K, H, hl, hK => by cases hl; exact ⟨R, h, ⟨[], hK, .nil⟩, H, RO.le.refl R, Step.refl _ _ _⟩
  | a :: l, _, R, h, K, H, hl, hK => by
    cases hl with
    | cons ha hl =>
      refine (frzX_ok H ha hK).next fun R1 h1 ⟨a', hK1, ha'⟩ H1 le1 => ?_
      refine (frzLX_ok H1 (hl.mono le1 (Ext.refl μ)) hK1).next fun R2 h2 ⟨l', hK2, hl'⟩ H2 le2 => ?_
      exact ⟨R2, h2, ⟨_, hK2, .cons (ha'.mono le2 (Ext.refl μ)) hl'⟩, H2, RO.le.refl _, Step.refl _ _ _⟩
theorem frzV_ok (H : HOk R μ h w) {x : AV} {v : Value} {K : AV → List Ch → Prop} (hx : Rel R μ x v) (hK : frzV x h K) : Ghost R μ h w fun R' h' => ∃ x', K x' h' ∧ Rel R' μ x' v := by
  unfold frzV at hK
  split at hK
  · cases hx with
    | tup hl => exact (frzLX_ok H hl hK).next fun R1 h1 ⟨l', hK1, hl'⟩ H1 le1 => ⟨R1, h1, ⟨_, hK1, .tup hl'⟩, H1, RO.le.refl _, Step.refl _ _ _⟩
  · exact frzX_ok H hx hK
theorem DoesK.frz {k : Nat} {g : FuncId} {as : List AV} {K : KT} (H : DoesK P k g as h fun v h' => frzV v h' K) : DoesK P k g as h K :=
  ⟨H.here, fun R μ w vs hv H0 hk => (H.run R μ w vs hv H0 hk).mono fun e w' hr => by
    obtain ⟨v, R', μ', h', av, rfl, h1, h2, h3, h4, h5⟩ := hr
    obtain ⟨R2, h2', ⟨x', hx, hrel⟩, H2, le2, st2⟩ := frzV_ok h3 h2 h1
    exact ⟨v, R2, μ', h2', x', rfl, hx, hrel, H2, h4, h5.trans st2⟩⟩
theorem Does.frz {g : FuncId} {as : List AV} {K : KT} (H : Does P g as h fun v h' => frzV v h' K) : Does P g as h K :=
  ⟨H.here, fun R μ w vs hv H0 => (H.run R μ w vs hv H0).mono fun e w' hr => by
    obtain ⟨v, R', μ', h', av, rfl, h1, h2, h3, h4, h5⟩ := hr
    obtain ⟨R2, h2', ⟨x', hx, hrel⟩, H2, le2, st2⟩ := frzV_ok h3 h2 h1
    exact ⟨v, R2, μ', h2', x', rfl, hx, hrel, H2, h4, h5.trans st2⟩⟩
theorem DoesK.close {k : Nat} {g : FuncId} {as : List AV} {K : KT} (H : DoesK P k g as h fun v h' => ∃ v' h2, Gh [v] h' [v'] h2 ∧ K v' h2) : DoesK P k g as h K :=
  ⟨H.here, fun R μ w vs hv H0 hk => (H.run R μ w vs hv H0 hk).mono fun e w' hr => by
    obtain ⟨v, R', μ', h', av, rfl, ⟨v', h2', hcl, h1⟩, h2, h3, h4, h5⟩ := hr
    obtain ⟨Rc, μc, Hc, stc, ec, fc⟩ := hcl R' μ' w' [v] h3 (.cons h2 .nil)
    have hv' : Rel Rc μc v' v := by cases fc [v] (.cons h2 .nil) with | cons h _ => exact h
    exact ⟨v, Rc, μc, h2', v', rfl, h1, hv', Hc, h4.trans (Keeps.ext h4.len ec), h5.trans stc⟩⟩
theorem Does.after {g : FuncId} {as : List AV} {K : KT} (H : Does P g as h fun v h' => ∃ v' h2, Gh [v] h' [v'] h2 ∧ K v' h2) : Does P g as h K :=
  ⟨H.here, fun R μ w vs hv H0 => (H.run R μ w vs hv H0).mono fun e w' hr => by
    obtain ⟨v, R', μ', h', av, rfl, ⟨v', h2', hcl, h1⟩, h2, h3, h4, h5⟩ := hr
    obtain ⟨Rc, μc, Hc, stc, ec, fc⟩ := hcl R' μ' w' [v] h3 (.cons h2 .nil)
    have hv' : Rel Rc μc v' v := by cases fc [v] (.cons h2 .nil) with | cons h _ => exact h
    exact ⟨v, Rc, μc, h2', v', rfl, h1, hv', Hc, h4.trans ec, h5.trans stc⟩⟩
end Go.V
