/-
  Maps: made, looked up, updated, shortened; how many entries.
-/
import Derived.Test.YtpnfoffggcfhfaaPart04
import Derived.MapKept
set_option linter.unusedVariables false
set_option linter.unusedSimpArgs false
namespace Go.V
open Go.MapKept

variable {P : Program} {R : RO} {μ : List Bind} {h : List Ch} {w : World}

def KTy.of : (k : KTy) → AV → Option k.T
  | .int, .int .i64 n => some n
  | .str, .str s => some s
  | _, _ => none
def KTy.kd : KTy → Kd
  | .int => .int .i64
  | .str => .str
def KTy.val : (k : KTy) → k.T → Value
  | .int, n => .int .i64 n
  | .str, s => .string ⟨s.toArray⟩
def KTy.desc : KTy → TypeDesc
  | .int => .int .i64
  | .str => .string
theorem KTy.av_val {k : KTy} {x : k.T} {v : Value} (h : Rel R μ (k.av x) v) : v = k.val x := by
  cases k <;> cases h <;> rfl
theorem KTy.of_av {k : KTy} {a : AV} {x : k.T} (h : k.of a = some x) : a = k.av x := by
  unfold KTy.of at h
  split at h <;> simp at h <;> subst h <;> rfl
theorem KTy.und {k : KTy} {t : TypeId} (h : kdT P t = k.kd) : P.underlying t = some k.desc := by
  unfold kdT at h
  cases k <;> simp only [KTy.kd] at h <;> split at h <;> simp_all [KTy.desc]
theorem KTy.isKey {k : KTy} (x : k.T) : IsKey k.desc (k.val x) := by
  cases k
  · rfl
  · trivial
theorem KTy.same {k : KTy} (x y : k.T) : Instr.sameNow k.desc (k.val x) (k.val y) = some (decide (x = y)) := by
  cases k
  · simp [KTy.desc, KTy.val, Instr.sameNow]
    rfl
  · simp only [KTy.desc, KTy.val, Instr.sameNow, Option.some.injEq]
    rw [Bool.eq_iff_iff, bytes_beq]
    simp
theorem valA_one {e : Ety} {y : e.T} {a : AV} (h : e.enc y = [a]) : valA e y = a := by
  unfold valA
  rw [h]
theorem valA_agg {e : Ety} {y : e.T} (h : e.sz ≠ 1) : valA e y = .agg (e.enc y) := by
  have hl := e.enc_len y
  unfold valA
  split
  · rename_i a ha
    rw [ha] at hl
    simp at hl
    omega
  · rfl
/-- an element out of one value -/
def decV (e : Ety) : AV → Option e.T
  | .agg l => if e.sz = 1 then none else e.dec l
  | a => e.dec [a]
def okV (e : Ety) (a : AV) : Prop := e.decOk (cellsA a)
theorem decV_ok {e : Ety} {a : AV} {y : e.T} {v : Value} (hr : Rel R μ a v) (h : decV e a = some y) (ho : okV e a) : Rel R [] (valA e y) v := by
  unfold decV at h
  split at h
  · rename_i l
    split at h
    · simp at h
    · rename_i hz
      cases hr with
      | agg hl =>
        have h1 := (e.dec_ok h ho hl).free (e.enc_tf y) []
        rw [valA_agg hz]
        exact .agg h1
  · rename_i hna
    have ho' : e.decOk [a] := by
      unfold okV cellsA at ho
      split at ho
      · rename_i l; exact (hna l rfl).elim
      · exact ho
    have h1 := (e.dec_ok h ho' (.cons hr .nil)).free (e.enc_tf y) []
    have hl := dec_len e [a] y h
    have h2 : ∃ b, e.enc y = [b] := by
      have := e.enc_len y
      match hb : e.enc y, this with
      | [b], _ => exact ⟨b, rfl⟩
      | [], h3 => simp at h3; simp at hl; omega
      | _ :: _ :: _, h3 => simp at h3; simp at hl; omega
    obtain ⟨b, hb⟩ := h2
    rw [hb] at h1
    rw [valA_one hb]
    cases h1 with
    | cons h3 _ => exact h3
/-- the entries that lie there, and those that are said -/
def MRel (R : RO) (k : KTy) (e : Ety) (kv : List (k.T × e.T)) (es : List MapEntry) : Prop :=
  LRel R [] (kv.map fun p => k.av p.1) (es.map (·.key)) ∧ LRel R [] (kv.map fun p => valA e p.2) (es.map (·.val))
theorem MRel.nil_inv {k : KTy} {e : Ety} {es : List MapEntry} (h : MRel R k e [] es) : es = [] := by
  have h1 := h.1.len
  simpa using h1.symm
theorem MRel.cons_inv {k : KTy} {e : Ety} {p : k.T × e.T} {kv : List (k.T × e.T)} {es : List MapEntry} (h : MRel R k e (p :: kv) es) : ∃ x r, es = x :: r ∧ x.key = k.val p.1 ∧ Rel R [] (valA e p.2) x.val ∧ MRel R k e kv r := by
  obtain ⟨h1, h2⟩ := h
  cases es with
  | nil => cases h1
  | cons x r =>
    simp only [List.map_cons] at h1 h2
    cases h1 with
    | cons a1 a2 =>
      cases h2 with
      | cons b1 b2 => exact ⟨x, r, rfl, KTy.av_val a1, b1, a2, b2⟩
theorem MRel.cons {k : KTy} {e : Ety} {p : k.T × e.T} {kv : List (k.T × e.T)} {x : MapEntry} {es : List MapEntry} (h1 : x.key = k.val p.1) (h2 : Rel R [] (valA e p.2) x.val) (h : MRel R k e kv es) : MRel R k e (p :: kv) (x :: es) := by
  refine ⟨?_, .cons h2 h.2⟩
  simp only [List.map_cons, h1]
  refine .cons ?_ h.1
  cases k
  · exact .int
  · exact .str
theorem MRel.mono {R' : RO} (hR : R.le R') {k : KTy} {e : Ety} {kv : List (k.T × e.T)} {es : List MapEntry} (h : MRel R k e kv es) : MRel R' k e kv es := ⟨h.1.mono hR (Ext.refl _), h.2.mono hR (Ext.refl _)⟩
theorem MRel.find {k : KTy} {e : Ety} (x : k.T) : ∀ {kv : List (k.T × e.T)} {es : List MapEntry} (i : Nat), MRel R k e kv es →
    (mget kv x = none ∧ Instr.findNow k.desc (k.val x) es i = some none ∧ (∀ y, mset kv x y = kv ++ [(x, y)]) ∧ mdel kv x = kv) ∨
    ∃ (j : Nat) (y : e.T) (v : Value) (n : MapEntry), mget kv x = some y ∧ Instr.findNow k.desc (k.val x) es i = some (some (i + j, v)) ∧ es[j]? = some n ∧ n.key = k.val x ∧ Rel R [] (valA e y) v ∧
      (∀ (y' : e.T) (v' : Value), Rel R [] (valA e y') v' → MRel R k e (mset kv x y') (es.modify j fun n => { n with key := k.val x, val := v' })) ∧ MRel R k e (mdel kv x) (es.eraseIdx j)
  | [], es, i, h => by
    rw [h.nil_inv]
    exact .inl ⟨rfl, rfl, fun _ => rfl, rfl⟩
  | p :: kv, es, i, h => by
    obtain ⟨n, r, rfl, h1, h2, h3⟩ := h.cons_inv
    have hs := KTy.same (k := k) x p.1
    by_cases e1 : p.1 = x
    · refine .inr ⟨0, p.2, n.val, n, by simp [mget, e1], ?_, rfl, by rw [h1, e1], h2, fun y' v' hv => ?_, ?_⟩
      · rw [Instr.findNow, h1, hs]
        simp [e1]
      · simp only [mset, e1, if_true, List.modify_zero_cons]
        exact .cons rfl hv h3
      · simp only [mdel, e1, if_true, List.eraseIdx_cons_zero]
        exact h3
    · have e2 : ¬ x = p.1 := fun q => e1 q.symm
      rcases MRel.find x (i + 1) h3 with ⟨a1, a2, a3, a4⟩ | ⟨j, y, v, m, a1, a2, a3, a4, a5, a6, a7⟩
      · refine .inl ⟨by simp [mget, e1, a1], ?_, fun y => by simp [mset, e1, a3], by simp [mdel, e1, a4]⟩
        simp only [Instr.findNow, h1, hs, e2, decide_false, a2]
      · refine .inr ⟨j + 1, y, v, m, by simp [mget, e1, a1], ?_, by simpa using a3, a4, a5, fun y' v' hv => ?_, ?_⟩
        · simp only [Instr.findNow, h1, hs, e2, decide_false, a2]
          simp
          omega
        · simp only [mset, e1, if_false, List.modify_succ_cons]
          exact .cons h1 h2 (a6 y' v' hv)
        · simp only [mdel, e1, if_false, List.eraseIdx_cons_succ]
          exact .cons h1 h2 a7
/-- the zero value as one -/
def zeroV (P : Program) (t : TypeId) : Option AV := match P.info? t with
  | some i => (match i.zero with
    | some (.agg cs) => some (.agg (cs.toList.map ofV))
    | some v => some (ofV v)
    | none => none)
  | none => none
def zokV (P : Program) (e : Ety) (t : TypeId) : Prop := match zeroV P t with
  | some z => decV e z = some e.dflt ∧ okV e z
  | none => False
theorem zokV_ok {e : Ety} {t : TypeId} (h : zokV P e t) : ∃ z, Rel R [] (valA e e.dflt) z ∧ ∀ w, (zeroValue t).run P w = .ok z w := by
  unfold zokV at h
  split at h
  · rename_i a ha
    unfold zeroV at ha
    split at ha
    · rename_i i hi
      split at ha
      · rename_i cs hz
        simp only [Option.some.injEq] at ha
        subst ha
        exact ⟨.agg cs, decV_ok (μ := []) (.agg (vs := cs.toList) (ofV_rels R [] cs.toList)) h.1 h.2, fun w => by simp [zeroValue, typeInfo, hi, hz]⟩
      · rename_i v _ hz
        simp only [Option.some.injEq] at ha
        subst ha
        exact ⟨_, decV_ok (μ := []) (ofV_rel R [] v) h.1 h.2, fun w => by simp [zeroValue, typeInfo, hi, hz]⟩
      · simp at ha
    · simp at ha
  · exact h.elim
section
variable {k : KTy} {e : Ety}
theorem mget_mem : ∀ {l : List (k.T × e.T)} {x : k.T} {y : e.T}, (l.map (·.1)).Nodup → (mget l x = some y ↔ (x, y) ∈ l)
  | [], x, y, _ => by simp [mget]
  | p :: l, x, y, h => by
    simp only [List.map_cons, List.nodup_cons] at h
    by_cases hp : p.1 = x
    · subst hp
      simp only [mget, if_true, Option.some.injEq, List.mem_cons]
      constructor
      · intro q; left; rw [← q]
      · rintro (q | q)
        · rw [← q]
        · exact absurd (List.mem_map.2 ⟨_, q, rfl⟩) h.1
    · simp only [mget, if_neg hp, List.mem_cons]
      rw [mget_mem h.2]
      constructor
      · exact .inr
      · rintro (q | q)
        · exact absurd (by rw [← q]) hp
        · exact q
theorem mget_same {l m : List (k.T × e.T)} (h : Same l m) (x : k.T) : mget l x = mget m x := by
  have h2 : (m.map (·.1)).Nodup := (h.1.map _).nodup_iff.1 h.2
  apply Option.ext
  intro y
  rw [mget_mem h.2, mget_mem h2, h.1.mem_iff]
theorem mset_keys : ∀ (l : List (k.T × e.T)) (x : k.T) (y : e.T), (mset l x y).map (·.1) = if x ∈ l.map (·.1) then l.map (·.1) else l.map (·.1) ++ [x]
  | [], x, y => by simp [mset]
  | p :: l, x, y => by
    by_cases hp : p.1 = x
    · simp [mset, hp]
    · have hp' : ¬ x = p.1 := fun q => hp q.symm
      simp only [mset, if_neg hp, List.map_cons, mset_keys l x y, List.mem_cons, hp', false_or]
      split <;> rfl
theorem mset_perm : ∀ {l : List (k.T × e.T)} {x : k.T} {y : e.T}, (l.map (·.1)).Nodup → (mset l x y).Perm ((x, y) :: l.filter fun p => !decide (p.1 = x))
  | [], x, y, _ => by simp [mset]
  | p :: l, x, y, h => by
    simp only [List.map_cons, List.nodup_cons] at h
    by_cases hp : p.1 = x
    · have : l.filter (fun p => !decide (p.1 = x)) = l := by
        rw [List.filter_eq_self]
        intro q hq
        simp only [Bool.not_eq_true', decide_eq_false_iff_not]
        intro e'
        exact h.1 (by rw [hp, ← e']; exact List.mem_map.2 ⟨q, hq, rfl⟩)
      rw [mset, if_pos hp, List.filter_cons, if_neg (by simp [hp]), this]
    · rw [mset, if_neg hp, List.filter_cons, if_pos (by simp [hp])]
      exact ((mset_perm h.2).cons p).trans (List.Perm.swap _ _ _)
theorem mdel_filter : ∀ {l : List (k.T × e.T)} {x : k.T}, (l.map (·.1)).Nodup → mdel l x = l.filter fun p => !decide (p.1 = x)
  | [], x, _ => rfl
  | p :: l, x, h => by
    simp only [List.map_cons, List.nodup_cons] at h
    by_cases hp : p.1 = x
    · have : l.filter (fun p => !decide (p.1 = x)) = l := by
        rw [List.filter_eq_self]
        intro q hq
        simp only [Bool.not_eq_true', decide_eq_false_iff_not]
        intro e'
        exact h.1 (by rw [hp, ← e']; exact List.mem_map.2 ⟨q, hq, rfl⟩)
      rw [mdel, if_pos hp, List.filter_cons, if_neg (by simp [hp]), this]
    · rw [mdel, if_neg hp, List.filter_cons, if_pos (by simp [hp]), mdel_filter h.2]
theorem same_set {l m : List (k.T × e.T)} (h : Same l m) (x : k.T) (y : e.T) : Same (mset l x y) (mset m x y) := by
  have h2 : (m.map (·.1)).Nodup := (h.1.map _).nodup_iff.1 h.2
  refine ⟨(mset_perm h.2).trans (((h.1.filter _).cons _).trans (mset_perm h2).symm), ?_⟩
  rw [mset_keys]
  split
  · exact h.2
  · rename_i hx
    rw [List.nodup_append]
    exact ⟨h.2, by simp, fun a ha b hb e' => by rw [List.mem_singleton] at hb; subst hb; subst e'; exact hx ha⟩
theorem same_del {l m : List (k.T × e.T)} (h : Same l m) (x : k.T) : Same (mdel l x) (mdel m x) := by
  have h2 : (m.map (·.1)).Nodup := (h.1.map _).nodup_iff.1 h.2
  rw [mdel_filter h.2, mdel_filter h2]
  exact ⟨h.1.filter _, h.2.sublist (List.Sublist.map _ List.filter_sublist)⟩
end
/-- the result of looking up -/
def lookR (c : Bool) (a : AV) (b : Bool) : AV := if c then .tup [a, .bool b] else a
def lookupK (P : Program) (t : TypeId) (x i : AV) (c : Bool) (h : List Ch) (K : AV → Prop) : Prop :=
  match kdT P t, x with
  | .map kt et, .mp g => (match hth h g with
    | .map k e kv => (match k.of i with
      | some n => (kdT P kt = k.kd ∧ zokV P e et) ∧ K (lookR c (valA e ((mget kv n).getD e.dflt)) (mget kv n).isSome)
      | none => False)
    | _ => False)
  | _, _ => False
theorem kd_map {t kt et : TypeId} (h : kdT P t = .map kt et) : P.underlying t = some (.map kt et) := by
  unfold kdT at h
  split at h <;> simp_all
theorem map_at {g n : Nat} {k : KTy} {e : Ety} {kv : List (k.T × e.T)} (H : HOk R μ h w) (hg : μ[g]? = some (.mp n)) (hc : h[g]? = some (.map k e kv)) : ∃ es clock kv0, w.heap[n]? = some (.map es clock) ∧ MRel R k e kv0 es.toList ∧ Born es clock ∧ Same kv0 kv := by
  obtain ⟨B, h1, h2, _⟩ := H.rel.get hc
  rw [hg] at h1
  cases h1
  obtain ⟨m, es, clock, kv0, h3, h4, h5, h6, h7, h8⟩ := h2
  cases h3
  exact ⟨es, clock, kv0, h4, ⟨h5, h6⟩, h7, h8⟩
theorem lookupK_ok (H : HOk R μ h w) {t : TypeId} {x i : AV} {vx vi : Value} {c : Bool} {K : AV → Prop} (hx : Rel R μ x vx) (hi : Rel R μ i vi) (hK : lookupK P t x i c h K) : ∃ v a, (Instr.lookup t vx vi c).run P w = .ok v w ∧ K a ∧ Rel R μ a v := by
  unfold lookupK at hK
  split at hK
  · rename_i kt et g hk
    split at hK
    · rename_i k e kv hc
      split at hK
      · rename_i n hn
        obtain ⟨⟨h1, h2⟩, hK⟩ := hK
        have hof := KTy.of_av hn
        subst hof
        have hv := KTy.av_val hi
        subst hv
        cases hx with
        | mp hm =>
          rename_i b
          obtain ⟨es, clock, kv0, h3, h4, _, hsm⟩ := map_at H hm (hth_get hc (by simp))
          rw [← mget_same hsm n] at hK
          obtain ⟨z, h5, h6⟩ := zokV_ok (R := R) h2
          have hu := KTy.und h1
          have hck := run_checkKey (w := w) hu (KTy.isKey n) es.isEmpty 9999
          rcases MRel.find n 0 h4 with ⟨a1, a2, _, _⟩ | ⟨j, y, v, m, a1, a2, a3, a4, a5, _, _⟩
          · have hf := run_findKey (w := w) hu a2
            refine ⟨if c then .tuple #[z, .bool false] else z, _, ?_, hK, ?_⟩
            · unfold Instr.lookup
              simp [run_underlying (kd_map hk), Go.MapKept.run_getObj_map h3, hck, hf, h6, Result.andThen]
            · rw [a1]
              cases c
              · exact h5.mono (RO.le.refl R) (Ext.nil μ)
              · exact .tup (.cons (h5.mono (RO.le.refl R) (Ext.nil μ)) (.cons .bool .nil))
          · have hf := run_findKey (w := w) hu a2
            refine ⟨if c then .tuple #[v, .bool true] else v, _, ?_, hK, ?_⟩
            · unfold Instr.lookup
              simp [run_underlying (kd_map hk), Go.MapKept.run_getObj_map h3, hck, hf, Result.andThen]
            · rw [a1]
              cases c
              · exact a5.mono (RO.le.refl R) (Ext.nil μ)
              · exact .tup (.cons (a5.mono (RO.le.refl R) (Ext.nil μ)) (.cons .bool .nil))
      · exact hK.elim
    · exact hK.elim
  · exact hK.elim
def mupdK (P : Program) (t : TypeId) (m i x : AV) (h : List Ch) (K : List Ch → Prop) : Prop :=
  match kdT P t, m with
  | .map kt _, .mp g => (match hth h g with
    | .map k e kv => (match k.of i, decV e x with
      | some n, some y => (kdT P kt = k.kd ∧ okV e x) ∧ K (h.set g (.map k e (mset kv n y)))
      | _, _ => False)
    | _ => False)
  | _, _ => False
theorem born_push {es : Array MapEntry} {clock : Nat} {x v : Value} (h : Born es clock) : Born (es.push { key := x, val := v, born := clock }) (clock + 1) := by
  refine ⟨fun y hy => ?_, ?_⟩
  · rw [Array.toList_push, List.mem_append, List.mem_singleton] at hy
    rcases hy with hy | rfl
    · have := h.1 y hy; omega
    · exact Nat.lt_succ_self _
  · rw [Array.toList_push, List.map_append, List.nodup_append]
    refine ⟨h.2, by simp, fun a ha b hb e => ?_⟩
    simp only [List.map_cons, List.map_nil, List.mem_singleton] at hb
    obtain ⟨y, hy, rfl⟩ := List.mem_map.1 ha
    have := h.1 y hy
    omega
theorem born_map {j : Nat} {f : MapEntry → MapEntry} (hf : ∀ x, (f x).born = x.born) : ∀ l : List MapEntry, (l.modify j f).map (·.born) = l.map (·.born) := by
  induction j with
  | zero =>
    intro l
    cases l with
    | nil => rfl
    | cons a l => simp [hf]
  | succ j ih =>
    intro l
    cases l with
    | nil => rfl
    | cons a l => simp only [List.modify_succ_cons, List.map_cons, ih]
theorem born_modify {es : Array MapEntry} {clock j : Nat} {x v : Value} (h : Born es clock) : Born (es.modify j fun q => { q with key := x, val := v }) clock := by
  have e := born_map (j := j) (f := fun q => { q with key := x, val := v }) (fun _ => rfl) es.toList
  refine ⟨fun y hy => ?_, ?_⟩
  · have : y.born ∈ es.toList.map (·.born) := by rw [← e, ← Array.toList_modify]; exact List.mem_map.2 ⟨y, hy, rfl⟩
    obtain ⟨z, hz, hzy⟩ := List.mem_map.1 this
    have := h.1 z hz
    omega
  · rw [Array.toList_modify, e]; exact h.2
theorem born_eraseIdx {es : Array MapEntry} {clock j : Nat} (h : Born es clock) : Born (es.eraseIdxIfInBounds j) clock := by
  rw [Array.eraseIdxIfInBounds]
  split
  · refine ⟨fun y hy => h.1 y ?_, ?_⟩
    · rw [Array.toList_eraseIdx] at hy
      exact (List.eraseIdx_sublist _ _).subset hy
    · rw [Array.toList_eraseIdx]
      exact h.2.sublist ((List.eraseIdx_sublist _ _).map _)
  · exact h
/-- a map's block is written anew -/
theorem map_put {g b : Nat} {k : KTy} {e : Ety} {kv kv' kv0' : List (k.T × e.T)} {es es' : Array MapEntry} {clock clock' : Nat} (H : HOk R μ h w) (hm : μ[g]? = some (.mp b)) (hc : h[g]? = some (.map k e kv)) (hb : w.heap[b]? = some (.map es clock)) (hr : MRel R k e kv0' es'.toList) (hbn : Born es' clock') (hsm : Same kv0' kv') :
    HOk R μ (h.set g (.map k e kv')) { w with heap := w.heap.setIfInBounds b (.map es' clock') } ∧ Step (ownH h μ) R w (ownH (h.set g (.map k e kv')) μ) R { w with heap := w.heap.setIfInBounds b (.map es' clock') } := by
  obtain ⟨k1, k2⟩ := heap_set (o' := .map es' clock') hb
  exact H.set hc hm (List.Sublist.refl _) (fun n _ hn => k2 n fun q => hn (by simp [ownC, q])) (by simp) ⟨b, es', clock', kv0', rfl, k1, hr.1, hr.2, hbn, hsm⟩ rfl rfl rfl
theorem MRel.snoc {k : KTy} {e : Ety} {n : k.T} {y : e.T} {v : Value} {c : Nat} (hv : Rel R [] (valA e y) v) : ∀ {kv : List (k.T × e.T)} {es : List MapEntry}, MRel R k e kv es → MRel R k e (kv ++ [(n, y)]) (es ++ [{ key := k.val n, val := v, born := c }])
  | [], es, h => by
    rw [h.nil_inv]
    exact .cons rfl hv ⟨.nil, .nil⟩
  | p :: kv, es, h => by
    obtain ⟨x, r, rfl, h1, h2, h3⟩ := h.cons_inv
    exact .cons h1 h2 (MRel.snoc hv h3)
theorem mupdK_ok (H : HOk R μ h w) {t : TypeId} {m i x : AV} {vm vi vx : Value} {K : List Ch → Prop} (hm : Rel R μ m vm) (hi : Rel R μ i vi) (hx : Rel R μ x vx) (hK : mupdK P t m i x h K) : ∃ w' h', (Instr.mapUpdate t vm vi vx).run P w = .ok () w' ∧ K h' ∧ HOk R μ h' w' ∧ Step (ownH h μ) R w (ownH h' μ) R w' := by
  unfold mupdK at hK
  split at hK
  · rename_i kt et g hk
    split at hK
    · rename_i k e kv hc
      split at hK
      · rename_i n y hn hy
        obtain ⟨⟨h1, h2⟩, hK⟩ := hK
        have hof := KTy.of_av hn
        subst hof
        have hv := KTy.av_val hi
        subst hv
        cases hm with
        | mp hm =>
          rename_i b
          have hcg := hth_get hc (by simp)
          obtain ⟨es, clock, kv0, h3, h4, hbn, hsm⟩ := map_at H hm hcg
          have hsm' := same_set hsm n y
          have hu := KTy.und h1
          have hck := run_checkKey (w := w) hu (KTy.isKey n) false 9999
          have hyv := decV_ok hx hy h2
          rcases MRel.find n 0 h4 with ⟨a1, a2, a3, _⟩ | ⟨j, y', v, q, a1, a2, a3, a4, a5, a6, _⟩
          · have hf := run_findKey (w := w) hu a2
            have hr : MRel R k e (mset kv0 n y) (es.push { key := k.val n, val := vx, born := clock }).toList := by
              rw [a3, Array.toList_push]
              exact .snoc hyv h4
            obtain ⟨H', hs⟩ := map_put (clock' := clock + 1) H hm hcg h3 hr (born_push hbn) hsm'
            refine ⟨_, _, ?_, hK, H', hs⟩
            unfold Instr.mapUpdate
            simp [run_underlying (kd_map hk), Go.MapKept.run_getObj_map h3, hck, hf, run_setObj_map _ h3, Result.andThen]
          · have hf := run_findKey (w := w) hu a2
            have hr : MRel R k e (mset kv0 n y) (es.modify j fun q => { q with key := k.val n, val := vx }).toList := by
              rw [Array.toList_modify]
              exact a6 y vx hyv
            obtain ⟨H', hs⟩ := map_put (clock' := clock) H hm hcg h3 hr (born_modify hbn) hsm'
            refine ⟨_, _, ?_, hK, H', hs⟩
            have hst := run_keyThatStays (P := P) (w := w) (KTy.isKey n)
            have hq : (es[j]?.map (·.key)).getD (k.val n) = k.val n := by
              have : es[j]? = some q := by simpa using a3
              rw [this]
              simp [a4]
            unfold Instr.mapUpdate
            simp only [Sem.run_bind, run_underlying (kd_map hk), Result.andThen_ok, Go.MapKept.run_getObj_map h3, hck, hf, Nat.zero_add, hq, hst, run_setObj_map _ h3]
      · exact hK.elim
    · exact hK.elim
  · exact hK.elim
/-- a new map -/
def mmapK [ETab] (P : Program) (t : TypeId) (r : Option AV) (h : List Ch) (K : AV → List Ch → Prop) : Prop :=
  match kdT P t, ETab.mof t, r with
  | .map _ _, some (k, e), none => K (.mp h.length) (h ++ [.map k e []])
  | .map _ _, some (k, e), some (.int _ _) => K (.mp h.length) (h ++ [.map k e []])
  | _, _, _ => False
theorem newMap (H : HOk R μ h w) {k : KTy} {e : Ety} :
    HOk R (μ ++ [.mp w.heap.size]) (h ++ [.map k e []]) (w.alloc (.map #[] 0)) ∧ Step (ownH h μ) R w (ownH (h ++ [.map k e []]) (μ ++ [.mp w.heap.size])) R (w.alloc (.map #[] 0)) :=
  H.push (fun n hn => RowKit.Below.heap_alloc w _ n hn) (by simp) (by simp [ownC]) (fun n hn => by simp [ownC] at hn; subst hn; simp)
    ⟨w.heap.size, #[], 0, [], rfl, heap_alloc_new w _, .nil, .nil, ⟨fun x hx => by simp at hx, by simp⟩, List.Perm.refl _, by simp⟩ rfl rfl rfl
theorem mp_new (H : HOk R μ h w) : Rel R (μ ++ [.mp w.heap.size]) (.mp h.length) (.map (some w.heap.size)) :=
  .mp (by rw [H.rel.len]; simp)
theorem mmapK_ok [ETab] (H : HOk R μ h w) {t : TypeId} {r : Option AV} {vr : Option Value} {K : AV → List Ch → Prop} (hr : match r, vr with | none, none => True | some a, some v => Rel R μ a v | _, _ => False) (hK : mmapK P t r h K) : GivesH P R μ h w K (Instr.makeMap t vr) := by
  unfold mmapK at hK
  split at hK
  · rename_i kt et k e hk _
    obtain ⟨H', hs⟩ := newMap H (k := k) (e := e)
    cases vr with
    | none => exact ⟨_, _, R, _, _, _, rfl, hK, mp_new H, H', Ext.app _ _, hs⟩
    | some v => exact hr.elim
  · rename_i kt et k e _ _ hk _
    obtain ⟨H', hs⟩ := newMap H (k := k) (e := e)
    cases vr with
    | none => exact hr.elim
    | some v =>
      replace hr : Rel R μ (.int _ _) v := hr
      cases hr
      exact ⟨_, _, R, _, _, _, (by
        have e1 : (newObj (.map #[] 0)).run P w = .ok w.heap.size (w.alloc (.map #[] 0)) := rfl
        simp only [Instr.makeMap, Sem.run_bind, run_underlying (kd_map hk), Result.andThen_ok, asInt, asIntOf, Sem.run_pure, e1]), hK, mp_new H, H', Ext.app _ _, hs⟩
  · exact hK.elim
def mdelK (P : Program) (t : TypeId) (m i : AV) (h : List Ch) (K : List Ch → Prop) : Prop :=
  match kdT P t, m with
  | .map kt _, .mp g => (match hth h g with
    | .map k e kv => (match k.of i with
      | some n => (kdT P kt = k.kd) ∧ K (h.set g (.map k e (mdel kv n)))
      | none => False)
    | _ => False)
  | _, _ => False
theorem mdelK_ok (H : HOk R μ h w) {t : TypeId} {m i : AV} {vm vi : Value} {ts : Array TypeId} {ty : TypeId} {K : List Ch → Prop} (ht : ts[0]? = some t) (hm : Rel R μ m vm) (hi : Rel R μ i vi) (hK : mdelK P t m i h K) : ∃ w' h', (Builtin.delete_ ts ty #[vm, vi]).run P w = .ok (.tuple #[]) w' ∧ K h' ∧ HOk R μ h' w' ∧ Step (ownH h μ) R w (ownH h' μ) R w' := by
  unfold mdelK at hK
  split at hK
  · rename_i kt et g hk
    split at hK
    · rename_i k e kv hc
      split at hK
      · rename_i n hn
        obtain ⟨h1, hK⟩ := hK
        have hof := KTy.of_av hn
        subst hof
        have hv := KTy.av_val hi
        subst hv
        cases hm with
        | mp hm =>
          rename_i b
          have hcg := hth_get hc (by simp)
          obtain ⟨es, clock, kv0, h3, h4, hbn, hsm⟩ := map_at H hm hcg
          have hsm' := same_del hsm n
          have hu := KTy.und h1
          have hck := run_checkKey (w := w) hu (KTy.isKey n) es.isEmpty 9999
          rcases MRel.find n 0 h4 with ⟨a1, a2, _, a3⟩ | ⟨j, y', v, q, a1, a2, a3, a4, a5, _, a6⟩
          · have hf := run_findKey (w := w) hu a2
            have hr : MRel R k e (mdel kv0 n) es.toList := by rw [a3]; exact h4
            obtain ⟨H', hs⟩ := map_put (clock' := clock) H hm hcg h3 hr hbn hsm'
            refine ⟨_, _, ?_, hK, H', hs⟩
            unfold Builtin.delete_
            simp [ht, run_underlying (kd_map hk), Go.MapKept.run_getObj_map h3, hck, hf, run_setObj_map _ h3, Result.andThen]
          · have hf := run_findKey (w := w) hu a2
            have hr : MRel R k e (mdel kv0 n) (es.eraseIdxIfInBounds j).toList := by
              have : j < es.size := by have := (List.getElem?_eq_some_iff.1 a3).1; simpa using this
              rw [Array.eraseIdxIfInBounds, dif_pos this, Array.toList_eraseIdx]
              exact a6
            obtain ⟨H', hs⟩ := map_put (clock' := clock) H hm hcg h3 hr (born_eraseIdx hbn) hsm'
            refine ⟨_, _, ?_, hK, H', hs⟩
            unfold Builtin.delete_
            simp [ht, run_underlying (kd_map hk), Go.MapKept.run_getObj_map h3, hck, hf, run_setObj_map _ h3, Result.andThen]
      · exact hK.elim
    · exact hK.elim
  · exact hK.elim
def mlenK (P : Program) (t : TypeId) (m : AV) (h : List Ch) (K : AV → Prop) : Prop :=
  match kdT P t, m with
  | .map _ _, .mp g => (match hth h g with
    | .map _ _ kv => K (.int .i64 kv.length)
    | _ => False)
  | _, _ => False
theorem mlenK_ok (H : HOk R μ h w) {t : TypeId} {m : AV} {vm : Value} {ts : Array TypeId} {ty : TypeId} {K : AV → Prop} (ht : ts[0]? = some t) (hm : Rel R μ m vm) (hK : mlenK P t m h K) : ∃ n, (Builtin.len_ ts ty #[vm]).run P w = .ok (.int .i64 n) w ∧ K (.int .i64 n) := by
  unfold mlenK at hK
  split at hK
  · rename_i kt et g hk
    split at hK
    · rename_i k e kv hc
      cases hm with
      | mp hm =>
        rename_i b
        obtain ⟨es, clock, kv0, h3, h4, _, hsm⟩ := map_at H hm (hth_get hc (by simp))
        have hl := h4.1.len
        simp only [List.length_map, Array.length_toList] at hl
        rw [hsm.1.length_eq] at hl
        refine ⟨_, ?_, hK⟩
        unfold Builtin.len_
        simp [ht, run_underlying (kd_map hk), Go.MapKept.run_getObj_map h3, hl, goInt, Result.andThen]
    · exact hK.elim
  · exact hK.elim
def len2K (P : Program) (t : TypeId) (kd : Kd) (x : AV) (h : List Ch) (K : AV → Prop) : Prop :=
  match kd with
  | .map _ _ => mlenK P t x h K
  | kd => lenTK kd x K
end Go.V
