/-
  Maps: made, looked up, updated, shortened; how many entries.
  Slices over cells: literals, append. For elements that hold addresses of the memory at hand.
-/
import Derived.Test.YtifighagbpjogaaPart04
import Derived.MapKept
set_option linter.unusedVariables false
set_option linter.unusedSimpArgs false
namespace Go.V
open Go.MapKept

variable {P : Program} {R : RO} {μ : List Bind} {h : List Ch} {w : World}

def KTy.of : (k : KTy) → AV → Option k.T
  | .int, .int .i64 n => some n
  | .str, .str s => some s
  | _, _ => none
def KTy.kd : KTy → Kd
  | .int => .int .i64
  | .str => .str
def KTy.val : (k : KTy) → k.T → Value
  | .int, n => .int .i64 n
  | .str, s => .string ⟨s.toArray⟩
def KTy.desc : KTy → TypeDesc
  | .int => .int .i64
  | .str => .string
theorem KTy.av_val {k : KTy} {x : k.T} {v : Value} (h : Rel R μ (k.av x) v) : v = k.val x := by
  cases k <;> cases h <;> rfl
theorem KTy.of_av {k : KTy} {a : AV} {x : k.T} (h : k.of a = some x) : a = k.av x := by
  unfold KTy.of at h
  split at h <;> simp at h <;> subst h <;> rfl
theorem KTy.und {k : KTy} {t : TypeId} (h : kdT P t = k.kd) : P.underlying t = some k.desc := by
  unfold kdT at h
  cases k <;> simp only [KTy.kd] at h <;> split at h <;> simp_all [KTy.desc]
theorem KTy.isKey {k : KTy} (x : k.T) : IsKey k.desc (k.val x) := by
  cases k
  · rfl
  · trivial
theorem KTy.same {k : KTy} (x y : k.T) : Instr.sameNow k.desc (k.val x) (k.val y) = some (decide (x = y)) := by
  cases k
  · simp [KTy.desc, KTy.val, Instr.sameNow]
    rfl
  · simp only [KTy.desc, KTy.val, Instr.sameNow, Option.some.injEq]
    rw [Bool.eq_iff_iff, bytes_beq]
    simp
theorem valA_one {e : Ety} {y : e.T} {a : AV} (h : e.enc y = [a]) : valA e y = a := by
  unfold valA
  rw [h]
theorem valA_agg {e : Ety} {y : e.T} (h : e.sz ≠ 1) : valA e y = .agg (e.enc y) := by
  have hl := e.enc_len y
  unfold valA
  split
  · rename_i a ha
    rw [ha] at hl
    simp at hl
    omega
  · rfl
/-- an element out of one value -/
def decV (e : Ety) : AV → Option e.T
  | .agg l => if e.sz = 1 then none else e.dec l
  | a => e.dec [a]
def okV (e : Ety) (a : AV) : Prop := e.decOk (cellsA a)
theorem decV_ok {e : Ety} {a : AV} {y : e.T} {v : Value} (hr : Rel R μ a v) (h : decV e a = some y) (ho : okV e a) : Rel R [] (valA e y) v := by
  unfold decV at h
  split at h
  · rename_i l
    split at h
    · simp at h
    · rename_i hz
      cases hr with
      | agg hl =>
        have h1 := (e.dec_ok h ho hl).free (e.enc_tf y) []
        rw [valA_agg hz]
        exact .agg h1
  · rename_i hna
    have ho' : e.decOk [a] := by
      unfold okV cellsA at ho
      split at ho
      · rename_i l; exact (hna l rfl).elim
      · exact ho
    have h1 := (e.dec_ok h ho' (.cons hr .nil)).free (e.enc_tf y) []
    have hl := dec_len e [a] y h
    have h2 : ∃ b, e.enc y = [b] := by
      have := e.enc_len y
      match hb : e.enc y, this with
      | [b], _ => exact ⟨b, rfl⟩
      | [], h3 => simp at h3; simp at hl; omega
      | _ :: _ :: _, h3 => simp at h3; simp at hl; omega
    obtain ⟨b, hb⟩ := h2
    rw [hb] at h1
    rw [valA_one hb]
    cases h1 with
    | cons h3 _ => exact h3
/-- the entries that lie there, and those that are said -/
def MRel (R : RO) (k : KTy) (e : Ety) (kv : List (k.T × e.T)) (es : List MapEntry) : Prop :=
  LRel R [] (kv.map fun p => k.av p.1) (es.map (·.key)) ∧ LRel R [] (kv.map fun p => valA e p.2) (es.map (·.val))
theorem MRel.nil_inv {k : KTy} {e : Ety} {es : List MapEntry} (h : MRel R k e [] es) : es = [] := by
  have h1 := h.1.len
  simpa using h1.symm
theorem MRel.cons_inv {k : KTy} {e : Ety} {p : k.T × e.T} {kv : List (k.T × e.T)} {es : List MapEntry} (h : MRel R k e (p :: kv) es) : ∃ x r, es = x :: r ∧ x.key = k.val p.1 ∧ Rel R [] (valA e p.2) x.val ∧ MRel R k e kv r := by
  obtain ⟨h1, h2⟩ := h
  cases es with
  | nil => cases h1
  | cons x r =>
    simp only [List.map_cons] at h1 h2
    cases h1 with
    | cons a1 a2 =>
      cases h2 with
      | cons b1 b2 => exact ⟨x, r, rfl, KTy.av_val a1, b1, a2, b2⟩
theorem MRel.cons {k : KTy} {e : Ety} {p : k.T × e.T} {kv : List (k.T × e.T)} {x : MapEntry} {es : List MapEntry} (h1 : x.key = k.val p.1) (h2 : Rel R [] (valA e p.2) x.val) (h : MRel R k e kv es) : MRel R k e (p :: kv) (x :: es) := by
  refine ⟨?_, .cons h2 h.2⟩
  simp only [List.map_cons, h1]
  refine .cons ?_ h.1
  cases k
  · exact .int
  · exact .str
theorem MRel.mono {R' : RO} (hR : R.le R') {k : KTy} {e : Ety} {kv : List (k.T × e.T)} {es : List MapEntry} (h : MRel R k e kv es) : MRel R' k e kv es := ⟨h.1.mono hR (Ext.refl _), h.2.mono hR (Ext.refl _)⟩
theorem MRel.find {k : KTy} {e : Ety} (x : k.T) : ∀ {kv : List (k.T × e.T)} {es : List MapEntry} (i : Nat), MRel R k e kv es →
    (mget kv x = none ∧ Instr.findNow k.desc (k.val x) es i = some none ∧ (∀ y, mset kv x y = kv ++ [(x, y)]) ∧ mdel kv x = kv) ∨
    ∃ (j : Nat) (y : e.T) (v : Value) (n : MapEntry), mget kv x = some y ∧ Instr.findNow k.desc (k.val x) es i = some (some (i + j, v)) ∧ es[j]? = some n ∧ n.key = k.val x ∧ Rel R [] (valA e y) v ∧
      (∀ (y' : e.T) (v' : Value), Rel R [] (valA e y') v' → MRel R k e (mset kv x y') (es.modify j fun n => { n with key := k.val x, val := v' })) ∧ MRel R k e (mdel kv x) (es.eraseIdx j)
  | [], es, i, h => by
    rw [h.nil_inv]
    exact .inl ⟨rfl, rfl, fun _ => rfl, rfl⟩
  | p :: kv, es, i, h => by
    obtain ⟨n, r, rfl, h1, h2, h3⟩ := h.cons_inv
    have hs := KTy.same (k := k) x p.1
    by_cases e1 : p.1 = x
    · refine .inr ⟨0, p.2, n.val, n, by simp [mget, e1], ?_, rfl, by rw [h1, e1], h2, fun y' v' hv => ?_, ?_⟩
      · rw [Instr.findNow, h1, hs]
        simp [e1]
      · simp only [mset, e1, if_true, List.modify_zero_cons]
        exact .cons rfl hv h3
      · simp only [mdel, e1, if_true, List.eraseIdx_cons_zero]
        exact h3
    · have e2 : ¬ x = p.1 := fun q => e1 q.symm
      rcases MRel.find x (i + 1) h3 with ⟨a1, a2, a3, a4⟩ | ⟨j, y, v, m, a1, a2, a3, a4, a5, a6, a7⟩
      · refine .inl ⟨by simp [mget, e1, a1], ?_, fun y => by simp [mset, e1, a3], by simp [mdel, e1, a4]⟩
        simp only [Instr.findNow, h1, hs, e2, decide_false, a2]
      · refine .inr ⟨j + 1, y, v, m, by simp [mget, e1, a1], ?_, by simpa using a3, a4, a5, fun y' v' hv => ?_, ?_⟩
        · simp only [Instr.findNow, h1, hs, e2, decide_false, a2]
          simp
          omega
        · simp only [mset, e1, if_false, List.modify_succ_cons]
          exact .cons h1 h2 (a6 y' v' hv)
        · simp only [mdel, e1, if_false, List.eraseIdx_cons_succ]
          exact .cons h1 h2 a7
/-- the zero value as one -/
def zeroV (P : Program) (t : TypeId) : Option AV := match P.info? t with
  | some i => (match i.zero with
    | some (.agg cs) => some (.agg (cs.toList.map ofV))
    | some v => some (ofV v)
    | none => none)
  | none => none
def zokV (P : Program) (e : Ety) (t : TypeId) : Prop := match zeroV P t with
  | some z => decV e z = some e.dflt ∧ okV e z
  | none => False
theorem zokV_ok {e : Ety} {t : TypeId} (h : zokV P e t) : ∃ z, Rel R [] (valA e e.dflt) z ∧ ∀ w, (zeroValue t).run P w = .ok z w := by
  unfold zokV at h
  split at h
  · rename_i a ha
    unfold zeroV at ha
    split at ha
    · rename_i i hi
      split at ha
      · rename_i cs hz
        simp only [Option.some.injEq] at ha
        subst ha
        exact ⟨.agg cs, decV_ok (μ := []) (.agg (vs := cs.toList) (ofV_rels R [] cs.toList)) h.1 h.2, fun w => by simp [zeroValue, typeInfo, hi, hz]⟩
      · rename_i v _ hz
        simp only [Option.some.injEq] at ha
        subst ha
        exact ⟨_, decV_ok (μ := []) (ofV_rel R [] v) h.1 h.2, fun w => by simp [zeroValue, typeInfo, hi, hz]⟩
      · simp at ha
    · simp at ha
  · exact h.elim
section
variable {k : KTy} {e : Ety}
theorem mget_mem : ∀ {l : List (k.T × e.T)} {x : k.T} {y : e.T}, (l.map (·.1)).Nodup → (mget l x = some y ↔ (x, y) ∈ l)
  | [], x, y, _ => by simp [mget]
  | p :: l, x, y, h => by
    simp only [List.map_cons, List.nodup_cons] at h
    by_cases hp : p.1 = x
    · subst hp
      simp only [mget, if_true, Option.some.injEq, List.mem_cons]
      constructor
      · intro q; left; rw [← q]
      · rintro (q | q)
        · rw [← q]
        · exact absurd (List.mem_map.2 ⟨_, q, rfl⟩) h.1
    · simp only [mget, if_neg hp, List.mem_cons]
      rw [mget_mem h.2]
      constructor
      · exact .inr
      · rintro (q | q)
        · exact absurd (by rw [← q]) hp
        · exact q
theorem mget_same {l m : List (k.T × e.T)} (h : Same l m) (x : k.T) : mget l x = mget m x := by
  have h2 : (m.map (·.1)).Nodup := (h.1.map _).nodup_iff.1 h.2
  apply Option.ext
  intro y
  rw [mget_mem h.2, mget_mem h2, h.1.mem_iff]
theorem mset_keys : ∀ (l : List (k.T × e.T)) (x : k.T) (y : e.T), (mset l x y).map (·.1) = if x ∈ l.map (·.1) then l.map (·.1) else l.map (·.1) ++ [x]
  | [], x, y => by simp [mset]
  | p :: l, x, y => by
    by_cases hp : p.1 = x
    · simp [mset, hp]
    · have hp' : ¬ x = p.1 := fun q => hp q.symm
      simp only [mset, if_neg hp, List.map_cons, mset_keys l x y, List.mem_cons, hp', false_or]
      split <;> rfl
theorem mset_perm : ∀ {l : List (k.T × e.T)} {x : k.T} {y : e.T}, (l.map (·.1)).Nodup → (mset l x y).Perm ((x, y) :: l.filter fun p => !decide (p.1 = x))
  | [], x, y, _ => by simp [mset]
  | p :: l, x, y, h => by
    simp only [List.map_cons, List.nodup_cons] at h
    by_cases hp : p.1 = x
    · have : l.filter (fun p => !decide (p.1 = x)) = l := by
        rw [List.filter_eq_self]
        intro q hq
        simp only [Bool.not_eq_true', decide_eq_false_iff_not]
        intro e'
        exact h.1 (by rw [hp, ← e']; exact List.mem_map.2 ⟨q, hq, rfl⟩)
      rw [mset, if_pos hp, List.filter_cons, if_neg (by simp [hp]), this]
    · rw [mset, if_neg hp, List.filter_cons, if_pos (by simp [hp])]
      exact ((mset_perm h.2).cons p).trans (List.Perm.swap _ _ _)
theorem mdel_filter : ∀ {l : List (k.T × e.T)} {x : k.T}, (l.map (·.1)).Nodup → mdel l x = l.filter fun p => !decide (p.1 = x)
  | [], x, _ => rfl
  | p :: l, x, h => by
    simp only [List.map_cons, List.nodup_cons] at h
    by_cases hp : p.1 = x
    · have : l.filter (fun p => !decide (p.1 = x)) = l := by
        rw [List.filter_eq_self]
        intro q hq
        simp only [Bool.not_eq_true', decide_eq_false_iff_not]
        intro e'
        exact h.1 (by rw [hp, ← e']; exact List.mem_map.2 ⟨q, hq, rfl⟩)
      rw [mdel, if_pos hp, List.filter_cons, if_neg (by simp [hp]), this]
    · rw [mdel, if_neg hp, List.filter_cons, if_pos (by simp [hp]), mdel_filter h.2]
theorem same_set {l m : List (k.T × e.T)} (h : Same l m) (x : k.T) (y : e.T) : Same (mset l x y) (mset m x y) := by
  have h2 : (m.map (·.1)).Nodup := (h.1.map _).nodup_iff.1 h.2
  refine ⟨(mset_perm h.2).trans (((h.1.filter _).cons _).trans (mset_perm h2).symm), ?_⟩
  rw [mset_keys]
  split
  · exact h.2
  · rename_i hx
    rw [List.nodup_append]
    exact ⟨h.2, by simp, fun a ha b hb e' => by rw [List.mem_singleton] at hb; subst hb; subst e'; exact hx ha⟩
theorem same_del {l m : List (k.T × e.T)} (h : Same l m) (x : k.T) : Same (mdel l x) (mdel m x) := by
  have h2 : (m.map (·.1)).Nodup := (h.1.map _).nodup_iff.1 h.2
  rw [mdel_filter h.2, mdel_filter h2]
  exact ⟨h.1.filter _, h.2.sublist (List.Sublist.map _ List.filter_sublist)⟩
end
/-- the result of looking up -/
def lookR (c : Bool) (a : AV) (b : Bool) : AV := if c then .tup [a, .bool b] else a
def lookupK (P : Program) (t : TypeId) (x i : AV) (c : Bool) (h : List Ch) (K : AV → Prop) : Prop :=
  match kdT P t, x with
  | .map kt et, .mp g => (match hth h g with
    | .map k e kv => (match k.of i with
      | some n => (kdT P kt = k.kd ∧ zokV P e et) ∧ K (lookR c (valA e ((mget kv n).getD e.dflt)) (mget kv n).isSome)
      | none => False)
    | _ => False)
  | _, _ => False
theorem kd_map {t kt et : TypeId} (h : kdT P t = .map kt et) : P.underlying t = some (.map kt et) := by
  unfold kdT at h
  split at h <;> simp_all
theorem map_at {g n : Nat} {k : KTy} {e : Ety} {kv : List (k.T × e.T)} (H : HOk R μ h w) (hg : μ[g]? = some (.mp n)) (hc : h[g]? = some (.map k e kv)) : ∃ es clock kv0, w.heap[n]? = some (.map es clock) ∧ MRel R k e kv0 es.toList ∧ Born es clock ∧ Same kv0 kv := by
  obtain ⟨B, h1, h2, _⟩ := H.rel.get hc
  rw [hg] at h1
  cases h1
  obtain ⟨m, es, clock, kv0, h3, h4, h5, h6, h7, h8⟩ := h2
  cases h3
  exact ⟨es, clock, kv0, h4, ⟨h5, h6⟩, h7, h8⟩
theorem lookupK_ok (H : HOk R μ h w) {t : TypeId} {x i : AV} {vx vi : Value} {c : Bool} {K : AV → Prop} (hx : Rel R μ x vx) (hi : Rel R μ i vi) (hK : lookupK P t x i c h K) : ∃ v a, (Instr.lookup t vx vi c).run P w = .ok v w ∧ K a ∧ Rel R μ a v := by
  unfold lookupK at hK
  split at hK
  · rename_i kt et g hk
    split at hK
    · rename_i k e kv hc
      split at hK
      · rename_i n hn
        obtain ⟨⟨h1, h2⟩, hK⟩ := hK
        have hof := KTy.of_av hn
        subst hof
        have hv := KTy.av_val hi
        subst hv
        cases hx with
        | mp hm =>
          rename_i b
          obtain ⟨es, clock, kv0, h3, h4, _, hsm⟩ := map_at H hm (hth_get hc (by simp))
          rw [← mget_same hsm n] at hK
          obtain ⟨z, h5, h6⟩ := zokV_ok (R := R) h2
          have hu := KTy.und h1
          have hck := run_checkKey (w := w) hu (KTy.isKey n) es.isEmpty 9999
          rcases MRel.find n 0 h4 with ⟨a1, a2, _, _⟩ | ⟨j, y, v, m, a1, a2, a3, a4, a5, _, _⟩
          · have hf := run_findKey (w := w) hu a2
            refine ⟨if c then .tuple #[z, .bool false] else z, _, ?_, hK, ?_⟩
            · unfold Instr.lookup
              simp [run_underlying (kd_map hk), Go.MapKept.run_getObj_map h3, hck, hf, h6, Result.andThen]
            · rw [a1]
              cases c
              · exact h5.mono (RO.le.refl R) (Ext.nil μ)
              · exact .tup (.cons (h5.mono (RO.le.refl R) (Ext.nil μ)) (.cons .bool .nil))
          · have hf := run_findKey (w := w) hu a2
            refine ⟨if c then .tuple #[v, .bool true] else v, _, ?_, hK, ?_⟩
            · unfold Instr.lookup
              simp [run_underlying (kd_map hk), Go.MapKept.run_getObj_map h3, hck, hf, Result.andThen]
            · rw [a1]
              cases c
              · exact a5.mono (RO.le.refl R) (Ext.nil μ)
              · exact .tup (.cons (a5.mono (RO.le.refl R) (Ext.nil μ)) (.cons .bool .nil))
      · exact hK.elim
    · exact hK.elim
  · exact hK.elim
def mupdK (P : Program) (t : TypeId) (m i x : AV) (h : List Ch) (K : List Ch → Prop) : Prop :=
  match kdT P t, m with
  | .map kt _, .mp g => (match hth h g with
    | .map k e kv => (match k.of i, decV e x with
      | some n, some y => (kdT P kt = k.kd ∧ okV e x) ∧ K (h.set g (.map k e (mset kv n y)))
      | _, _ => False)
    | _ => False)
  | _, _ => False
theorem born_push {es : Array MapEntry} {clock : Nat} {x v : Value} (h : Born es clock) : Born (es.push { key := x, val := v, born := clock }) (clock + 1) := by
  refine ⟨fun y hy => ?_, ?_⟩
  · rw [Array.toList_push, List.mem_append, List.mem_singleton] at hy
    rcases hy with hy | rfl
    · have := h.1 y hy; omega
    · exact Nat.lt_succ_self _
  · rw [Array.toList_push, List.map_append, List.nodup_append]
    refine ⟨h.2, by simp, fun a ha b hb e => ?_⟩
    simp only [List.map_cons, List.map_nil, List.mem_singleton] at hb
    obtain ⟨y, hy, rfl⟩ := List.mem_map.1 ha
    have := h.1 y hy
    omega
theorem born_map {j : Nat} {f : MapEntry → MapEntry} (hf : ∀ x, (f x).born = x.born) : ∀ l : List MapEntry, (l.modify j f).map (·.born) = l.map (·.born) := by
  induction j with
  | zero =>
    intro l
    cases l with
    | nil => rfl
    | cons a l => simp [hf]
  | succ j ih =>
    intro l
    cases l with
    | nil => rfl
    | cons a l => simp only [List.modify_succ_cons, List.map_cons, ih]
theorem born_modify {es : Array MapEntry} {clock j : Nat} {x v : Value} (h : Born es clock) : Born (es.modify j fun q => { q with key := x, val := v }) clock := by
  have e := born_map (j := j) (f := fun q => { q with key := x, val := v }) (fun _ => rfl) es.toList
  refine ⟨fun y hy => ?_, ?_⟩
  · have : y.born ∈ es.toList.map (·.born) := by rw [← e, ← Array.toList_modify]; exact List.mem_map.2 ⟨y, hy, rfl⟩
    obtain ⟨z, hz, hzy⟩ := List.mem_map.1 this
    have := h.1 z hz
    omega
  · rw [Array.toList_modify, e]; exact h.2
theorem born_eraseIdx {es : Array MapEntry} {clock j : Nat} (h : Born es clock) : Born (es.eraseIdxIfInBounds j) clock := by
  rw [Array.eraseIdxIfInBounds]
  split
  · refine ⟨fun y hy => h.1 y ?_, ?_⟩
    · rw [Array.toList_eraseIdx] at hy
      exact (List.eraseIdx_sublist _ _).subset hy
    · rw [Array.toList_eraseIdx]
      exact h.2.sublist ((List.eraseIdx_sublist _ _).map _)
  · exact h
/-- a map's block is written anew -/
theorem map_put {g b : Nat} {k : KTy} {e : Ety} {kv kv' kv0' : List (k.T × e.T)} {es es' : Array MapEntry} {clock clock' : Nat} (H : HOk R μ h w) (hm : μ[g]? = some (.mp b)) (hc : h[g]? = some (.map k e kv)) (hb : w.heap[b]? = some (.map es clock)) (hr : MRel R k e kv0' es'.toList) (hbn : Born es' clock') (hsm : Same kv0' kv') :
    HOk R μ (h.set g (.map k e kv')) { w with heap := w.heap.setIfInBounds b (.map es' clock') } ∧ Step (ownH h μ) R w (ownH (h.set g (.map k e kv')) μ) R { w with heap := w.heap.setIfInBounds b (.map es' clock') } := by
  obtain ⟨k1, k2⟩ := heap_set (o' := .map es' clock') hb
  exact H.set hc hm (List.Sublist.refl _) (fun n _ hn => k2 n fun q => hn (by simp [ownC, q])) (by simp) ⟨b, es', clock', kv0', rfl, k1, hr.1, hr.2, hbn, hsm⟩ rfl rfl rfl
theorem MRel.snoc {k : KTy} {e : Ety} {n : k.T} {y : e.T} {v : Value} {c : Nat} (hv : Rel R [] (valA e y) v) : ∀ {kv : List (k.T × e.T)} {es : List MapEntry}, MRel R k e kv es → MRel R k e (kv ++ [(n, y)]) (es ++ [{ key := k.val n, val := v, born := c }])
  | [], es, h => by
    rw [h.nil_inv]
    exact .cons rfl hv ⟨.nil, .nil⟩
  | p :: kv, es, h => by
    obtain ⟨x, r, rfl, h1, h2, h3⟩ := h.cons_inv
    exact .cons h1 h2 (MRel.snoc hv h3)
theorem mupdK_ok (H : HOk R μ h w) {t : TypeId} {m i x : AV} {vm vi vx : Value} {K : List Ch → Prop} (hm : Rel R μ m vm) (hi : Rel R μ i vi) (hx : Rel R μ x vx) (hK : mupdK P t m i x h K) : ∃ w' h', (Instr.mapUpdate t vm vi vx).run P w = .ok () w' ∧ K h' ∧ HOk R μ h' w' ∧ Step (ownH h μ) R w (ownH h' μ) R w' := by
  unfold mupdK at hK
  split at hK
  · rename_i kt et g hk
    split at hK
    · rename_i k e kv hc
      split at hK
      · rename_i n y hn hy
        obtain ⟨⟨h1, h2⟩, hK⟩ := hK
        have hof := KTy.of_av hn
        subst hof
        have hv := KTy.av_val hi
        subst hv
        cases hm with
        | mp hm =>
          rename_i b
          have hcg := hth_get hc (by simp)
          obtain ⟨es, clock, kv0, h3, h4, hbn, hsm⟩ := map_at H hm hcg
          have hsm' := same_set hsm n y
          have hu := KTy.und h1
          have hck := run_checkKey (w := w) hu (KTy.isKey n) false 9999
          have hyv := decV_ok hx hy h2
          rcases MRel.find n 0 h4 with ⟨a1, a2, a3, _⟩ | ⟨j, y', v, q, a1, a2, a3, a4, a5, a6, _⟩
          · have hf := run_findKey (w := w) hu a2
            have hr : MRel R k e (mset kv0 n y) (es.push { key := k.val n, val := vx, born := clock }).toList := by
              rw [a3, Array.toList_push]
              exact .snoc hyv h4
            obtain ⟨H', hs⟩ := map_put (clock' := clock + 1) H hm hcg h3 hr (born_push hbn) hsm'
            refine ⟨_, _, ?_, hK, H', hs⟩
            unfold Instr.mapUpdate
            simp [run_underlying (kd_map hk), Go.MapKept.run_getObj_map h3, hck, hf, run_setObj_map _ h3, Result.andThen]
          · have hf := run_findKey (w := w) hu a2
            have hr : MRel R k e (mset kv0 n y) (es.modify j fun q => { q with key := k.val n, val := vx }).toList := by
              rw [Array.toList_modify]
              exact a6 y vx hyv
            obtain ⟨H', hs⟩ := map_put (clock' := clock) H hm hcg h3 hr (born_modify hbn) hsm'
            refine ⟨_, _, ?_, hK, H', hs⟩
            have hst := run_keyThatStays (P := P) (w := w) (KTy.isKey n)
            have hq : (es[j]?.map (·.key)).getD (k.val n) = k.val n := by
              have : es[j]? = some q := by simpa using a3
              rw [this]
              simp [a4]
            unfold Instr.mapUpdate
            simp only [Sem.run_bind, run_underlying (kd_map hk), Result.andThen_ok, Go.MapKept.run_getObj_map h3, hck, hf, Nat.zero_add, hq, hst, run_setObj_map _ h3]
      · exact hK.elim
    · exact hK.elim
  · exact hK.elim
/-- a new map -/
def mmapK [ETab] (P : Program) (t : TypeId) (r : Option AV) (h : List Ch) (K : AV → List Ch → Prop) : Prop :=
  match kdT P t, ETab.mof t, r with
  | .map _ _, some (k, e), none => K (.mp h.length) (h ++ [.map k e []])
  | .map _ _, some (k, e), some (.int _ _) => K (.mp h.length) (h ++ [.map k e []])
  | _, _, _ => False
theorem newMap (H : HOk R μ h w) {k : KTy} {e : Ety} :
    HOk R (μ ++ [.mp w.heap.size]) (h ++ [.map k e []]) (w.alloc (.map #[] 0)) ∧ Step (ownH h μ) R w (ownH (h ++ [.map k e []]) (μ ++ [.mp w.heap.size])) R (w.alloc (.map #[] 0)) :=
  H.push (fun n hn => RowKit.Below.heap_alloc w _ n hn) (by simp) (by simp [ownC]) (fun n hn => by simp [ownC] at hn; subst hn; simp)
    ⟨w.heap.size, #[], 0, [], rfl, heap_alloc_new w _, .nil, .nil, ⟨fun x hx => by simp at hx, by simp⟩, List.Perm.refl _, by simp⟩ rfl rfl rfl
theorem mp_new (H : HOk R μ h w) : Rel R (μ ++ [.mp w.heap.size]) (.mp h.length) (.map (some w.heap.size)) :=
  .mp (by rw [H.rel.len]; simp)
theorem mmapK_ok [ETab] (H : HOk R μ h w) {t : TypeId} {r : Option AV} {vr : Option Value} {K : AV → List Ch → Prop} (hr : match r, vr with | none, none => True | some a, some v => Rel R μ a v | _, _ => False) (hK : mmapK P t r h K) : GivesH P R μ h w K (Instr.makeMap t vr) := by
  unfold mmapK at hK
  split at hK
  · rename_i kt et k e hk _
    obtain ⟨H', hs⟩ := newMap H (k := k) (e := e)
    cases vr with
    | none => exact ⟨_, _, R, _, _, _, rfl, hK, mp_new H, H', Ext.app _ _, hs⟩
    | some v => exact hr.elim
  · rename_i kt et k e _ _ hk _
    obtain ⟨H', hs⟩ := newMap H (k := k) (e := e)
    cases vr with
    | none => exact hr.elim
    | some v =>
      replace hr : Rel R μ (.int _ _) v := hr
      cases hr
      exact ⟨_, _, R, _, _, _, (by
        have e1 : (newObj (.map #[] 0)).run P w = .ok w.heap.size (w.alloc (.map #[] 0)) := rfl
        simp only [Instr.makeMap, Sem.run_bind, run_underlying (kd_map hk), Result.andThen_ok, asInt, asIntOf, Sem.run_pure, e1]), hK, mp_new H, H', Ext.app _ _, hs⟩
  · exact hK.elim
def mdelK (P : Program) (t : TypeId) (m i : AV) (h : List Ch) (K : List Ch → Prop) : Prop :=
  match kdT P t, m with
  | .map kt _, .mp g => (match hth h g with
    | .map k e kv => (match k.of i with
      | some n => (kdT P kt = k.kd) ∧ K (h.set g (.map k e (mdel kv n)))
      | none => False)
    | _ => False)
  | _, _ => False
theorem mdelK_ok (H : HOk R μ h w) {t : TypeId} {m i : AV} {vm vi : Value} {ts : Array TypeId} {ty : TypeId} {K : List Ch → Prop} (ht : ts[0]? = some t) (hm : Rel R μ m vm) (hi : Rel R μ i vi) (hK : mdelK P t m i h K) : ∃ w' h', (Builtin.delete_ ts ty #[vm, vi]).run P w = .ok (.tuple #[]) w' ∧ K h' ∧ HOk R μ h' w' ∧ Step (ownH h μ) R w (ownH h' μ) R w' := by
  unfold mdelK at hK
  split at hK
  · rename_i kt et g hk
    split at hK
    · rename_i k e kv hc
      split at hK
      · rename_i n hn
        obtain ⟨h1, hK⟩ := hK
        have hof := KTy.of_av hn
        subst hof
        have hv := KTy.av_val hi
        subst hv
        cases hm with
        | mp hm =>
          rename_i b
          have hcg := hth_get hc (by simp)
          obtain ⟨es, clock, kv0, h3, h4, hbn, hsm⟩ := map_at H hm hcg
          have hsm' := same_del hsm n
          have hu := KTy.und h1
          have hck := run_checkKey (w := w) hu (KTy.isKey n) es.isEmpty 9999
          rcases MRel.find n 0 h4 with ⟨a1, a2, _, a3⟩ | ⟨j, y', v, q, a1, a2, a3, a4, a5, _, a6⟩
          · have hf := run_findKey (w := w) hu a2
            have hr : MRel R k e (mdel kv0 n) es.toList := by rw [a3]; exact h4
            obtain ⟨H', hs⟩ := map_put (clock' := clock) H hm hcg h3 hr hbn hsm'
            refine ⟨_, _, ?_, hK, H', hs⟩
            unfold Builtin.delete_
            simp [ht, run_underlying (kd_map hk), Go.MapKept.run_getObj_map h3, hck, hf, run_setObj_map _ h3, Result.andThen]
          · have hf := run_findKey (w := w) hu a2
            have hr : MRel R k e (mdel kv0 n) (es.eraseIdxIfInBounds j).toList := by
              have : j < es.size := by have := (List.getElem?_eq_some_iff.1 a3).1; simpa using this
              rw [Array.eraseIdxIfInBounds, dif_pos this, Array.toList_eraseIdx]
              exact a6
            obtain ⟨H', hs⟩ := map_put (clock' := clock) H hm hcg h3 hr (born_eraseIdx hbn) hsm'
            refine ⟨_, _, ?_, hK, H', hs⟩
            unfold Builtin.delete_
            simp [ht, run_underlying (kd_map hk), Go.MapKept.run_getObj_map h3, hck, hf, run_setObj_map _ h3, Result.andThen]
      · exact hK.elim
    · exact hK.elim
  · exact hK.elim
def mlenK (P : Program) (t : TypeId) (m : AV) (h : List Ch) (K : AV → Prop) : Prop :=
  match kdT P t, m with
  | .map _ _, .mp g => (match hth h g with
    | .map _ _ kv => K (.int .i64 kv.length)
    | _ => False)
  | _, _ => False
theorem mlenK_ok (H : HOk R μ h w) {t : TypeId} {m : AV} {vm : Value} {ts : Array TypeId} {ty : TypeId} {K : AV → Prop} (ht : ts[0]? = some t) (hm : Rel R μ m vm) (hK : mlenK P t m h K) : ∃ n, (Builtin.len_ ts ty #[vm]).run P w = .ok (.int .i64 n) w ∧ K (.int .i64 n) := by
  unfold mlenK at hK
  split at hK
  · rename_i kt et g hk
    split at hK
    · rename_i k e kv hc
      cases hm with
      | mp hm =>
        rename_i b
        obtain ⟨es, clock, kv0, h3, h4, _, hsm⟩ := map_at H hm (hth_get hc (by simp))
        have hl := h4.1.len
        simp only [List.length_map, Array.length_toList] at hl
        rw [hsm.1.length_eq] at hl
        refine ⟨_, ?_, hK⟩
        unfold Builtin.len_
        simp [ht, run_underlying (kd_map hk), Go.MapKept.run_getObj_map h3, hl, goInt, Result.andThen]
    · exact hK.elim
  · exact hK.elim
def len2K (P : Program) (t : TypeId) (kd : Kd) (x : AV) (h : List Ch) (K : AV → Prop) : Prop :=
  match kd with
  | .map _ _ => mlenK P t x h K
  | kd => lenTK kd x K
end Go.V

namespace Go.V
variable {P : Program} {R : RO} {μ : List Bind} {h : List Ch} {w : World}

/-- the elements of a literal, all of them in order, as cells -/
def catK (sz : Nat) : List (Nat × AV) → Nat → (List AV → Prop) → Prop
  | [], _, K => K []
  | (i, x) :: r, j, K => (i = j ∧ (cellsA x).length = sz ∧ okCells (cellsA x)) ∧ catK sz r (j + 1) fun zs => K (cellsA x ++ zs)
def bsC (P : Program) (t : TypeId) (n : Nat) (parts : List (Nat × AV)) (h : List Ch) (K : AV → List Ch → Prop) : Prop :=
  match kdT P t with
  | .slice el => (szT P el ≠ 0 ∧ zlenT P el = szT P el ∧ n * szT P el ≤ 16777216 ∧ parts.length = n) ∧ catK (szT P el) parts 0 fun zs => K (.csl h.length n (szT P el)) (h ++ [.crow zs])
  | _ => False
theorem cat_fill {sz : Nat} {K : List AV → Prop} : ∀ (parts : List (Nat × AV)) (j m : Nat) (A : List AV), A.length = j * sz → m = parts.length → catK sz parts j (fun zs => K (A ++ zs)) →
    fillK (fun i => some (i * sz, sz)) (A ++ List.replicate (m * sz) .any) parts fun zs => zs.length = (j + m) * sz ∧ K zs
  | [], j, m, A, hA, hm, h => by
    simp only [List.length_nil] at hm
    subst hm
    simp only [Nat.zero_mul, List.replicate_zero, List.append_nil, fillK]
    exact ⟨by simpa using hA, by simpa [catK] using h⟩
  | (i, x) :: r, j, m, A, hA, hm, h => by
    simp only [catK] at h
    obtain ⟨⟨rfl, hlen, ho⟩, h⟩ := h
    simp only [List.length_cons] at hm
    have hm' : m * sz = (cellsA x).length + r.length * sz := by rw [hm, hlen, Nat.succ_mul]; omega
    simp only [fillK]
    refine ⟨⟨hlen, by simp only [List.length_append, List.length_replicate, hA, hm', hlen]; omega⟩, ho, ?_⟩
    rw [← hA, show A.length = A.length + 0 from rfl, setA_right, hm', setA_any, ← List.append_assoc]
    have := cat_fill r (i + 1) r.length (A ++ cellsA x) (by rw [List.length_append, hA, hlen, Nat.succ_mul]) rfl (by simpa using h)
    rw [hm]
    simpa [Nat.add_assoc, Nat.add_comm 1] using this
theorem any_rel (R : RO) (μ : List Bind) : ∀ (l : List Value), LRel R μ (List.replicate l.length .any) l
  | [] => .nil
  | _ :: l => .cons .any (any_rel R μ l)
theorem szI {el : TypeId} (hs : szT P el ≠ 0) : ∃ i, P.info? el = some i ∧ i.size = szT P el ∧ i.bytes = bytesT P el := by
  obtain ⟨i, hi, h1, h2⟩ := bytes_info (P := P) (t := el) hs
  exact ⟨i, hi, h1, h2⟩
theorem zeroI {el : TypeId} (h0 : szT P el ≠ 0) (h : zlenT P el = szT P el) : ∃ i z, P.info? el = some i ∧ i.zero = some z ∧ z.cells.size = szT P el := by
  unfold zlenT zeroT at h
  split at h
  · rename_i zs hz
    split at hz
    · rename_i i hi
      split at hz
      · rename_i z hzz
        simp only [Option.some.injEq] at hz
        subst hz
        exact ⟨i, z, hi, hzz, by simpa using h⟩
      · simp at hz
    · simp at hz
  · exact absurd h.symm h0
theorem rel_csl {h : List Ch} {μ : List Bind} (hh : h.length = μ.length) {b k n c s : Nat} (hn : n ≤ c) (hk : c * s ≤ k) (hm : c ≤ maxLen) : Rel R (μ ++ [.arr b k]) (.csl h.length n s) (.slice (some ⟨b, 0, none⟩) n c) :=
  .csl (by rw [hh]; simp) hn hk hm
theorem bsC_ok (H : HOk R μ h w) {t : TypeId} {n : Nat} {parts : List (Nat × AV)} {vals : List (Nat × Value)} {K : AV → List Ch → Prop} (hp : PRel R μ parts vals) (hK : bsC P t n parts h K) : GivesH P R μ h w K (Instr.buildSlice t n vals.toArray) := by
  unfold bsC at hK
  split at hK
  · rename_i el hk
    obtain ⟨⟨hsz0, hzl, hn, hpl⟩, hK⟩ := hK
    obtain ⟨i, hi, hisz, _⟩ := szI hsz0
    obtain ⟨i', z, hi', hz, hzs⟩ := zeroI hsz0 hzl
    obtain rfl : i' = i := by rw [hi] at hi'; exact (Option.some.inj hi').symm
    have hfill := cat_fill (K := fun zs => K (.csl h.length n (szT P el)) (h ++ [.crow zs])) parts 0 n [] (by simp) hpl.symm (by simpa using hK)
    generalize hzc : (if n * szT P el = 0 then #[] else z.cells : Array Value) = zc
    have hany : LRel R μ ([] ++ List.replicate (n * szT P el) .any) ((Array.range (n * szT P el)).map (zc[· % zc.size]!)).toList := by
      have := any_rel R μ ((Array.range (n * szT P el)).map (zc[· % zc.size]!)).toList
      simpa using this
    obtain ⟨zs', cs', ⟨hzl', hK2⟩, hrel, hrun⟩ := fillK_ok _ _ _ _ hp hany hfill
    have hcm : n ≤ maxLen := by
      have h2 : n ≤ n * szT P el := Nat.le_mul_of_pos_right _ (Nat.pos_of_ne_zero hsz0)
      have : (16777216 : Nat) ≤ maxLen := by decide
      omega
    obtain ⟨H', hst⟩ := H.push (w' := w.alloc (.cells cs' el)) (c := .crow zs') (B := .arr w.heap.size cs'.size) (fun n hn => RowKit.Below.heap_alloc w _ n hn) (by simp) (by simp [ownC]) (fun n hn => by simp [ownC] at hn; subst hn; simp)
      ⟨w.heap.size, cs', el, rfl, heap_alloc_new w _, by rw [hrel.len, List.take_length]; exact hrel.mono (RO.le.refl R) (Ext.app _ _)⟩ rfl rfl rfl
    refine ⟨.slice (some ⟨w.heap.size, 0, none⟩) n n, _, R, _, _, _, ?_, hK2, ?_, H', Ext.app _ _, hst⟩
    · have hnot : ¬ (n * szT P el > 2 ^ 24) := by omega
      by_cases h0 : n * szT P el = 0
      · rw [if_pos h0] at hzc
        subst hzc
        simp only [Instr.buildSlice, Sem.run_bind, run_underlying (kd_slice hk), Result.andThen_ok, run_sizeOf hsz0, if_neg hnot, if_pos h0, List.toList_toArray, hrun, newRow, run_newObj, Sem.run_pure]
        rfl
      · rw [if_neg h0] at hzc
        subst hzc
        have hzr : (zeroValue el).run P w = .ok z w := by simp [zeroValue, typeInfo, hi, hz]
        simp only [Instr.buildSlice, Sem.run_bind, run_underlying (kd_slice hk), Result.andThen_ok, run_sizeOf hsz0, if_neg hnot, if_neg h0, hzr, List.toList_toArray, hrun, newRow, run_newObj, Sem.run_pure]
        rfl
    · exact rel_csl H.rel.len (Nat.le_refl _) (by rw [← Array.length_toList, ← hrel.len, hzl', Nat.zero_add]; exact Nat.le_refl _) hcm
  · exact hK.elim

/-- append of one slice over cells to another one, or to the nil slice -/
def appCK (P : Program) (t : TypeId) (s : AV) (b' m s' : Nat) (h : List Ch) (K : AV → List Ch → Prop) : Prop :=
  match kdT P t with
  | .slice el => (match hth h b' with
    | .crow ys => (szT P el ≠ 0 ∧ zlenT P el = szT P el ∧ s' = szT P el ∧ m * szT P el ≤ ys.length ∧ okCells (ys.take (m * szT P el)) ∧ 0 < m) ∧ (match s with
      | .lit (.slice none 0 0) => (m * bytesT P el ≤ maxBytes ∧ m ≤ maxBytes) ∧ K (.csl h.length m s') (h ++ [.crow (ys.take (m * szT P el))])
      | .csl b n s0 => (match hth h b with
        | .crow xs => (b ≠ b' ∧ s0 = szT P el ∧ n * szT P el ≤ xs.length ∧ (n + m) * bytesT P el ≤ maxBytes ∧ n + m ≤ maxBytes) ∧ K (.csl h.length (n + m) s') (h.set b .gone ++ [.crow (xs.take (n * szT P el) ++ ys.take (m * szT P el))])
        | _ => False)
      | _ => False)
    | _ => False)
  | _ => False
theorem okCells_cell : ∀ {l : List AV}, okCells l → ∀ a ∈ l, a.cell = true
  | [], _, a, ha => by cases ha
  | b :: l, h, a, ha => by
    rcases List.mem_cons.1 ha with rfl | ha
    · exact h.1
    · exact okCells_cell h.2 a ha
/-- a new block of cells behind a draw -/
theorem grown_cells {el : TypeId} {as : List AV} {vals : List Value} {z : Array Value} (H : HOk R μ h w) (hl : LRel R μ as vals) (k : Nat) :
    HOk R (μ ++ [.arr w.heap.size (vals.toArray ++ Builtin.zeroCells z k).size]) (h ++ [.crow as]) (w.drew.alloc (.cells (vals.toArray ++ Builtin.zeroCells z k) el)) ∧
    Step (ownH h μ) R w (ownH (h ++ [.crow as]) (μ ++ [.arr w.heap.size (vals.toArray ++ Builtin.zeroCells z k).size])) R (w.drew.alloc (.cells (vals.toArray ++ Builtin.zeroCells z k) el)) := by
  exact H.push (w' := w.drew.alloc (.cells (vals.toArray ++ Builtin.zeroCells z k) el)) (c := .crow as) (B := .arr w.heap.size (vals.toArray ++ Builtin.zeroCells z k).size) (fun n hn => RowKit.Below.heap_alloc w.drew _ n hn) (by simp) (by simp [ownC]) (fun n hn => by simp [ownC] at hn; subst hn; simp)
    ⟨w.heap.size, _, el, rfl, heap_alloc_new w.drew _, by
      simp only [Array.toList_append, List.toList_toArray]
      rw [hl.len, List.take_left]
      exact hl.mono (RO.le.refl R) (Ext.app _ _)⟩ rfl rfl rfl
theorem appCK_ok (H : HOk R μ h w) {t tx ty : TypeId} {s : AV} {b' m s' : Nat} {vs vx : Value} {K : AV → List Ch → Prop} (hkx : ∃ e, kdT P tx = .slice e) (hs : Rel R μ s vs) (hx : Rel R μ (.csl b' m s') vx) (hK : appCK P t s b' m s' h K) : GivesH P R μ h w K (Builtin.append_ #[t, tx] ty #[vs, vx]) := by
  obtain ⟨elx, hkx⟩ := hkx
  have hkx := kd_slice hkx
  unfold appCK at hK
  split at hK
  · rename_i el hk
    have hk := kd_slice hk
    split at hK
    · rename_i ys hcy
      obtain ⟨⟨hsz0, hzl, hss, hml, hok, hm0⟩, hK⟩ := hK
      subst hss
      obtain ⟨i, hi, hisz, hib⟩ := szI hsz0
      obtain ⟨i', z, hi', hz, hzs⟩ := zeroI hsz0 hzl
      obtain rfl : i' = i := by rw [hi] at hi'; exact (Option.some.inj hi').symm
      have hcty : h[b']? = some (.crow ys) := hth_get hcy (by simp)
      obtain ⟨BY, hBY, ⟨ny, arry, tyy, rfl, hby, hrely⟩, _⟩ := H.rel.get hcty
      cases hx with
      | @csl _ _ _ _ by' ky cx h1 hl1 hk1 hm1 =>
      rw [hBY] at h1
      simp only [Option.some.injEq, Bind.arr.injEq] at h1
      obtain ⟨rfl, rfl⟩ := h1
      have hnews := hrely.take (m * szT P el)
      rw [List.take_take, Nat.min_eq_left hml] at hnews
      have hysz : ys.length ≤ arry.size := by
        have e1 : (arry.toList.take ys.length).length ≤ arry.toList.length := by rw [List.length_take]; exact Nat.min_le_right _ _
        rw [← hrely.len, Array.length_toList] at e1
        exact e1
      have hnl : (arry.toList.take (m * szT P el)).length = m * szT P el := by
        rw [List.length_take, Array.length_toList]; exact Nat.min_eq_left (Nat.le_trans hml hysz)
      have hsrc : Src P i'.size tx (.slice (some ⟨ny, 0, none⟩) m cx) m (arry.toList.take (m * szT P el)) w := by
        rw [hisz]
        refine Src.ofSlice w hkx _ _ _ _ hnl (fun j u hu => ?_) (lrel_one hnews (okCells_cell hok))
        rw [addr_add, Nat.zero_add]
        show w.cell? _ = _
        rw [cell_at hby, ← Array.getElem?_toList]
        rw [List.getElem?_take] at hu
        split at hu
        · exact hu
        · simp at hu
      split at hK
      · obtain ⟨⟨hb1, hb2⟩, hK⟩ := hK
        cases hs
        have hold : (Builtin.firstCells i'.size 0 (.slice none 0 0)).run P w.drew = .ok ([] : List Value).toArray w.drew := by simp [Builtin.firstCells, loadCells, loadCellsFrom]
        have hrun := run_app_grow (ty := ty) hk hi hz (a := none) (n := 0) (c := 0) hsrc hold (by omega) (by rw [Nat.zero_add, hib]; exact hb1) (by rw [Nat.zero_add]; exact hb2)
        rw [Nat.zero_add, List.nil_append] at hrun
        have hml : m ≤ maxLen := Nat.le_trans hb2 (by decide)
        have hge := grownCap_ge w m 0 el
        have hle := grownCap_le_maxLen w m 0 el hml
        obtain ⟨H', hstep⟩ := grown_cells (el := el) H hnews (z := z.cells) (grownCap w m 0 el - m)
        refine ⟨_, _, R, _, _, _, hrun, hK, rel_csl H.rel.len hge ?_ hle, H', Ext.app _ _, hstep⟩
        rw [Array.size_append, List.size_toArray, hnl, size_zeroCells, hzs, ← Nat.add_mul]
        exact Nat.mul_le_mul_right _ (by omega)
      · rename_i b n s0
        split at hK
        · rename_i xs hcx
          obtain ⟨⟨hne, hs0, hxl, hb1, hb2⟩, hK⟩ := hK
          subst hs0
          have hctx : h[b]? = some (.crow xs) := hth_get hcx (by simp)
          obtain ⟨BX, hBX, ⟨nx, arrx, tyx, rfl, hbx, hrelx⟩, _⟩ := H.rel.get hctx
          have hgone := H.set (c' := .gone) (w' := w) hctx hBX (gone_sub _ _) (fun _ _ _ => rfl) (Nat.le_refl _) trivial rfl rfl rfl
          cases hs with
          | @csl _ _ _ _ bx kx c0 h2 hl2 hk2 hm2 =>
          rw [hBX] at h2
          simp only [Option.some.injEq, Bind.arr.injEq] at h2
          obtain ⟨rfl, rfl⟩ := h2
          have holds := hrelx.take (n * szT P el)
          rw [List.take_take, Nat.min_eq_left hxl] at holds
          have hxfit : n * szT P el ≤ arrx.size := Nat.le_trans (Nat.mul_le_mul_right _ hl2) hk2
          by_cases hroom : n + m ≤ c0
          · have hfit : n * i'.size + (arry.toList.take (m * szT P el)).length ≤ arrx.size := by
              rw [hisz, hnl, ← Nat.add_mul]; exact Nat.le_trans (Nat.mul_le_mul_right _ hroom) hk2
            have hrun := run_app_room (ty := ty) hk hi hsrc hbx hroom hfit
            have hnew := setRow_heap w nx arrx (arrx.toList.take (n * i'.size) ++ (arry.toList.take (m * szT P el)) ++ arrx.toList.drop (n * i'.size + (arry.toList.take (m * szT P el)).length)).toArray tyx (0, 0) hbx
            rw [hisz] at hrun hnew hfit
            have hsize : (arrx.toList.take (n * szT P el) ++ (arry.toList.take (m * szT P el)) ++ arrx.toList.drop (n * szT P el + (arry.toList.take (m * szT P el)).length)).toArray.size = arrx.size := by
              simp only [List.size_toArray, List.length_append, List.length_take, List.length_drop, Array.length_toList] at hfit ⊢
              omega
            have hrel2 := (holds.app hnews)
            obtain ⟨H', hstep⟩ := H.move (c' := .crow (xs.take (n * szT P el) ++ ys.take (m * szT P el))) (B' := .arr nx arrx.size) (w' := w.setRow nx (arrx.toList.take (n * szT P el) ++ (arry.toList.take (m * szT P el)) ++ arrx.toList.drop (n * szT P el + (arry.toList.take (m * szT P el)).length)).toArray) hctx hBX (by simp [ownC]) (fun k _ hm => setRow_other w nx k _ (fun e => hm (by simp [ownC, e]))) (by simp)
              ⟨nx, _, tyx, by rw [hsize], hnew, by
                rw [List.toList_toArray, hrel2.len, List.take_left]
                exact hrel2.mono (RO.le.refl R) (Ext.app _ _)⟩ rfl rfl rfl
            exact ⟨_, _, R, _, _, _, hrun, hK, rel_csl H.rel.len hroom hk2 hm2, H', Ext.app _ _, hstep⟩
          · have hold : (Builtin.firstCells i'.size n (.slice (some ⟨nx, 0, none⟩) n c0)).run P w.drew = .ok (arrx.toList.take (n * szT P el)).toArray w.drew := by
              rw [hisz]
              refine run_firstCells_some w.drew (szT P el) n _ n c0 (arrx.toList.take (n * szT P el)) (by rw [List.length_take, Array.length_toList]; exact Nat.min_eq_left hxfit) fun j v hj => ?_
              rw [addr_add, Nat.zero_add]
              show w.cell? _ = _
              rw [cell_at hbx, ← Array.getElem?_toList]
              rw [List.getElem?_take] at hj
              split at hj
              · exact hj
              · simp at hj
            have hrun := run_app_grow (ty := ty) hk hi hz (a := some ⟨nx, 0, none⟩) (n := n) (c := c0) hsrc hold (by omega) (by rw [hib]; exact hb1) hb2
            have hml : n + m ≤ maxLen := Nat.le_trans hb2 (by decide)
            have hge := grownCap_ge w (n + m) c0 el
            have hle := grownCap_le_maxLen w (n + m) c0 el hml
            obtain ⟨H', hstep⟩ := grown_cells (el := el) hgone.1 (holds.app hnews) (z := z.cells) (grownCap w (n + m) c0 el - (n + m))
            have hlg : (h.set b Ch.gone).length = h.length := List.length_set
            refine ⟨_, _, R, _, _, _, hrun, hK, rel_csl H.rel.len hge ?_ hle, H', Ext.app _ _, hgone.2.trans hstep⟩
            have hol : (arrx.toList.take (n * szT P el)).length = n * szT P el := by rw [List.length_take, Array.length_toList]; exact Nat.min_eq_left hxfit
            rw [Array.size_append, List.size_toArray, List.length_append, hol, hnl, size_zeroCells, hzs, ← Nat.add_mul, ← Nat.add_mul]
            exact Nat.mul_le_mul_right _ (by omega)
        · exact hK.elim
      · exact hK.elim
    · exact hK.elim
  · exact hK.elim

/-! ### Together with the others -/
def isSlK : Kd → Bool
  | .slice _ => true
  | _ => false
theorem isSlK_ok {k : Kd} (h : isSlK k = true) : ∃ e, k = .slice e := by
  cases k <;> simp [isSlK] at h
  exact ⟨_, rfl⟩
section
variable [ETab]
def bs3K (P : Program) (t : TypeId) (n : Nat) (parts : List (Nat × AV)) (h : List Ch) (K : AV → List Ch → Prop) : Prop := bs2K P t n parts h K ∨ bsC P t n parts h K
theorem bs3K_ok (H : HOk R μ h w) {t : TypeId} {n : Nat} {parts : List (Nat × AV)} {vals : List (Nat × Value)} {K : AV → List Ch → Prop} (hp : PRel R μ parts vals) (hK : bs3K P t n parts h K) : GivesH P R μ h w K (Instr.buildSlice t n vals.toArray) := by
  rcases hK with hK | hK
  · exact bs2K_ok H hp hK
  · exact bsC_ok H hp hK
theorem bs_sl {t : TypeId} {n : Nat} {parts : List (Nat × AV)} {K : AV → List Ch → Prop} (hK : bsK P t n parts h K) : bs3K P t n parts h K := .inl (.inl hK)
theorem bs_ro {t : TypeId} {n : Nat} {parts : List (Nat × AV)} {K : AV → List Ch → Prop} (hK : bsR P t n parts h K) : bs3K P t n parts h K := .inl (.inr hK)
theorem bs_cs {t : TypeId} {n : Nat} {parts : List (Nat × AV)} {K : AV → List Ch → Prop} (_ : ETab.of t = none) (hK : bsC P t n parts h K) : bs3K P t n parts h K := .inr hK
def app3K (P : Program) (t tx : TypeId) (s x : AV) (h : List Ch) (K : AV → List Ch → Prop) : Prop :=
  match x with
  | .csl b m s' => isSlK (kdT P tx) = true ∧ appCK P t s b m s' h K
  | x => app2K P t tx s x h K
theorem app3K_csl {t tx : TypeId} {s : AV} {b m c : Nat} {K : AV → List Ch → Prop} : app3K P t tx s (.csl b m c) h K = (isSlK (kdT P tx) = true ∧ appCK P t s b m c h K) := rfl
theorem app3K_ro {t tx : TypeId} {s : AV} {e : Ety} {xs : List e.T} {K : AV → List Ch → Prop} : app3K P t tx s (.ro e xs) h K = app2K P t tx s (.ro e xs) h K := rfl
theorem app3K_sl {t tx : TypeId} {s : AV} {b st n : Nat} {e : Ety} {K : AV → List Ch → Prop} : app3K P t tx s (.sl b e st n) h K = app2K P t tx s (.sl b e st n) h K := rfl
theorem app3K_lit {t tx : TypeId} {s : AV} {v : Value} {K : AV → List Ch → Prop} : app3K P t tx s (.lit v) h K = app2K P t tx s (.lit v) h K := rfl
theorem app3K_str {t tx : TypeId} {s : AV} {l : List UInt8} {K : AV → List Ch → Prop} : app3K P t tx s (.str l) h K = app2K P t tx s (.str l) h K := rfl
theorem app3K_rc {t tx : TypeId} {s : AV} {e : Ety} {xs : List e.T} {K : AV → List Ch → Prop} : app3K P t tx s (.rc e xs) h K = app2K P t tx s (.rc e xs) h K := rfl
theorem app3K_ok (H : HOk R μ h w) {t tx ty : TypeId} {s x : AV} {vs vx : Value} {K : AV → List Ch → Prop} (hs : Rel R μ s vs) (hx : Rel R μ x vx) (hK : app3K P t tx s x h K) : GivesH P R μ h w K (Builtin.append_ #[t, tx] ty #[vs, vx]) := by
  unfold app3K at hK
  split at hK
  · exact appCK_ok H (isSlK_ok hK.1) hs hx hK.2
  · exact app2K_ok H hs hx hK
end

/-! ### Interfaces -/
def conK : Kd → Bool
  | .iface => false
  | .other => false
  | _ => true
theorem conK_under {t : TypeId} (h : conK (kdT P t) = true) : ∃ d, P.underlying t = some d ∧ ∀ x, d ≠ .interface x := by
  unfold kdT at h
  split at h <;> simp [conK] at h <;> rename_i hu <;> exact ⟨_, hu, fun x hx => by cases hx⟩
/-- 'x.(t)' in its form with ok, for a type that is no interface -/
def taK (P : Program) (ty : TypeId) (x : AV) (K : AV → Prop) : Prop :=
  match x with
  | .ifc t a => conK (kdT P ty) = true ∧ (if t = ty then K (.tup [a, .bool true]) else (match zeroV P ty with | some z => K (.tup [z, .bool false]) | none => False))
  | _ => False
/-- the function that a method of a type is -/
def mthT (P : Program) (t : TypeId) (m : String) : Option FuncId :=
  match P.info? t with
  | some i => (match i.methods.find? (·.name == m) with
    | some r => if r.path.isEmpty then (match r.func, kdT P t with
      | some (f, true), .ptr => some f
      | some (f, false), .struct => some f
      | _, _ => none) else none
    | none => none)
  | none => none
end Go.V
