/-
  Maps: made, looked up, updated, shortened; how many entries.
  One operation, and a region whose order is fixed.
  Objects are closed.
  The code of a function: what it means that it does what is asked; freezing.
  Jumps: goto, label, scope.
-/
import Derived.Test.YtpnfoffggcfhfaaPart03
import Derived.MapKept
import Derived.Maps.RangeRun
import Derived.ScopeJumps
set_option linter.unusedVariables false
set_option linter.unusedSimpArgs false
namespace Go.V
open Go.MapKept

variable {P : Program} {R : RO} {μ : List Bind} {h : List Ch} {w : World}

def KTy.of : (k : KTy) → AV → Option k.T
  | .int, .int .i64 n => some n
  | .str, .str s => some s
  | _, _ => none
def KTy.kd : KTy → Kd
  | .int => .int .i64
  | .str => .str
def KTy.val : (k : KTy) → k.T → Value
  | .int, n => .int .i64 n
  | .str, s => .string ⟨s.toArray⟩
def KTy.desc : KTy → TypeDesc
  | .int => .int .i64
  | .str => .string
theorem KTy.av_val {k : KTy} {x : k.T} {v : Value} (h : Rel R μ (k.av x) v) : v = k.val x := by
  cases k <;> cases h <;> rfl
theorem KTy.of_av {k : KTy} {a : AV} {x : k.T} (h : k.of a = some x) : a = k.av x := by
  unfold KTy.of at h
  split at h <;> simp at h <;> subst h <;> rfl
theorem KTy.und {k : KTy} {t : TypeId} (h : kdT P t = k.kd) : P.underlying t = some k.desc := by
  unfold kdT at h
  cases k <;> simp only [KTy.kd] at h <;> split at h <;> simp_all [KTy.desc]
theorem KTy.isKey {k : KTy} (x : k.T) : IsKey k.desc (k.val x) := by
  cases k
  · rfl
  · trivial
theorem KTy.same {k : KTy} (x y : k.T) : Instr.sameNow k.desc (k.val x) (k.val y) = some (decide (x = y)) := by
  cases k
  · simp [KTy.desc, KTy.val, Instr.sameNow]
    rfl
  · simp only [KTy.desc, KTy.val, Instr.sameNow, Option.some.injEq]
    rw [Bool.eq_iff_iff, bytes_beq]
    simp
theorem valA_one {e : Ety} {y : e.T} {a : AV} (h : e.enc y = [a]) : valA e y = a := by
  unfold valA
  rw [h]
theorem valA_agg {e : Ety} {y : e.T} (h : e.sz ≠ 1) : valA e y = .agg (e.enc y) := by
  have hl := e.enc_len y
  unfold valA
  split
  · rename_i a ha
    rw [ha] at hl
    simp at hl
    omega
  · rfl
/-- an element out of one value -/
def decV (e : Ety) : AV → Option e.T
  | .agg l => if e.sz = 1 then none else e.dec l
  | a => e.dec [a]
def okV (e : Ety) (a : AV) : Prop := e.decOk (cellsA a)
theorem decV_ok {e : Ety} {a : AV} {y : e.T} {v : Value} (hr : Rel R μ a v) (h : decV e a = some y) (ho : okV e a) : Rel R [] (valA e y) v := by
  unfold decV at h
  split at h
  · rename_i l
    split at h
    · simp at h
    · rename_i hz
      cases hr with
      | agg hl =>
        have h1 := (e.dec_ok h ho hl).free (e.enc_tf y) []
        rw [valA_agg hz]
        exact .agg h1
  · rename_i hna
    have ho' : e.decOk [a] := by
      unfold okV cellsA at ho
      split at ho
      · rename_i l; exact (hna l rfl).elim
      · exact ho
    have h1 := (e.dec_ok h ho' (.cons hr .nil)).free (e.enc_tf y) []
    have hl := dec_len e [a] y h
    have h2 : ∃ b, e.enc y = [b] := by
      have := e.enc_len y
      match hb : e.enc y, this with
      | [b], _ => exact ⟨b, rfl⟩
      | [], h3 => simp at h3; simp at hl; omega
      | _ :: _ :: _, h3 => simp at h3; simp at hl; omega
    obtain ⟨b, hb⟩ := h2
    rw [hb] at h1
    rw [valA_one hb]
    cases h1 with
    | cons h3 _ => exact h3
/-- the entries that lie there, and those that are said -/
def MRel (R : RO) (k : KTy) (e : Ety) (kv : List (k.T × e.T)) (es : List MapEntry) : Prop :=
  LRel R [] (kv.map fun p => k.av p.1) (es.map (·.key)) ∧ LRel R [] (kv.map fun p => valA e p.2) (es.map (·.val))
theorem MRel.nil_inv {k : KTy} {e : Ety} {es : List MapEntry} (h : MRel R k e [] es) : es = [] := by
  have h1 := h.1.len
  simpa using h1.symm
theorem MRel.cons_inv {k : KTy} {e : Ety} {p : k.T × e.T} {kv : List (k.T × e.T)} {es : List MapEntry} (h : MRel R k e (p :: kv) es) : ∃ x r, es = x :: r ∧ x.key = k.val p.1 ∧ Rel R [] (valA e p.2) x.val ∧ MRel R k e kv r := by
  obtain ⟨h1, h2⟩ := h
  cases es with
  | nil => cases h1
  | cons x r =>
    simp only [List.map_cons] at h1 h2
    cases h1 with
    | cons a1 a2 =>
      cases h2 with
      | cons b1 b2 => exact ⟨x, r, rfl, KTy.av_val a1, b1, a2, b2⟩
theorem MRel.cons {k : KTy} {e : Ety} {p : k.T × e.T} {kv : List (k.T × e.T)} {x : MapEntry} {es : List MapEntry} (h1 : x.key = k.val p.1) (h2 : Rel R [] (valA e p.2) x.val) (h : MRel R k e kv es) : MRel R k e (p :: kv) (x :: es) := by
  refine ⟨?_, .cons h2 h.2⟩
  simp only [List.map_cons, h1]
  refine .cons ?_ h.1
  cases k
  · exact .int
  · exact .str
theorem MRel.mono {R' : RO} (hR : R.le R') {k : KTy} {e : Ety} {kv : List (k.T × e.T)} {es : List MapEntry} (h : MRel R k e kv es) : MRel R' k e kv es := ⟨h.1.mono hR (Ext.refl _), h.2.mono hR (Ext.refl _)⟩
theorem MRel.find {k : KTy} {e : Ety} (x : k.T) : ∀ {kv : List (k.T × e.T)} {es : List MapEntry} (i : Nat), MRel R k e kv es →
    (mget kv x = none ∧ Instr.findNow k.desc (k.val x) es i = some none ∧ (∀ y, mset kv x y = kv ++ [(x, y)]) ∧ mdel kv x = kv) ∨
    ∃ (j : Nat) (y : e.T) (v : Value) (n : MapEntry), mget kv x = some y ∧ Instr.findNow k.desc (k.val x) es i = some (some (i + j, v)) ∧ es[j]? = some n ∧ n.key = k.val x ∧ Rel R [] (valA e y) v ∧
      (∀ (y' : e.T) (v' : Value), Rel R [] (valA e y') v' → MRel R k e (mset kv x y') (es.modify j fun n => { n with key := k.val x, val := v' })) ∧ MRel R k e (mdel kv x) (es.eraseIdx j)
  | [], es, i, h => by
    rw [h.nil_inv]
    exact .inl ⟨rfl, rfl, fun _ => rfl, rfl⟩
  | p :: kv, es, i, h => by
    obtain ⟨n, r, rfl, h1, h2, h3⟩ := h.cons_inv
    have hs := KTy.same (k := k) x p.1
    by_cases e1 : p.1 = x
    · refine .inr ⟨0, p.2, n.val, n, by simp [mget, e1], ?_, rfl, by rw [h1, e1], h2, fun y' v' hv => ?_, ?_⟩
      · rw [Instr.findNow, h1, hs]
        simp [e1]
      · simp only [mset, e1, if_true, List.modify_zero_cons]
        exact .cons rfl hv h3
      · simp only [mdel, e1, if_true, List.eraseIdx_cons_zero]
        exact h3
    · have e2 : ¬ x = p.1 := fun q => e1 q.symm
      rcases MRel.find x (i + 1) h3 with ⟨a1, a2, a3, a4⟩ | ⟨j, y, v, m, a1, a2, a3, a4, a5, a6, a7⟩
      · refine .inl ⟨by simp [mget, e1, a1], ?_, fun y => by simp [mset, e1, a3], by simp [mdel, e1, a4]⟩
        simp only [Instr.findNow, h1, hs, e2, decide_false, a2]
      · refine .inr ⟨j + 1, y, v, m, by simp [mget, e1, a1], ?_, by simpa using a3, a4, a5, fun y' v' hv => ?_, ?_⟩
        · simp only [Instr.findNow, h1, hs, e2, decide_false, a2]
          simp
          omega
        · simp only [mset, e1, if_false, List.modify_succ_cons]
          exact .cons h1 h2 (a6 y' v' hv)
        · simp only [mdel, e1, if_false, List.eraseIdx_cons_succ]
          exact .cons h1 h2 a7
/-- the zero value as one -/
def zeroV (P : Program) (t : TypeId) : Option AV := match P.info? t with
  | some i => (match i.zero with
    | some (.agg cs) => some (.agg (cs.toList.map ofV))
    | some v => some (ofV v)
    | none => none)
  | none => none
def zokV (P : Program) (e : Ety) (t : TypeId) : Prop := match zeroV P t with
  | some z => decV e z = some e.dflt ∧ okV e z
  | none => False
theorem zokV_ok {e : Ety} {t : TypeId} (h : zokV P e t) : ∃ z, Rel R [] (valA e e.dflt) z ∧ ∀ w, (zeroValue t).run P w = .ok z w := by
  unfold zokV at h
  split at h
  · rename_i a ha
    unfold zeroV at ha
    split at ha
    · rename_i i hi
      split at ha
      · rename_i cs hz
        simp only [Option.some.injEq] at ha
        subst ha
        exact ⟨.agg cs, decV_ok (μ := []) (.agg (vs := cs.toList) (ofV_rels R [] cs.toList)) h.1 h.2, fun w => by simp [zeroValue, typeInfo, hi, hz]⟩
      · rename_i v _ hz
        simp only [Option.some.injEq] at ha
        subst ha
        exact ⟨_, decV_ok (μ := []) (ofV_rel R [] v) h.1 h.2, fun w => by simp [zeroValue, typeInfo, hi, hz]⟩
      · simp at ha
    · simp at ha
  · exact h.elim
section
variable {k : KTy} {e : Ety}
theorem mget_mem : ∀ {l : List (k.T × e.T)} {x : k.T} {y : e.T}, (l.map (·.1)).Nodup → (mget l x = some y ↔ (x, y) ∈ l)
  | [], x, y, _ => by simp [mget]
  | p :: l, x, y, h => by
    simp only [List.map_cons, List.nodup_cons] at h
    by_cases hp : p.1 = x
    · subst hp
      simp only [mget, if_true, Option.some.injEq, List.mem_cons]
      constructor
      · intro q; left; rw [← q]
      · rintro (q | q)
        · rw [← q]
        · exact absurd (List.mem_map.2 ⟨_, q, rfl⟩) h.1
    · simp only [mget, if_neg hp, List.mem_cons]
      rw [mget_mem h.2]
      constructor
      · exact .inr
      · rintro (q | q)
        · exact absurd (by rw [← q]) hp
        · exact q
theorem mget_same {l m : List (k.T × e.T)} (h : Same l m) (x : k.T) : mget l x = mget m x := by
  have h2 : (m.map (·.1)).Nodup := (h.1.map _).nodup_iff.1 h.2
  apply Option.ext
  intro y
  rw [mget_mem h.2, mget_mem h2, h.1.mem_iff]
theorem mset_keys : ∀ (l : List (k.T × e.T)) (x : k.T) (y : e.T), (mset l x y).map (·.1) = if x ∈ l.map (·.1) then l.map (·.1) else l.map (·.1) ++ [x]
  | [], x, y => by simp [mset]
  | p :: l, x, y => by
    by_cases hp : p.1 = x
    · simp [mset, hp]
    · have hp' : ¬ x = p.1 := fun q => hp q.symm
      simp only [mset, if_neg hp, List.map_cons, mset_keys l x y, List.mem_cons, hp', false_or]
      split <;> rfl
theorem mset_perm : ∀ {l : List (k.T × e.T)} {x : k.T} {y : e.T}, (l.map (·.1)).Nodup → (mset l x y).Perm ((x, y) :: l.filter fun p => !decide (p.1 = x))
  | [], x, y, _ => by simp [mset]
  | p :: l, x, y, h => by
    simp only [List.map_cons, List.nodup_cons] at h
    by_cases hp : p.1 = x
    · have : l.filter (fun p => !decide (p.1 = x)) = l := by
        rw [List.filter_eq_self]
        intro q hq
        simp only [Bool.not_eq_true', decide_eq_false_iff_not]
        intro e'
        exact h.1 (by rw [hp, ← e']; exact List.mem_map.2 ⟨q, hq, rfl⟩)
      rw [mset, if_pos hp, List.filter_cons, if_neg (by simp [hp]), this]
    · rw [mset, if_neg hp, List.filter_cons, if_pos (by simp [hp])]
      exact ((mset_perm h.2).cons p).trans (List.Perm.swap _ _ _)
theorem mdel_filter : ∀ {l : List (k.T × e.T)} {x : k.T}, (l.map (·.1)).Nodup → mdel l x = l.filter fun p => !decide (p.1 = x)
  | [], x, _ => rfl
  | p :: l, x, h => by
    simp only [List.map_cons, List.nodup_cons] at h
    by_cases hp : p.1 = x
    · have : l.filter (fun p => !decide (p.1 = x)) = l := by
        rw [List.filter_eq_self]
        intro q hq
        simp only [Bool.not_eq_true', decide_eq_false_iff_not]
        intro e'
        exact h.1 (by rw [hp, ← e']; exact List.mem_map.2 ⟨q, hq, rfl⟩)
      rw [mdel, if_pos hp, List.filter_cons, if_neg (by simp [hp]), this]
    · rw [mdel, if_neg hp, List.filter_cons, if_pos (by simp [hp]), mdel_filter h.2]
theorem same_set {l m : List (k.T × e.T)} (h : Same l m) (x : k.T) (y : e.T) : Same (mset l x y) (mset m x y) := by
  have h2 : (m.map (·.1)).Nodup := (h.1.map _).nodup_iff.1 h.2
  refine ⟨(mset_perm h.2).trans (((h.1.filter _).cons _).trans (mset_perm h2).symm), ?_⟩
  rw [mset_keys]
  split
  · exact h.2
  · rename_i hx
    rw [List.nodup_append]
    exact ⟨h.2, by simp, fun a ha b hb e' => by rw [List.mem_singleton] at hb; subst hb; subst e'; exact hx ha⟩
theorem same_del {l m : List (k.T × e.T)} (h : Same l m) (x : k.T) : Same (mdel l x) (mdel m x) := by
  have h2 : (m.map (·.1)).Nodup := (h.1.map _).nodup_iff.1 h.2
  rw [mdel_filter h.2, mdel_filter h2]
  exact ⟨h.1.filter _, h.2.sublist (List.Sublist.map _ List.filter_sublist)⟩
end
/-- the result of looking up -/
def lookR (c : Bool) (a : AV) (b : Bool) : AV := if c then .tup [a, .bool b] else a
def lookupK (P : Program) (t : TypeId) (x i : AV) (c : Bool) (h : List Ch) (K : AV → Prop) : Prop :=
  match kdT P t, x with
  | .map kt et, .mp g => (match hth h g with
    | .map k e kv => (match k.of i with
      | some n => (kdT P kt = k.kd ∧ zokV P e et) ∧ K (lookR c (valA e ((mget kv n).getD e.dflt)) (mget kv n).isSome)
      | none => False)
    | _ => False)
  | _, _ => False
theorem kd_map {t kt et : TypeId} (h : kdT P t = .map kt et) : P.underlying t = some (.map kt et) := by
  unfold kdT at h
  split at h <;> simp_all
theorem map_at {g n : Nat} {k : KTy} {e : Ety} {kv : List (k.T × e.T)} (H : HOk R μ h w) (hg : μ[g]? = some (.mp n)) (hc : h[g]? = some (.map k e kv)) : ∃ es clock kv0, w.heap[n]? = some (.map es clock) ∧ MRel R k e kv0 es.toList ∧ Born es clock ∧ Same kv0 kv := by
  obtain ⟨B, h1, h2, _⟩ := H.rel.get hc
  rw [hg] at h1
  cases h1
  obtain ⟨m, es, clock, kv0, h3, h4, h5, h6, h7, h8⟩ := h2
  cases h3
  exact ⟨es, clock, kv0, h4, ⟨h5, h6⟩, h7, h8⟩
theorem lookupK_ok (H : HOk R μ h w) {t : TypeId} {x i : AV} {vx vi : Value} {c : Bool} {K : AV → Prop} (hx : Rel R μ x vx) (hi : Rel R μ i vi) (hK : lookupK P t x i c h K) : ∃ v a, (Instr.lookup t vx vi c).run P w = .ok v w ∧ K a ∧ Rel R μ a v := by
  unfold lookupK at hK
  split at hK
  · rename_i kt et g hk
    split at hK
    · rename_i k e kv hc
      split at hK
      · rename_i n hn
        obtain ⟨⟨h1, h2⟩, hK⟩ := hK
        have hof := KTy.of_av hn
        subst hof
        have hv := KTy.av_val hi
        subst hv
        cases hx with
        | mp hm =>
          rename_i b
          obtain ⟨es, clock, kv0, h3, h4, _, hsm⟩ := map_at H hm (hth_get hc (by simp))
          rw [← mget_same hsm n] at hK
          obtain ⟨z, h5, h6⟩ := zokV_ok (R := R) h2
          have hu := KTy.und h1
          have hck := run_checkKey (w := w) hu (KTy.isKey n) es.isEmpty 9999
          rcases MRel.find n 0 h4 with ⟨a1, a2, _, _⟩ | ⟨j, y, v, m, a1, a2, a3, a4, a5, _, _⟩
          · have hf := run_findKey (w := w) hu a2
            refine ⟨if c then .tuple #[z, .bool false] else z, _, ?_, hK, ?_⟩
            · unfold Instr.lookup
              simp [run_underlying (kd_map hk), Go.MapKept.run_getObj_map h3, hck, hf, h6, Result.andThen]
            · rw [a1]
              cases c
              · exact h5.mono (RO.le.refl R) (Ext.nil μ)
              · exact .tup (.cons (h5.mono (RO.le.refl R) (Ext.nil μ)) (.cons .bool .nil))
          · have hf := run_findKey (w := w) hu a2
            refine ⟨if c then .tuple #[v, .bool true] else v, _, ?_, hK, ?_⟩
            · unfold Instr.lookup
              simp [run_underlying (kd_map hk), Go.MapKept.run_getObj_map h3, hck, hf, Result.andThen]
            · rw [a1]
              cases c
              · exact a5.mono (RO.le.refl R) (Ext.nil μ)
              · exact .tup (.cons (a5.mono (RO.le.refl R) (Ext.nil μ)) (.cons .bool .nil))
      · exact hK.elim
    · exact hK.elim
  · exact hK.elim
def mupdK (P : Program) (t : TypeId) (m i x : AV) (h : List Ch) (K : List Ch → Prop) : Prop :=
  match kdT P t, m with
  | .map kt _, .mp g => (match hth h g with
    | .map k e kv => (match k.of i, decV e x with
      | some n, some y => (kdT P kt = k.kd ∧ okV e x) ∧ K (h.set g (.map k e (mset kv n y)))
      | _, _ => False)
    | _ => False)
  | _, _ => False
theorem born_push {es : Array MapEntry} {clock : Nat} {x v : Value} (h : Born es clock) : Born (es.push { key := x, val := v, born := clock }) (clock + 1) := by
  refine ⟨fun y hy => ?_, ?_⟩
  · rw [Array.toList_push, List.mem_append, List.mem_singleton] at hy
    rcases hy with hy | rfl
    · have := h.1 y hy; omega
    · exact Nat.lt_succ_self _
  · rw [Array.toList_push, List.map_append, List.nodup_append]
    refine ⟨h.2, by simp, fun a ha b hb e => ?_⟩
    simp only [List.map_cons, List.map_nil, List.mem_singleton] at hb
    obtain ⟨y, hy, rfl⟩ := List.mem_map.1 ha
    have := h.1 y hy
    omega
theorem born_map {j : Nat} {f : MapEntry → MapEntry} (hf : ∀ x, (f x).born = x.born) : ∀ l : List MapEntry, (l.modify j f).map (·.born) = l.map (·.born) := by
  induction j with
  | zero =>
    intro l
    cases l with
    | nil => rfl
    | cons a l => simp [hf]
  | succ j ih =>
    intro l
    cases l with
    | nil => rfl
    | cons a l => simp only [List.modify_succ_cons, List.map_cons, ih]
theorem born_modify {es : Array MapEntry} {clock j : Nat} {x v : Value} (h : Born es clock) : Born (es.modify j fun q => { q with key := x, val := v }) clock := by
  have e := born_map (j := j) (f := fun q => { q with key := x, val := v }) (fun _ => rfl) es.toList
  refine ⟨fun y hy => ?_, ?_⟩
  · have : y.born ∈ es.toList.map (·.born) := by rw [← e, ← Array.toList_modify]; exact List.mem_map.2 ⟨y, hy, rfl⟩
    obtain ⟨z, hz, hzy⟩ := List.mem_map.1 this
    have := h.1 z hz
    omega
  · rw [Array.toList_modify, e]; exact h.2
theorem born_eraseIdx {es : Array MapEntry} {clock j : Nat} (h : Born es clock) : Born (es.eraseIdxIfInBounds j) clock := by
  rw [Array.eraseIdxIfInBounds]
  split
  · refine ⟨fun y hy => h.1 y ?_, ?_⟩
    · rw [Array.toList_eraseIdx] at hy
      exact (List.eraseIdx_sublist _ _).subset hy
    · rw [Array.toList_eraseIdx]
      exact h.2.sublist ((List.eraseIdx_sublist _ _).map _)
  · exact h
/-- a map's block is written anew -/
theorem map_put {g b : Nat} {k : KTy} {e : Ety} {kv kv' kv0' : List (k.T × e.T)} {es es' : Array MapEntry} {clock clock' : Nat} (H : HOk R μ h w) (hm : μ[g]? = some (.mp b)) (hc : h[g]? = some (.map k e kv)) (hb : w.heap[b]? = some (.map es clock)) (hr : MRel R k e kv0' es'.toList) (hbn : Born es' clock') (hsm : Same kv0' kv') :
    HOk R μ (h.set g (.map k e kv')) { w with heap := w.heap.setIfInBounds b (.map es' clock') } ∧ Step (ownH h μ) R w (ownH (h.set g (.map k e kv')) μ) R { w with heap := w.heap.setIfInBounds b (.map es' clock') } := by
  obtain ⟨k1, k2⟩ := heap_set (o' := .map es' clock') hb
  exact H.set hc hm (List.Sublist.refl _) (fun n _ hn => k2 n fun q => hn (by simp [ownC, q])) (by simp) ⟨b, es', clock', kv0', rfl, k1, hr.1, hr.2, hbn, hsm⟩ rfl rfl rfl
theorem MRel.snoc {k : KTy} {e : Ety} {n : k.T} {y : e.T} {v : Value} {c : Nat} (hv : Rel R [] (valA e y) v) : ∀ {kv : List (k.T × e.T)} {es : List MapEntry}, MRel R k e kv es → MRel R k e (kv ++ [(n, y)]) (es ++ [{ key := k.val n, val := v, born := c }])
  | [], es, h => by
    rw [h.nil_inv]
    exact .cons rfl hv ⟨.nil, .nil⟩
  | p :: kv, es, h => by
    obtain ⟨x, r, rfl, h1, h2, h3⟩ := h.cons_inv
    exact .cons h1 h2 (MRel.snoc hv h3)
theorem mupdK_ok (H : HOk R μ h w) {t : TypeId} {m i x : AV} {vm vi vx : Value} {K : List Ch → Prop} (hm : Rel R μ m vm) (hi : Rel R μ i vi) (hx : Rel R μ x vx) (hK : mupdK P t m i x h K) : ∃ w' h', (Instr.mapUpdate t vm vi vx).run P w = .ok () w' ∧ K h' ∧ HOk R μ h' w' ∧ Step (ownH h μ) R w (ownH h' μ) R w' := by
  unfold mupdK at hK
  split at hK
  · rename_i kt et g hk
    split at hK
    · rename_i k e kv hc
      split at hK
      · rename_i n y hn hy
        obtain ⟨⟨h1, h2⟩, hK⟩ := hK
        have hof := KTy.of_av hn
        subst hof
        have hv := KTy.av_val hi
        subst hv
        cases hm with
        | mp hm =>
          rename_i b
          have hcg := hth_get hc (by simp)
          obtain ⟨es, clock, kv0, h3, h4, hbn, hsm⟩ := map_at H hm hcg
          have hsm' := same_set hsm n y
          have hu := KTy.und h1
          have hck := run_checkKey (w := w) hu (KTy.isKey n) false 9999
          have hyv := decV_ok hx hy h2
          rcases MRel.find n 0 h4 with ⟨a1, a2, a3, _⟩ | ⟨j, y', v, q, a1, a2, a3, a4, a5, a6, _⟩
          · have hf := run_findKey (w := w) hu a2
            have hr : MRel R k e (mset kv0 n y) (es.push { key := k.val n, val := vx, born := clock }).toList := by
              rw [a3, Array.toList_push]
              exact .snoc hyv h4
            obtain ⟨H', hs⟩ := map_put (clock' := clock + 1) H hm hcg h3 hr (born_push hbn) hsm'
            refine ⟨_, _, ?_, hK, H', hs⟩
            unfold Instr.mapUpdate
            simp [run_underlying (kd_map hk), Go.MapKept.run_getObj_map h3, hck, hf, run_setObj_map _ h3, Result.andThen]
          · have hf := run_findKey (w := w) hu a2
            have hr : MRel R k e (mset kv0 n y) (es.modify j fun q => { q with key := k.val n, val := vx }).toList := by
              rw [Array.toList_modify]
              exact a6 y vx hyv
            obtain ⟨H', hs⟩ := map_put (clock' := clock) H hm hcg h3 hr (born_modify hbn) hsm'
            refine ⟨_, _, ?_, hK, H', hs⟩
            have hst := run_keyThatStays (P := P) (w := w) (KTy.isKey n)
            have hq : (es[j]?.map (·.key)).getD (k.val n) = k.val n := by
              have : es[j]? = some q := by simpa using a3
              rw [this]
              simp [a4]
            unfold Instr.mapUpdate
            simp only [Sem.run_bind, run_underlying (kd_map hk), Result.andThen_ok, Go.MapKept.run_getObj_map h3, hck, hf, Nat.zero_add, hq, hst, run_setObj_map _ h3]
      · exact hK.elim
    · exact hK.elim
  · exact hK.elim
/-- a new map -/
def mmapK [ETab] (P : Program) (t : TypeId) (r : Option AV) (h : List Ch) (K : AV → List Ch → Prop) : Prop :=
  match kdT P t, ETab.mof t, r with
  | .map _ _, some (k, e), none => K (.mp h.length) (h ++ [.map k e []])
  | .map _ _, some (k, e), some (.int _ _) => K (.mp h.length) (h ++ [.map k e []])
  | _, _, _ => False
theorem newMap (H : HOk R μ h w) {k : KTy} {e : Ety} :
    HOk R (μ ++ [.mp w.heap.size]) (h ++ [.map k e []]) (w.alloc (.map #[] 0)) ∧ Step (ownH h μ) R w (ownH (h ++ [.map k e []]) (μ ++ [.mp w.heap.size])) R (w.alloc (.map #[] 0)) :=
  H.push (fun n hn => RowKit.Below.heap_alloc w _ n hn) (by simp) (by simp [ownC]) (fun n hn => by simp [ownC] at hn; subst hn; simp)
    ⟨w.heap.size, #[], 0, [], rfl, heap_alloc_new w _, .nil, .nil, ⟨fun x hx => by simp at hx, by simp⟩, List.Perm.refl _, by simp⟩ rfl rfl rfl
theorem mp_new (H : HOk R μ h w) : Rel R (μ ++ [.mp w.heap.size]) (.mp h.length) (.map (some w.heap.size)) :=
  .mp (by rw [H.rel.len]; simp)
theorem mmapK_ok [ETab] (H : HOk R μ h w) {t : TypeId} {r : Option AV} {vr : Option Value} {K : AV → List Ch → Prop} (hr : match r, vr with | none, none => True | some a, some v => Rel R μ a v | _, _ => False) (hK : mmapK P t r h K) : GivesH P R μ h w K (Instr.makeMap t vr) := by
  unfold mmapK at hK
  split at hK
  · rename_i kt et k e hk _
    obtain ⟨H', hs⟩ := newMap H (k := k) (e := e)
    cases vr with
    | none => exact ⟨_, _, R, _, _, _, rfl, hK, mp_new H, H', Ext.app _ _, hs⟩
    | some v => exact hr.elim
  · rename_i kt et k e _ _ hk _
    obtain ⟨H', hs⟩ := newMap H (k := k) (e := e)
    cases vr with
    | none => exact hr.elim
    | some v =>
      replace hr : Rel R μ (.int _ _) v := hr
      cases hr
      exact ⟨_, _, R, _, _, _, (by
        have e1 : (newObj (.map #[] 0)).run P w = .ok w.heap.size (w.alloc (.map #[] 0)) := rfl
        simp only [Instr.makeMap, Sem.run_bind, run_underlying (kd_map hk), Result.andThen_ok, asInt, asIntOf, Sem.run_pure, e1]), hK, mp_new H, H', Ext.app _ _, hs⟩
  · exact hK.elim
def mdelK (P : Program) (t : TypeId) (m i : AV) (h : List Ch) (K : List Ch → Prop) : Prop :=
  match kdT P t, m with
  | .map kt _, .mp g => (match hth h g with
    | .map k e kv => (match k.of i with
      | some n => (kdT P kt = k.kd) ∧ K (h.set g (.map k e (mdel kv n)))
      | none => False)
    | _ => False)
  | _, _ => False
theorem mdelK_ok (H : HOk R μ h w) {t : TypeId} {m i : AV} {vm vi : Value} {ts : Array TypeId} {ty : TypeId} {K : List Ch → Prop} (ht : ts[0]? = some t) (hm : Rel R μ m vm) (hi : Rel R μ i vi) (hK : mdelK P t m i h K) : ∃ w' h', (Builtin.delete_ ts ty #[vm, vi]).run P w = .ok (.tuple #[]) w' ∧ K h' ∧ HOk R μ h' w' ∧ Step (ownH h μ) R w (ownH h' μ) R w' := by
  unfold mdelK at hK
  split at hK
  · rename_i kt et g hk
    split at hK
    · rename_i k e kv hc
      split at hK
      · rename_i n hn
        obtain ⟨h1, hK⟩ := hK
        have hof := KTy.of_av hn
        subst hof
        have hv := KTy.av_val hi
        subst hv
        cases hm with
        | mp hm =>
          rename_i b
          have hcg := hth_get hc (by simp)
          obtain ⟨es, clock, kv0, h3, h4, hbn, hsm⟩ := map_at H hm hcg
          have hsm' := same_del hsm n
          have hu := KTy.und h1
          have hck := run_checkKey (w := w) hu (KTy.isKey n) es.isEmpty 9999
          rcases MRel.find n 0 h4 with ⟨a1, a2, _, a3⟩ | ⟨j, y', v, q, a1, a2, a3, a4, a5, _, a6⟩
          · have hf := run_findKey (w := w) hu a2
            have hr : MRel R k e (mdel kv0 n) es.toList := by rw [a3]; exact h4
            obtain ⟨H', hs⟩ := map_put (clock' := clock) H hm hcg h3 hr hbn hsm'
            refine ⟨_, _, ?_, hK, H', hs⟩
            unfold Builtin.delete_
            simp [ht, run_underlying (kd_map hk), Go.MapKept.run_getObj_map h3, hck, hf, run_setObj_map _ h3, Result.andThen]
          · have hf := run_findKey (w := w) hu a2
            have hr : MRel R k e (mdel kv0 n) (es.eraseIdxIfInBounds j).toList := by
              have : j < es.size := by have := (List.getElem?_eq_some_iff.1 a3).1; simpa using this
              rw [Array.eraseIdxIfInBounds, dif_pos this, Array.toList_eraseIdx]
              exact a6
            obtain ⟨H', hs⟩ := map_put (clock' := clock) H hm hcg h3 hr (born_eraseIdx hbn) hsm'
            refine ⟨_, _, ?_, hK, H', hs⟩
            unfold Builtin.delete_
            simp [ht, run_underlying (kd_map hk), Go.MapKept.run_getObj_map h3, hck, hf, run_setObj_map _ h3, Result.andThen]
      · exact hK.elim
    · exact hK.elim
  · exact hK.elim
def mlenK (P : Program) (t : TypeId) (m : AV) (h : List Ch) (K : AV → Prop) : Prop :=
  match kdT P t, m with
  | .map _ _, .mp g => (match hth h g with
    | .map _ _ kv => K (.int .i64 kv.length)
    | _ => False)
  | _, _ => False
theorem mlenK_ok (H : HOk R μ h w) {t : TypeId} {m : AV} {vm : Value} {ts : Array TypeId} {ty : TypeId} {K : AV → Prop} (ht : ts[0]? = some t) (hm : Rel R μ m vm) (hK : mlenK P t m h K) : ∃ n, (Builtin.len_ ts ty #[vm]).run P w = .ok (.int .i64 n) w ∧ K (.int .i64 n) := by
  unfold mlenK at hK
  split at hK
  · rename_i kt et g hk
    split at hK
    · rename_i k e kv hc
      cases hm with
      | mp hm =>
        rename_i b
        obtain ⟨es, clock, kv0, h3, h4, _, hsm⟩ := map_at H hm (hth_get hc (by simp))
        have hl := h4.1.len
        simp only [List.length_map, Array.length_toList] at hl
        rw [hsm.1.length_eq] at hl
        refine ⟨_, ?_, hK⟩
        unfold Builtin.len_
        simp [ht, run_underlying (kd_map hk), Go.MapKept.run_getObj_map h3, hl, goInt, Result.andThen]
    · exact hK.elim
  · exact hK.elim
def len2K (P : Program) (t : TypeId) (kd : Kd) (x : AV) (h : List Ch) (K : AV → Prop) : Prop :=
  match kd with
  | .map _ _ => mlenK P t x h K
  | kd => lenTK kd x K
end Go.V

namespace Go.V

variable {P : Program} {R : RO} {μ : List Bind} {h : List Ch} {w : World}

abbrev KT := AV → List Ch → Prop

/-- what a call must lead to -/
def Leads (R : RO) (μ : List Bind) (h : List Ch) (w : World) (K : KT) : Ending → World → Prop := fun e w' =>
  ∃ v R' μ' h' av, e = .returned v ∧ K av h' ∧ Rel R' μ' av v ∧ HOk R' μ' h' w' ∧ Ext μ μ' ∧ Step (ownH h μ) R w (ownH h' μ') R' w'
/-- the function's place in the program -/
def Here (P : Program) (g : FuncId) : Prop := ∃ fn, P.funcs[g]? = some fn ∧ fn.body.isNone = false ∧ (fn.name == "runtime.NumGoroutine") = false
/-- what function g does, called with these arguments over this memory: K holds behind it -/
structure Does (P : Program) (g : FuncId) (args : List AV) (h : List Ch) (K : KT) : Prop where
  here : Here P g
  run : ∀ (R : RO) (μ : List Bind) (w : World) (vs : List Value), LRel R μ args vs → HOk R μ h w → Calls P g vs.toArray w (Leads R μ h w K)

/-! ### Objects are opened -/

namespace Go.V

variable {P : Program} {R : RO} {μ : List Bind} {h : List Ch} {w : World}

theorem hth_set_ne {h : List Ch} {t s : Nat} {c : Ch} (hne : t ≠ s) : hth (h.set t c) s = hth h s := by
  induction h generalizing t s with
  | nil => simp
  | cons a l ih =>
    cases t with
    | zero => cases s with
      | zero => exact absurd rfl hne
      | succ s => rfl
    | succ t => cases s with
      | zero => rfl
      | succ s => simpa [hth] using ih (t := t) (s := s) (by omega)
theorem hth_set_eq {h : List Ch} {t : Nat} {c : Ch} (ht : t < h.length) : hth (h.set t c) t = c := by
  induction h generalizing t with
  | nil => simp at ht
  | cons a l ih =>
    cases t with
    | zero => rfl
    | succ t => simpa [hth] using ih (t := t) (by simpa using ht)
theorem hth_lt {h : List Ch} {t : Nat} (hc : hth h t ≠ .gone) : t < h.length := by
  have := hth_get (h := h) (t := t) rfl hc
  exact (List.getElem?_eq_some_iff.1 this).1
/-! ### Chunks that go -/
def goneH (h : List Ch) : List Nat → List Ch
  | [] => h
  | t :: ts => goneH (h.set t .gone) ts
theorem goneH_len (h : List Ch) : ∀ ts : List Nat, (goneH h ts).length = h.length := by
  intro ts
  induction ts generalizing h with
  | nil => rfl
  | cons t ts ih => simp [goneH, ih]
theorem goneH_hth {h : List Ch} {t : Nat} : ∀ {ts : List Nat}, t ∉ ts → hth (goneH h ts) t = hth h t := by
  intro ts
  induction ts generalizing h with
  | nil => intro _; rfl
  | cons s ts ih =>
    intro hn
    simp only [List.mem_cons, not_or] at hn
    rw [goneH, ih hn.2, hth_set_ne (Ne.symm hn.1)]
theorem gone_own {c : Ch} {B : Bind} : ∀ {h : List Ch} {m : List Bind} {t : Nat}, (ownH h m).Nodup → h[t]? = some c → m[t]? = some B → ∀ b ∈ ownH (h.set t .gone) m, b ∈ ownH h m ∧ b ∉ ownC c B := by
  intro h m t hn e1 e2 b hb
  refine ⟨?_, fun hx => own_gone hn e1 e2 b hx hb⟩
  exact (ownH_set_sub (c' := .gone) fun c0 B0 _ _ => by simp [ownC]).subset hb
theorem HOk.goneH {h : List Ch} (H : HOk R μ h w) : ∀ ts : List Nat, HOk R μ (goneH h ts) w ∧ (∀ b ∈ ownH (V.goneH h ts) μ, b ∈ ownH h μ) ∧ ∀ t ∈ ts, ∀ c B, h[t]? = some c → μ[t]? = some B → ∀ b ∈ ownC c B, b ∉ ownH (V.goneH h ts) μ := by
  intro ts
  induction ts generalizing h with
  | nil => exact ⟨H, fun b hb => hb, fun t ht => by cases ht⟩
  | cons t ts ih =>
    simp only [V.goneH]
    have H1 : HOk R μ (h.set t .gone) w ∧ (∀ b ∈ ownH (h.set t .gone) μ, b ∈ ownH h μ) := by
      cases hc : h[t]? with
      | none =>
        rw [List.set_eq_of_length_le (by simpa using hc)]
        exact ⟨H, fun b hb => hb⟩
      | some c =>
        obtain ⟨B, hB, _, _⟩ := H.rel.get hc
        exact ⟨(H.set (c' := .gone) (w' := w) hc hB (gone_sub _ _) (fun _ _ _ => rfl) (Nat.le_refl _) trivial rfl rfl rfl).1, fun b hb => (gone_own H.nodup hc hB b hb).1⟩
    obtain ⟨a1, a2, a3⟩ := ih H1.1
    refine ⟨a1, fun b hb => H1.2 b (a2 b hb), fun s hs c B hc hB b hb hx => ?_⟩
    have hx' := a2 b hx
    by_cases e : s = t
    · subst e
      exact own_gone H.nodup hc hB b hb hx'
    · rcases List.mem_cons.1 hs with e' | hs'
      · exact e e'
      · exact a3 s hs' c B (by rw [List.getElem?_set_ne (Ne.symm e)]; exact hc) hB b hb hx

/-- the object at t, with what lies at ts, is closed to l -/
def closeH (h : List Ch) (t : Nat) (ts : List Nat) (l : List Ch) : List Ch := (goneH h ts).set t (.pack l)
theorem close_ok (H : HOk R μ h w) {t : Nat} {ts : List Nat} {vs : List AV} {l : List Ch} (hf : fitHs (t :: ts) h (.cells vs :: l) (t :: ts)) (hn : (t :: ts).Nodup) :
    ∃ μ', HOk R μ' (closeH h t ts (.cells vs :: l)) w ∧ Ext μ μ' ∧ Step (ownH h μ) R w (ownH (closeH h t ts (.cells vs :: l)) μ') R w := by
  obtain ⟨h1, h2, h3⟩ := fitH_ok H hf hn
  have hlt : t < h.length := hf.1
  have hct := hth_some hlt
  obtain ⟨B, hB, hr, _⟩ := H.rel.get hct
  have hp : pickB (t :: ts) μ = B :: pickB ts μ := by simp [pickB, hB]
  rw [hp] at h1 h2 h3
  have hB2 : ∃ n, B = .cel n := by obtain ⟨n, _, _, e, _⟩ := h1.1; exact ⟨n, e⟩
  obtain ⟨n, rfl⟩ := hB2
  obtain ⟨G1, G2, G3⟩ := H.goneH ts
  have htn : t ∉ ts := (List.nodup_cons.1 hn).1
  have hgt : (goneH h ts)[t]? = some (hth h t) := by
    have := hth_some (h := goneH h ts) (t := t) (by rw [goneH_len]; exact hlt)
    rw [goneH_hth htn] at this
    exact this
  have hext : Ext μ (μ.set t (.pack (.cel n :: pickB ts μ))) := Ext.set hB (.inr ⟨n, rfl, rfl⟩)
  have hown : ownC (.pack (.cells vs :: l)) (.pack (.cel n :: pickB ts μ)) = ownH (.cells vs :: l) (.cel n :: pickB ts μ) := by simp [ownC]
  have hrel : HRel R w (μ.set t (.pack (.cel n :: pickB ts μ))) (closeH h t ts (.cells vs :: l)) (μ.set t (.pack (.cel n :: pickB ts μ))) :=
    HRel.swap (RO.le.refl R) hext (c' := .pack (.cells vs :: l)) ⟨_, rfl, h1⟩ G1.rel G1.nodup hgt hB fun _ _ _ => rfl
  have hin : ∀ b ∈ ownH (.cells vs :: l) (.cel n :: pickB ts μ), b ∈ ownH h μ := fun b hb => by
    obtain ⟨s, _, c, C, e1, e2, e3⟩ := h3 b hb
    exact own_mem e1 e2 b e3
  have hsub : ∀ b ∈ ownH (closeH h t ts (.cells vs :: l)) (μ.set t (.pack (.cel n :: pickB ts μ))), b ∈ ownH h μ := fun b hb => by
    rcases own_swap G1.nodup hgt hB b hb with hb | hb
    · rw [hown] at hb; exact hin b hb
    · exact G2 b hb.1
  refine ⟨_, ⟨hrel, ?_, fun b hb => H.own b (hsub b hb), H.ro⟩, hext, ⟨RO.le.refl R, Nat.le_refl _, fun _ _ _ => rfl, fun b hb => .inl (hsub b hb), fun _ _ hb => .inl hb, rfl, rfl, rfl, Nat.le_refl _⟩⟩
  refine own_swap_nodup (by rw [hown]; exact h2) G1.nodup hgt hB fun b hb hg => ?_
  rw [hown] at hb
  obtain ⟨s, hs, c, C, e1, e2, e3⟩ := h3 b hb
  rcases List.mem_cons.1 hs with rfl | hs
  · rw [hct] at e1
    rw [hB] at e2
    cases e1; cases e2
    exact e3
  · exact absurd hg (G3 s hs c C e1 e2 b e3)

/-- the object at t is closed: what lies there, and at ts, is what l describes, tags read through -/
def Shut (h : List Ch) (t : Nat) (ts : List Nat) (l : List Ch) : Prop := (∃ vs l', l = .cells vs :: l') ∧ fitHs (t :: ts) h l (t :: ts) ∧ (t :: ts).Nodup
def isNil : AV → Prop
  | .lit (.slice none 0 0) => True
  | _ => False
theorem adopt_ok (H : HOk R μ h w) (e : Ety) : HOk R (μ ++ [.none]) (h ++ [.rows e []]) w ∧ Step (ownH h μ) R w (ownH (h ++ [.rows e []]) (μ ++ [.none])) R w ∧ Rel R (μ ++ [.none]) (.sl h.length e 0 0) (.slice none 0 0) := by
  obtain ⟨H', hst⟩ := H.push (c := .rows e []) (B := .none) (w' := w) (fun _ _ => rfl) (Nat.le_refl _) (by simp [ownC]) (by simp [ownC]) (.inl ⟨rfl, rfl⟩) rfl rfl rfl
  exact ⟨H', hst, .sl0 (.inl (by rw [H.rel.len]; simp))⟩
theorem isNil_eq {a : AV} (h : isNil a) : a = .lit (.slice none 0 0) := by
  unfold isNil at h
  split at h
  · rfl
  · exact h.elim
theorem lset_rel {tm : List AV} {vs : List Value} (h1 : LRel R μ tm vs) {t : Nat} {x y : AV} (hx : nthA tm t = x) (hf : ∀ v, Rel R μ x v → Rel R μ y v) : LRel R μ (tm.set t y) vs := by
  induction tm generalizing t vs with
  | nil => simpa using h1
  | cons a l ih =>
    cases h1 with
    | cons ha hl =>
      cases t with
      | zero => simp only [nthA] at hx; subst hx; exact .cons (hf _ ha) hl
      | succ n => exact .cons ha (ih hl (by simpa [nthA] using hx))

theorem adoptC_ok (H : HOk R μ h w) {t i : Nat} {vs : List AV} (e : Ety) (hc : hth h t = .cells vs) (hn : isNil (nthA vs i)) :
    ∃ μ', HOk R μ' (h.set t (.cells (vs.set i (.sl h.length e 0 0))) ++ [.rows e []]) w ∧ Ext μ μ' ∧ Step (ownH h μ) R w (ownH (h.set t (.cells (vs.set i (.sl h.length e 0 0))) ++ [.rows e []]) μ') R w := by
  have hct := hth_get hc (by simp)
  obtain ⟨H', hst, hr⟩ := adopt_ok H e
  have hlt : t < h.length := (List.getElem?_eq_some_iff.1 hct).1
  have hct' : (h ++ [Ch.rows e []])[t]? = some (.cells vs) := by rw [List.getElem?_append_left hlt]; exact hct
  obtain ⟨B, hB, ⟨n, arr, ty, rfl, h1, h2⟩, _⟩ := H'.rel.get hct'
  obtain ⟨H2, hst2⟩ := H'.set (c' := .cells (vs.set i (.sl h.length e 0 0))) (w' := w) hct' hB (by simp [ownC]) (fun _ _ _ => rfl) (Nat.le_refl _)
    ⟨n, arr, ty, rfl, h1, lset_rel h2 (isNil_eq hn) (fun v hv => by cases hv; exact hr)⟩ rfl rfl rfl
  rw [List.set_append_left _ _ hlt] at H2 hst2
  exact ⟨_, H2, Ext.app _ _, hst.trans hst2⟩
/-! ### Steps that the machine does not see -/

namespace Go.V

variable {P : Program} {R : RO} {μ : List Bind} {h : List Ch} {w : World}

def putA (tm : List AV) (d : Option Nat) (v : AV) : List AV :=
  match d with
  | none => tm
  | some d => tm.set d v
def dstAt : List Oper → Nat → Option Nat
  | [], _ => none
  | o :: _, 0 => o.dst
  | _ :: l, n + 1 => dstAt l n

structure Post where
  n : List AV → List Ch → Prop
  x : Nat → List AV → List Ch → Prop
  r : List AV → List Ch → Prop
def Post.at (q : Post) : Exit → List AV → List Ch → Prop
  | .normal, tm, h => q.n tm h
  | .exit i, tm, h => i < 1000000 ∧ q.x i tm h
  | .goto l, tm, h => q.x (l + 1000000) tm h
  | .ret, tm, h => q.r tm h
  | _, _, _ => False

def dsts : List Oper → List Nat
  | [] => []
  | o :: l => (match o.dst with | some d => d :: dsts l | none => dsts l)
/-- slots that a code writes -/
def writes : Code → List Nat
  | .region _ ops _ => dsts ops.toList
  | .seq a b => writes a ++ writes b
  | .cond _ a b => writes a ++ writes b
  | .block _ c => writes c
  | .loop c => writes c
  | .scope c => writes c
  | _ => []
def killT (tm : List AV) : List Nat → List AV
  | [] => tm
  | d :: l => killT (tm.set d .any) l
def liveT (tm : List AV) : List (Nat × AV) → List AV
  | [] => tm
  | (d, v) :: l => liveT (tm.set d v) l
def setH (h : List Ch) : List (Nat × Ch) → List Ch
  | [] => h
  | (t, c) :: l => setH (h.set t c) l

structure SR (R : RO) (μ : List Bind) (tm : List AV) (h : List Ch) (a : Act) (w : World) : Prop where
  mem : HOk R μ h w
  tm : LRel R μ tm a.tmps.toList
  dfr : a.defers = []

theorem SR.put {tm : List AV} {a : Act} {R' : RO} {μ' : List Bind} {h' : List Ch} {w' : World} {av : AV} {v : Value} (s : SR R μ tm h a w) (d : Option Tmp) (hr : Rel R' μ' av v) (H' : HOk R' μ' h' w') (hR : R.le R') (hm : Ext μ μ') : SR R' μ' (putA tm d av) h' (a.put d v) w' := by
  have h1 := s.tm.mono hR hm
  refine ⟨H', ?_, ?_⟩
  · cases d with
    | none => exact h1
    | some d => simpa [putA, Act.put] using h1.set d hr
  · cases d <;> exact s.dfr
theorem SR.tag {tm : List AV} {a : Act} (s : SR R μ tm h a w) {t : Nat} {b : Bool} (hb : nthA tm t = .bool b) : SR R μ (tm.set t (.bool b)) h a w := by
  refine ⟨s.mem, ?_, s.dfr⟩
  have h1 := s.tm
  generalize a.tmps.toList = vs at h1
  clear s
  induction tm generalizing t vs with
  | nil => simpa using h1
  | cons x l ih =>
    cases h1 with
    | cons hx hl =>
      cases t with
      | zero => simp only [nthA] at hb; subst hb; exact .cons hx hl
      | succ n => exact .cons hx (ih (by simpa [nthA] using hb) _ hl)

theorem nth_rel {tm : List AV} {a : Act} (s : SR R μ tm h a w) {t : Nat} {b : Bool} (hb : nthA tm t = .bool b) : a.tmps[t]? = some (.bool b) := by
  have h1 := s.tm
  cases e : a.tmps[t]? with
  | none =>
    have : tm.length ≤ t := by rw [h1.len]; simpa using e
    rw [nthA_none tm t this] at hb
    simp at hb
  | some v =>
    have := h1.nth t (v := v) (by simpa using e)
    rw [hb] at this
    cases this; rfl
theorem dstAt_get : ∀ (l : List Oper) (j : Nat), dstAt l j = (l[j]?).bind (·.dst)
  | [], _ => by simp [dstAt]
  | o :: l, 0 => by simp [dstAt]
  | o :: l, n + 1 => by simp [dstAt, dstAt_get l n]

/-! ### A loop, by a relation with a number -/
theorem wp_loop_rel {c : Code} {Q : Exit → Act → World → Prop} {a : Act} {w : World} (I : Nat → Act → World → Prop) (n : Nat) (h₀ : I n a w)
    (round : ∀ n a w, I n a w → c.wp P (Exit.then (fun a' w' => ∃ m, m < n ∧ I m a' w') Q) a w) : (Code.loop c).wp P Q a w := by
  intro b k cs
  have key : ∀ n a w, I n a w → ∃ e a' w', Q e a' w' ∧ Arrives P (lone (b.at a (.code c :: .inLoop c :: k)) cs w) b k cs e a' w' := by
    intro n
    induction n using Nat.strongRecOn with
    | _ n ih =>
      intro a w hI
      obtain ⟨e, a₁, w₁, hq, harr⟩ := round n a w hI b (.inLoop c :: k) cs
      cases e with
      | normal =>
        obtain ⟨m, hlt, hI₁⟩ := hq
        obtain ⟨e₂, a₂, w₂, hq₂, harr₂⟩ := ih m hlt a₁ w₁ hI₁
        exact ⟨e₂, a₂, w₂, hq₂, .of_steps (Steps.trans harr (.one step_inLoop)) harr₂⟩
      | exit id => exact ⟨_, a₁, w₁, hq, .pass (x := .inLoop c) rfl (fun _ _ => .inl (by simp)) harr⟩
      | goto l => exact ⟨_, a₁, w₁, hq, .pass (x := .inLoop c) rfl (fun _ _ => .inl (by simp)) harr⟩
      | ret => exact ⟨_, a₁, w₁, hq, .pass (x := .inLoop c) rfl (fun _ _ => .inl (by simp)) harr⟩
      | panic ch => exact ⟨_, a₁, w₁, hq, .pass (x := .inLoop c) rfl (fun _ _ => .inl (by simp)) harr⟩
      | outgrown => exact ⟨_, a₁, w₁, hq, .pass (x := .inLoop c) rfl (fun _ _ => .inl (by simp)) harr⟩
  obtain ⟨e, a', w', hq, harr⟩ := key n a w h₀
  exact ⟨e, a', w', hq, .of_steps (.one step_loop) harr⟩

/-- the first k tags are as they were -/
structure Keeps (k : Nat) (μ μ' : List Bind) : Prop where
  len : k ≤ μ'.length
  get : ∀ {t : Nat} {B : Bind}, t < k → μ[t]? = some B → ∃ B', μ'[t]? = some B' ∧ BLe B B'
theorem Keeps.refl {k : Nat} {μ : List Bind} (h : k ≤ μ.length) : Keeps k μ μ := ⟨h, fun _ h => ⟨_, h, .refl _⟩⟩
theorem Keeps.trans {k : Nat} {a b c : List Bind} (h : Keeps k a b) (g : Keeps k b c) : Keeps k a c := ⟨g.len, fun ht hb => by
  obtain ⟨B', h1, h2⟩ := h.get ht hb
  obtain ⟨B2, h3, h4⟩ := g.get ht h1
  exact ⟨B2, h3, h2.trans h4⟩⟩
theorem Keeps.ext {k : Nat} {μ μ' : List Bind} (h : k ≤ μ.length) (e : Ext μ μ') : Keeps k μ μ' := ⟨Nat.le_trans h e.len, fun _ hb => e.get hb⟩
theorem Keeps.pick {k : Nat} {μ : List Bind} {σ : List Nat} (h : σ.take k = List.range k) : Keeps k μ (pickB σ μ) := by
  have h1 : k ≤ σ.length := by
    have := congrArg List.length h
    simp at this
    omega
  refine ⟨by simp [pickB, h1], fun {t B} ht hb => ⟨B, pickB_get (t' := t) ?_ hb, .refl _⟩⟩
  have := congrArg (·[t]?) h
  simpa [List.getElem?_take, ht] using this
/-! ### What a code does -/
/-- what holds at an end -/
def EndQ (k : Nat) (R : RO) (μ : List Bind) (h : List Ch) (w : World) (q : Post) : Exit → Act → World → Prop := fun e a' w' =>
  ∃ R' μ' tm' h', SR R' μ' tm' h' a' w' ∧ Step (ownH h μ) R w (ownH h' μ') R' w' ∧ Keeps k μ μ' ∧ q.at e tm' h'
theorem EndQ.pre {k : Nat} {R' : RO} {μ' : List Bind} {h' : List Ch} {w' : World} {q : Post} (st : Step (ownH h μ) R w (ownH h' μ') R' w') (kp : Keeps k μ μ') {e : Exit} {a2 : Act} {w2 : World} (hq : EndQ k R' μ' h' w' q e a2 w2) : EndQ k R μ h w q e a2 w2 := by
  obtain ⟨R2, μ2, tm2, h2, s2, st2, kp2, hq⟩ := hq
  exact ⟨R2, μ2, tm2, h2, s2, st.trans st2, kp.trans kp2, hq⟩
/-- code c, from these slots and this memory, ends as asked; the first k tags stay -/
structure Wp (P : Program) (k : Nat) (c : Code) (tm : List AV) (h : List Ch) (q : Post) : Prop where
  run : ∀ (R : RO) (μ : List Bind) (a : Act) (w : World), SR R μ tm h a w → k ≤ μ.length → c.wp P (EndQ k R μ h w q) a w
/-- behind operations -/
def Then (k : Nat) (R : RO) (μ : List Bind) (h : List Ch) (w : World) (K : List AV → List Ch → Prop) (Q : Act → World → Prop) : Prop :=
  ∀ R' μ' tm' h' a' w', SR R' μ' tm' h' a' w' → Step (ownH h μ) R w (ownH h' μ') R' w' → Keeps k μ μ' → K tm' h' → Q a' w'
/-- operations, from these slots and this memory -/
structure Ops (P : Program) (k : Nat) (all l : List Oper) (tm : List AV) (h : List Ch) (K : List AV → List Ch → Prop) : Prop where
  run : ∀ (R : RO) (μ : List Bind) (a : Act) (w : World), SR R μ tm h a w → k ≤ μ.length → ∀ Q : Exit → Act → World → Prop, Then k R μ h w K (Q .normal) → wpList P all.toArray Q l a w

section
variable {k : Nat} {tm : List AV} {q : Post} {all r l : List Oper} {K : List AV → List Ch → Prop}
theorem Wp.of_ops {id : Nat} (H : Ops P k l l tm h q.n) : Wp P k (.region id l.toArray false) tm h q :=
  ⟨fun R μ a w s hl => wp_region_list (H.run R μ a w s hl _ fun R' μ' tm' h' a' w' s' st kp hq => ⟨R', μ', tm', h', s', st, kp, hq⟩)⟩
theorem Then.pre {R' : RO} {μ' : List Bind} {h' : List Ch} {w' : World} {Q : Act → World → Prop} (hq : Then k R μ h w K Q) (st : Step (ownH h μ) R w (ownH h' μ') R' w') (kp : Keeps k μ μ') : Then k R' μ' h' w' K Q :=
  fun R2 μ2 tm2 h2 a2 w2 s2 st2 kp2 hk => hq R2 μ2 tm2 h2 a2 w2 s2 (st.trans st2) (kp.trans kp2) hk

theorem Wp.ghost {c : Code} {tm' : List AV} {h' : List Ch} (hg : Gh tm h tm' h') (H : Wp P k c tm' h' q) : Wp P k c tm h q :=
  ⟨fun R μ a w s hl => by
    obtain ⟨R', μ', H', st, e, f⟩ := hg R μ w _ s.mem s.tm
    have kp := Keeps.ext hl e
    exact wp_mono (H.run R' μ' a w ⟨H', f _ s.tm, s.dfr⟩ kp.len) fun e a w hq => hq.pre st kp⟩
theorem Ops.ghost {tm' : List AV} {h' : List Ch} (hg : Gh tm h tm' h') (H : Ops P k all l tm' h' K) : Ops P k all l tm h K :=
  ⟨fun R μ a w s hl Q hQ => by
    obtain ⟨R', μ', H', st, e, f⟩ := hg R μ w _ s.mem s.tm
    have kp := Keeps.ext hl e
    exact H.run R' μ' a w ⟨H', f _ s.tm, s.dfr⟩ kp.len Q (hQ.pre st kp)⟩
theorem Does.ghost {g : FuncId} {as as' : List AV} {h' : List Ch} {K : KT} (hg : Gh as h as' h') (H : Does P g as' h' K) : Does P g as h K :=
  ⟨H.here, fun R μ w vs hv H0 => by
    obtain ⟨R', μ', H', st, e, f⟩ := hg R μ w _ H0 hv
    refine (H.run R' μ' w vs (f _ hv) H').mono fun e2 w2 hl => ?_
    obtain ⟨v, R2, μ2, h2, av, h3, h4, h5, h6, h7, h8⟩ := hl
    exact ⟨v, R2, μ2, h2, av, h3, h4, h5, h6, e.trans h7, st.trans h8⟩⟩
theorem Does.mono {g : FuncId} {as : List AV} {K K' : KT} (H : Does P g as h K) (hk : ∀ v h, K v h → K' v h) : Does P g as h K' :=
  ⟨H.here, fun R μ w vs hv H0 => (H.run R μ w vs hv H0).mono fun e2 w2 hl => by
    obtain ⟨v, R2, μ2, h2, av, h3, h4, h5, h6, h7, h8⟩ := hl
    exact ⟨v, R2, μ2, h2, av, h3, hk _ _ h4, h5, h6, h7, h8⟩⟩

/-! ### Rules for codes -/
theorem Wp.mono {c : Code} {q' : Post} (H : Wp P k c tm h q) (hn : ∀ tm h, q.n tm h → q'.n tm h) (hx : ∀ i tm h, q.x i tm h → q'.x i tm h) (hr : ∀ tm h, q.r tm h → q'.r tm h) : Wp P k c tm h q' :=
  ⟨fun R μ a w s hl => wp_mono (H.run R μ a w s hl) fun e a w hq => by
    obtain ⟨R', μ', tm', h', s', st, kp, hq⟩ := hq
    refine ⟨R', μ', tm', h', s', st, kp, ?_⟩
    cases e <;> first | exact hn _ _ hq | exact hx _ _ _ hq | exact ⟨hq.1, hx _ _ _ hq.2⟩ | exact hr _ _ hq | exact hq.elim⟩
theorem w_skip (H : q.n tm h) : Wp P k .skip tm h q := ⟨fun R μ a w s hl => wp_skip ⟨R, μ, tm, h, s, Step.refl _ _ _, .refl hl, H⟩⟩
theorem w_ret (H : q.r tm h) : Wp P k .ret tm h q := ⟨fun R μ a w s hl => wp_ret ⟨R, μ, tm, h, s, Step.refl _ _ _, .refl hl, H⟩⟩
theorem w_exit {i : Nat} (H : i < 1000000 ∧ q.x i tm h) : Wp P k (.exit i) tm h q := ⟨fun R μ a w s hl => wp_exit ⟨R, μ, tm, h, s, Step.refl _ _ _, .refl hl, H⟩⟩
theorem w_seq_mid {a b : Code} (M : List AV → List Ch → Prop) (H : Wp P k a tm h ⟨M, q.x, q.r⟩) (H2 : ∀ tm h, M tm h → Wp P k b tm h q) : Wp P k (.seq a b) tm h q :=
  ⟨fun R μ x w s hl => wp_seq (wp_mono (H.run R μ x w s hl) fun e x' w' hq => by
    obtain ⟨R', μ', tm', h', s', st, kp, hq⟩ := hq
    cases e with
    | normal => exact wp_mono ((H2 tm' h' hq).run R' μ' x' w' s' kp.len) fun e a w hq => hq.pre st kp
    | exit i => exact ⟨R', μ', tm', h', s', st, kp, hq⟩
    | goto l => exact ⟨R', μ', tm', h', s', st, kp, hq⟩
    | ret => exact ⟨R', μ', tm', h', s', st, kp, hq⟩
    | _ => exact hq.elim)⟩
theorem w_seq {a b : Code} (H : ∀ K : List AV → List Ch → Prop, (∀ tm h, Wp P k b tm h q → K tm h) → Wp P k a tm h ⟨K, q.x, q.r⟩) : Wp P k (.seq a b) tm h q :=
  w_seq_mid _ (H _ fun _ _ h => h) fun _ _ h => h
theorem w_block {id : Nat} {c : Code} (H : Wp P k c tm h ⟨q.n, fun i tm h => if i = id then id < 1000000 ∧ q.n tm h else q.x i tm h, q.r⟩) : Wp P k (.block id c) tm h q :=
  ⟨fun R μ x w s hl => wp_block (wp_mono (H.run R μ x w s hl) fun e x' w' hq => by
    obtain ⟨R', μ', tm', h', s', st, kp, hq⟩ := hq
    cases e with
    | normal => exact ⟨R', μ', tm', h', s', st, kp, hq⟩
    | exit i =>
      simp only [Exit.inBlock]
      simp only [Post.at] at hq
      split
      · rename_i hi; rw [if_pos hi] at hq; exact ⟨R', μ', tm', h', s', st, kp, hq.2.2⟩
      · rename_i hi; rw [if_neg hi] at hq; exact ⟨R', μ', tm', h', s', st, kp, hq⟩
    | goto l =>
      simp only [Post.at] at hq
      split at hq
      · have := hq.1; omega
      · exact ⟨R', μ', tm', h', s', st, kp, hq⟩
    | ret => exact ⟨R', μ', tm', h', s', st, kp, hq⟩
    | _ => exact hq.elim)⟩
theorem w_cond {t : Nat} {a b : Code} {c : Bool} (hc : nthA tm t = .bool c) (H1 : c = true → Wp P k a (tm.set t (.bool true)) h q) (H2 : c = false → Wp P k b (tm.set t (.bool false)) h q) : Wp P k (.cond (.tmp t) a b) tm h q :=
  ⟨fun R μ x w s hl => by
    have h1 := nth_rel s hc
    have h2 : x.eval (.tmp t) = .bool c := by simp [Act.eval, h1]
    cases c with
    | true => exact wp_cond_true h2 ((H1 rfl).run R μ x w (s.tag hc) hl)
    | false => exact wp_cond_false h2 ((H2 rfl).run R μ x w (s.tag hc) hl)⟩
theorem w_cond_t {t : Nat} {a b : Code} (hc : nthA tm t = .bool true) (H : Wp P k a tm h q) (hs : tm.set t (.bool true) = tm) : Wp P k (.cond (.tmp t) a b) tm h q := w_cond hc (fun _ => by rw [hs]; exact H) (fun h => by cases h)
theorem w_cond_f {t : Nat} {a b : Code} (hc : nthA tm t = .bool false) (H : Wp P k b tm h q) (hs : tm.set t (.bool false) = tm) : Wp P k (.cond (.tmp t) a b) tm h q := w_cond hc (fun h => by cases h) (fun _ => by rw [hs]; exact H)

/-- the first time at a loop's head, and again: in state 'st x' -/
def At (k : Nat) (gt : List AV) (gh : List Ch) (tm : List AV) (h : List Ch) : Prop := ∃ tm' h', Gh tm h tm' h' ∧ ∃ σ : List Nat, σ.take k = List.range k ∧ Fit σ gt gh tm' h'
/-- again at a loop's head -/
def Back {A : Type} (k : Nat) (inv : A → Prop) (mu : A → Nat) (live : A → List AV) (heap : A → List Ch) (x : A) (tm : List AV) (h : List Ch) : Prop :=
  ∃ x', (inv x' ∧ mu x' < mu x) ∧ At k (live x') (heap x') tm h
theorem w_loop_at {c : Code} {A : Type} (inv : A → Prop) (mu : A → Nat) (live : A → List AV) (heap : A → List Ch) (x0 : A) (hi : inv x0) (h0 : At k (live x0) (heap x0) tm h)
    (H : ∀ (x : A) (E : List AV → List Ch → Prop), inv x → (∀ tm' h', Back k inv mu live heap x tm' h' → E tm' h') → Wp P k c (live x) (heap x) ⟨E, q.x, q.r⟩) : Wp P k (.loop c) tm h q :=
  ⟨fun R μ a w s hl => by
    obtain ⟨tm0', h0', hcl0, σ0, hσ0, hfit0⟩ := h0
    obtain ⟨Rc, μc, Hc, stc, ec, fc⟩ := hcl0 R μ w _ s.mem s.tm
    obtain ⟨H0, t0, st0'⟩ := hfit0.ok Hc (fc _ s.tm)
    have st0 := stc.trans st0'
    have kp0 := (Keeps.ext hl ec).trans (Keeps.pick (μ := μc) hσ0)
    refine wp_loop_rel (fun n a' w' => ∃ R' μ' x, inv x ∧ mu x = n ∧ SR R' μ' (live x) (heap x) a' w' ∧ Step (ownH h μ) R w (ownH (heap x) μ') R' w' ∧ Keeps k μ μ')
      (mu x0) ⟨Rc, _, x0, hi, rfl, ⟨H0, t0, s.dfr⟩, st0, kp0⟩ ?_
    rintro n a' w' ⟨R', μ', x, hinv, rfl, s', st, kp⟩
    refine wp_mono ((H x _ hinv fun tm' h' hb => hb).run R' μ' a' w' s' kp.len) ?_
    intro e a2 w2 hq
    obtain ⟨R2, μ2, tm2, h2, s2, st2, kp2, hq⟩ := hq
    cases e with
    | normal =>
      obtain ⟨x', ⟨hinv', hlt⟩, tc', hc', hcl, σ, hσ, hfit⟩ := hq
      obtain ⟨Rc, μc, Hc, stc, ec, fc⟩ := hcl R2 μ2 w2 _ s2.mem s2.tm
      obtain ⟨H3, t3, st3⟩ := hfit.ok Hc (fc _ s2.tm)
      exact ⟨_, hlt, Rc, _, x', hinv', rfl, ⟨H3, t3, s2.dfr⟩, (st.trans st2).trans (stc.trans st3), ((kp.trans kp2).trans (Keeps.ext kp2.len ec)).trans (Keeps.pick hσ)⟩
    | exit i => exact ⟨R2, μ2, tm2, h2, s2, st.trans st2, kp.trans kp2, hq⟩
    | goto l => exact ⟨R2, μ2, tm2, h2, s2, st.trans st2, kp.trans kp2, hq⟩
    | ret => exact ⟨R2, μ2, tm2, h2, s2, st.trans st2, kp.trans kp2, hq⟩
    | _ => exact hq.elim⟩
/-- a loop: slots that it writes are forgotten but for those named; chunks that change are named -/
theorem w_loop {c : Code} {A : Type} (inv : A → Prop) (mu : A → Nat) (live : A → List (Nat × AV)) (heap : A → List (Nat × Ch)) (x0 : A) {ws : List Nat} {tk : List AV} (hw : writes c = ws) (ht : killT tm ws = tk) (hi : inv x0)
    (h0 : At k (liveT tk (live x0)) (setH h (heap x0)) tm h)
    (H : ∀ (x : A) (E : List AV → List Ch → Prop) t, inv x → (∀ tm' h', Back k inv mu (fun x => liveT tk (live x)) (fun x => setH h (heap x)) x tm' h' → E tm' h') → liveT tk (live x) = t →
      Wp P k c t (setH h (heap x)) ⟨E, q.x, q.r⟩) : Wp P k (.loop c) tm h q :=
  w_loop_at inv mu (fun x => liveT tk (live x)) (fun x => setH h (heap x)) x0 hi h0 fun x E hx hE => H x E _ hx hE rfl
/-- ways meet: in the middle a general state -/
def Meet {A : Type} (k : Nat) (inv : A → Prop) (live : A → List AV) (heap : A → List Ch) (tm : List AV) (h : List Ch) : Prop := ∃ x, inv x ∧ At k (live x) (heap x) tm h
theorem w_at {c : Code} {gt : List AV} {gh : List Ch} (hat : At k gt gh tm h) (H : Wp P k c gt gh q) : Wp P k c tm h q :=
  ⟨fun R μ a w s hl => by
    obtain ⟨tm', h', hcl, σ, hσ, hf⟩ := hat
    obtain ⟨Rc, μc, Hc, stc, ec, fc⟩ := hcl R μ w _ s.mem s.tm
    obtain ⟨H2, t2, st2⟩ := hf.ok Hc (fc _ s.tm)
    have kp := (Keeps.ext hl ec).trans (Keeps.pick (μ := μc) hσ)
    exact wp_mono (H.run Rc _ a w ⟨H2, t2, s.dfr⟩ kp.len) fun e a w hq => hq.pre (stc.trans st2) kp⟩
/-- ways meet behind a: slots that it writes are forgotten but for those named, chunks that change are named -/
theorem w_meet {a b : Code} {A : Type} (inv : A → Prop) (live : A → List (Nat × AV)) (heap : A → List (Nat × Ch)) {ws : List Nat} {tk : List AV} (hw : writes a = ws) (ht : killT tm ws = tk)
    (H : ∀ K : List AV → List Ch → Prop, (∀ tm' h', Meet k inv (fun x => liveT tk (live x)) (fun x => setH h (heap x)) tm' h' → K tm' h') → Wp P k a tm h ⟨K, q.x, q.r⟩)
    (H2 : ∀ x t, inv x → liveT tk (live x) = t → Wp P k b t (setH h (heap x)) q) : Wp P k (.seq a b) tm h q :=
  w_seq_mid _ (H _ fun _ _ h => h) fun _ _ ⟨x, hx, hat⟩ => w_at hat (H2 x _ hx rfl)
end
end Go.V

namespace Go.V
open Go
theorem wp_scope_rel {P : Program} {a : Act} {w : World} {Q : Exit → Act → World → Prop} {c rest : Code} (l : Nat) (I : Nat → Act → World → Prop) (hf : findLabel c l = some rest)
    (first : c.wp P (Exit.jump l (fun a w => ∃ n, I n a w) Q) a w)
    (pass : ∀ n a w, I n a w → rest.wp P (Exit.jump l (fun a' w' => ∃ m, m < n ∧ I m a' w') Q) a w) : (Code.scope c).wp P Q a w := by
  intro b k cs
  have hg : gotoIn l (.inScope c :: k) = some (.code rest :: .inScope c :: k) := by simp [gotoIn, hf]
  have key : ∀ n a w, I n a w → ∃ e a' w', Q e a' w' ∧ Arrives P (lone (b.at a (.code rest :: .inScope c :: k)) cs w) b k cs e a' w' := by
    intro n
    induction n using Nat.strongRecOn with
    | _ n ih =>
      intro a w hJ
      obtain ⟨e, a₁, w₁, hq, harr⟩ := pass n a w hJ b (.inScope c :: k) cs
      cases e with
      | normal => exact ⟨.normal, a₁, w₁, hq, Steps.trans harr (.one step_inScope)⟩
      | exit id => exact ⟨.exit id, a₁, w₁, hq, fun k' hk => harr k' (by simp [exitTo, hk])⟩
      | goto l' =>
        obtain ⟨rfl, m, hlt, hJ'⟩ := hq
        obtain ⟨e₂, a₂, w₂, hq₂, harr₂⟩ := ih m hlt a₁ w₁ hJ'
        exact ⟨e₂, a₂, w₂, hq₂, .of_steps (harr _ hg) harr₂⟩
      | ret => exact ⟨_, a₁, w₁, hq, harr⟩
      | panic ch => exact ⟨_, a₁, w₁, hq, harr⟩
      | outgrown => exact ⟨_, a₁, w₁, hq, harr⟩
  obtain ⟨e, a₁, w₁, hq, harr⟩ := first b (.inScope c :: k) cs
  cases e with
  | normal => exact ⟨.normal, a₁, w₁, hq, .head step_scope (Steps.trans harr (.one step_inScope))⟩
  | exit id => exact ⟨.exit id, a₁, w₁, hq, fun k' hk => .head step_scope (harr k' (by simp [exitTo, hk]))⟩
  | goto l' =>
    obtain ⟨rfl, n, hJ'⟩ := hq
    obtain ⟨e₂, a₂, w₂, hq₂, harr₂⟩ := key n a₁ w₁ hJ'
    exact ⟨e₂, a₂, w₂, hq₂, .of_steps (.head step_scope (harr _ hg)) harr₂⟩
  | ret => exact ⟨_, a₁, w₁, hq, .of_steps (.one step_scope) harr⟩
  | panic ch => exact ⟨_, a₁, w₁, hq, .of_steps (.one step_scope) harr⟩
  | outgrown => exact ⟨_, a₁, w₁, hq, .of_steps (.one step_scope) harr⟩
section
variable {P : Program} {k : Nat} {tm : List AV} {h : List Ch} {q : Post}
theorem w_goto {l : Nat} (H : q.x (l + 1000000) tm h) : Wp P k (.goto l) tm h q := ⟨fun R μ a w s hl => wp_goto ⟨R, μ, tm, h, s, Step.refl _ _ _, .refl hl, H⟩⟩
theorem w_label {l : Nat} (H : q.n tm h) : Wp P k (.label l) tm h q := ⟨fun R μ a w s hl => wp_label ⟨R, μ, tm, h, s, Step.refl _ _ _, .refl hl, H⟩⟩
/-- a scope with one label: in state 'st x' at every jump -/
theorem w_scope_at {c rest : Code} {A : Type} (l : Nat) (inv : A → Prop) (mu : A → Nat) (live : A → List AV) (heap : A → List Ch) (hf : findLabel c l = some rest) (hx : ∀ i tm h, 1000000 ≤ i → q.x i tm h → False)
    (H0 : Wp P k c tm h ⟨q.n, fun i tm' h' => if i = l + 1000000 then (∃ x, inv x ∧ At k (live x) (heap x) tm' h') else q.x i tm' h', q.r⟩)
    (H : ∀ (x : A) (E : List AV → List Ch → Prop), inv x → (∀ tm' h', Back k inv mu live heap x tm' h' → E tm' h') → Wp P k rest (live x) (heap x) ⟨q.n, fun i tm' h' => if i = l + 1000000 then E tm' h' else q.x i tm' h', q.r⟩) : Wp P k (.scope c) tm h q :=
  ⟨fun R μ a w s hl => by
    refine wp_scope_rel l (fun n a' w' => ∃ R' μ' x, inv x ∧ mu x = n ∧ SR R' μ' (live x) (heap x) a' w' ∧ Step (ownH h μ) R w (ownH (heap x) μ') R' w' ∧ Keeps k μ μ') hf ?_ ?_
    · refine wp_mono (H0.run R μ a w s hl) ?_
      intro e a2 w2 hq
      obtain ⟨R2, μ2, tm2, h2, s2, st2, kp2, hq⟩ := hq
      cases e with
      | normal => exact ⟨R2, μ2, tm2, h2, s2, st2, kp2, hq⟩
      | exit i =>
        obtain ⟨hi, hq⟩ := hq
        dsimp only at hq
        rw [if_neg (by omega)] at hq
        exact ⟨R2, μ2, tm2, h2, s2, st2, kp2, hi, hq⟩
      | goto l' =>
        simp only [Post.at] at hq
        split at hq
        · rename_i hl'
          obtain ⟨x', hinv', tc', hc', hcl, σ, hσ, hfit⟩ := hq
          obtain ⟨Rc, μc, Hc, stc, ec, fc⟩ := hcl R2 μ2 w2 _ s2.mem s2.tm
          obtain ⟨H3, t3, st3⟩ := hfit.ok Hc (fc _ s2.tm)
          exact ⟨by omega, _, Rc, _, x', hinv', rfl, ⟨H3, t3, s2.dfr⟩, st2.trans (stc.trans st3), (kp2.trans (Keeps.ext kp2.len ec)).trans (Keeps.pick hσ)⟩
        · exact (hx _ _ _ (by omega) hq).elim
      | ret => exact ⟨R2, μ2, tm2, h2, s2, st2, kp2, hq⟩
      | _ => exact hq.elim
    · rintro n a' w' ⟨R', μ', x, hinv, rfl, s', st, kp⟩
      refine wp_mono ((H x _ hinv fun tm' h' hb => hb).run R' μ' a' w' s' kp.len) ?_
      intro e a2 w2 hq
      obtain ⟨R2, μ2, tm2, h2, s2, st2, kp2, hq⟩ := hq
      cases e with
      | normal => exact ⟨R2, μ2, tm2, h2, s2, st.trans st2, kp.trans kp2, hq⟩
      | exit i =>
        obtain ⟨hi, hq⟩ := hq
        dsimp only at hq
        rw [if_neg (by omega)] at hq
        exact ⟨R2, μ2, tm2, h2, s2, st.trans st2, kp.trans kp2, hi, hq⟩
      | goto l' =>
        simp only [Post.at] at hq
        split at hq
        · rename_i hl'
          obtain ⟨x', ⟨hinv', hlt⟩, tc', hc', hcl, σ, hσ, hfit⟩ := hq
          obtain ⟨Rc, μc, Hc, stc, ec, fc⟩ := hcl R2 μ2 w2 _ s2.mem s2.tm
          obtain ⟨H3, t3, st3⟩ := hfit.ok Hc (fc _ s2.tm)
          exact ⟨by omega, _, hlt, Rc, _, x', hinv', rfl, ⟨H3, t3, s2.dfr⟩, (st.trans st2).trans (stc.trans st3), ((kp.trans kp2).trans (Keeps.ext kp2.len ec)).trans (Keeps.pick hσ)⟩
        · exact (hx _ _ _ (by omega) hq).elim
      | ret => exact ⟨R2, μ2, tm2, h2, s2, st.trans st2, kp.trans kp2, hq⟩
      | _ => exact hq.elim⟩
/-- the same, the code behind the label walked once -/
theorem w_scope {c b : Code} {A : Type} (l : Nat) (inv : A → Prop) (mu : A → Nat) (live : A → List AV) (heap : A → List Ch) (hf : findLabel c l = some (.seq .skip b)) (hx : ∀ i tm h, 1000000 ≤ i → q.x i tm h → False)
    (HB : ∀ (x : A) (E : List AV → List Ch → Prop), inv x → (∀ tm' h', Back k inv mu live heap x tm' h' → E tm' h') → Wp P k b (live x) (heap x) ⟨q.n, fun i tm' h' => if i = l + 1000000 then E tm' h' else q.x i tm' h', q.r⟩)
    (H0 : ∀ q' : Post, q'.n = q.n → q'.r = q.r → (∀ x tm' h', inv x → At k (live x) (heap x) tm' h' → Wp P k b tm' h' q') → Wp P k c tm h q') : Wp P k (.scope c) tm h q := by
  have HJ : ∀ (x : A), inv x → Wp P k b (live x) (heap x) ⟨q.n, fun i tm' h' => if i = l + 1000000 then (∃ x, inv x ∧ At k (live x) (heap x) tm' h') else q.x i tm' h', q.r⟩ := fun x hx => HB x _ hx fun tm' h' ⟨x', ⟨h1, _⟩, h2⟩ => ⟨x', h1, h2⟩
  refine w_scope_at l inv mu live heap hf hx (H0 _ rfl rfl fun x tm' h' hi hat => w_at hat (HJ x hi)) fun x E hi hE => ?_
  exact w_seq_mid _ (w_skip (HB x E hi hE)) fun _ _ h => h
end
end Go.V
