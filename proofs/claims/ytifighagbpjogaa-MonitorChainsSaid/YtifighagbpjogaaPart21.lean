/-
  monitor: what MonitorChains keeps from call to call (plain).
  MonitorChains.
-/
import Derived.Test.YtifighagbpjogaaPart20
set_option linter.unusedVariables false
set_option linter.unusedSimpArgs false
set_option maxRecDepth 100000
set_option maxHeartbeats 8000000
namespace Go.V
open Go.Proofs
/-- a list that is replaced up to a place -/
def mx {α : Type} (a b : List α) (k : Nat) : List α := a.take k ++ b.drop k
theorem mx_len {α : Type} {a b : List α} (h : a.length = b.length) {k : Nat} (hk : k ≤ b.length) : (mx a b k).length = b.length := by
  unfold mx
  rw [List.length_append, List.length_take, List.length_drop]; omega
theorem mx_all {α : Type} {a b : List α} (h : a.length = b.length) : mx a b b.length = a := by
  unfold mx
  rw [← h, List.take_length, h, List.drop_length, List.append_nil]
theorem mx_at {α : Type} {a b : List α} (h : a.length = b.length) {k : Nat} (hk : k < b.length) (d : α) : (mx a b k).getD k d = b.getD k d := by
  have hl : (a.take k).length = k := by rw [List.length_take]; omega
  unfold mx
  rw [List.getD_eq_getElem?_getD, List.getElem?_append_right (by omega), hl, Nat.sub_self, List.getElem?_drop, Nat.add_zero, List.getD_eq_getElem?_getD]
theorem mx_at1 {α : Type} {a b : List α} (h : a.length = b.length) {k : Nat} (hk : k < b.length) (d : α) : (mx a b (k + 1)).getD k d = a.getD k d := by
  have hl : (a.take (k + 1)).length = k + 1 := by rw [List.length_take]; omega
  unfold mx
  rw [List.getD_eq_getElem?_getD, List.getElem?_append_left (by omega), List.getElem?_take_of_lt (by omega), List.getD_eq_getElem?_getD]
theorem mx_set {α : Type} {a b : List α} (h : a.length = b.length) {k : Nat} (hk : k < b.length) (d : α) : (mx a b k).set k (a.getD k d) = mx a b (k + 1) := by
  have hl : (a.take k).length = k := by rw [List.length_take]; omega
  have hka : k < a.length := by omega
  have e : a.getD k d = a[k] := by rw [List.getD_eq_getElem?_getD, List.getElem?_eq_getElem hka]; rfl
  unfold mx
  rw [List.set_append_right _ _ (by omega), hl, Nat.sub_self, List.drop_eq_getElem_cons hk, List.take_succ_eq_append_getElem hka, e, List.append_assoc]
  rfl
theorem mx_same {α : Type} {a b : List α} (h : a.length = b.length) {k : Nat} (hk : k < b.length) (d : α) (he : a.getD k d = b.getD k d) : mx a b (k + 1) = mx a b k := by
  rw [← mx_set h hk d, he, ← mx_at h hk d]
  have hlt : k < (mx a b k).length := by rw [mx_len h (by omega)]; exact hk
  have e : (mx a b k).getD k d = (mx a b k)[k] := by rw [List.getD_eq_getElem?_getD, List.getElem?_eq_getElem hlt]; rfl
  rw [e]
  exact List.set_getElem_self hlt
abbrev stL (es : List Sm) : List Int := es.map (·.st)
abbrev offL (es : List Sm) : List Bool := es.map (·.off)
theorem stL_at {es : List Sm} {k : Nat} (hk : k < es.length) : (stL es).getD k 0 = (eAtS es k).st ∧ (offL es).getD k false = (eAtS es k).off := by
  have e : eAtS es k = es[k] := by show es.getD k Sm.zero = _; rw [List.getD_eq_getElem?_getD, List.getElem?_eq_getElem hk]; rfl
  rw [e]
  constructor
  · rw [List.getD_eq_getElem?_getD, List.getElem?_map, List.getElem?_eq_getElem hk]; rfl
  · rw [List.getD_eq_getElem?_getD, List.getElem?_map, List.getElem?_eq_getElem hk]; rfl
theorem eAt_map {es : List Sm} {f : Sm → Sm} {k : Nat} (hk : k < es.length) : eAtS (es.map f) k = f (eAtS es k) := by
  show (es.map f).getD k Sm.zero = f (es.getD k Sm.zero)
  rw [List.getD_eq_getElem?_getD, List.getElem?_map, List.getD_eq_getElem?_getD, List.getElem?_eq_getElem hk]; rfl
theorem mem_at {es : List Sm} {k : Nat} (hk : k < es.length) : eAtS es k ∈ es := by
  have e : eAtS es k = es[k] := by show es.getD k Sm.zero = _; rw [List.getD_eq_getElem?_getD, List.getElem?_eq_getElem hk]; rfl
  rw [e]; exact List.getElem_mem hk
theorem mAt_map {es : List Sm} {l : List Mon} (h : es.map (·.m) = l) {k : Nat} (hk : k < es.length) : mAt l k = (eAtS es k).m := by
  subst h
  show (es.map (·.m)).getD k Mon.zero = (es.getD k Sm.zero).m
  rw [List.getD_eq_getElem?_getD, List.getElem?_map, List.getD_eq_getElem?_getD, List.getElem?_eq_getElem hk]; rfl
/-- the ids ascend -/
theorem okM_lt {l : List Mon} (h : ∀ k, k < l.length → okM l k) {i : Nat} : ∀ {j : Nat}, i < j → j < l.length → (mAt l i).id < (mAt l j).id
  | 0, hij, _ => absurd hij (Nat.not_lt_zero _)
  | j + 1, hij, hj => by
    have h1 : (mAt l j).id < (mAt l (j + 1)).id := by
      rcases (h (j + 1) hj).or_ with q | q
      · omega
      · exact q
    by_cases c : i = j
    · rw [c]; exact h1
    · exact Int.lt_trans (okM_lt h (by omega) (by omega)) h1
/-- the state between two calls -/
structure S36 where
  now : Int
  es : List Sm
  V : Pv
  tm : Int
structure ChI (l : List Mon) (k : Nat) (s : S36) : Prop where
  ms : s.es.map (·.m) = l
  z : ∀ e ∈ s.es, e.off = true → e.st = 0
  V : okPv s.V
  rn : ∀ e ∈ s.es, VR e.last ∧ 0 ≤ e.run ∧ e.run ≤ k
  tm : s.tm ≤ s.now
theorem ms_len {es : List Sm} {l : List Mon} (h : es.map (·.m) = l) : es.length = l.length := by rw [← h, List.length_map]
theorem OkS.of {l : List Mon} {es : List Sm} {k : Nat} (hm : es.map (·.m) = l) (ho : ∀ k, k < l.length → okM l k) (hl : l.length ≤ 256) (hk : k ≤ 1000000) (rn : ∀ e ∈ es, VR e.last ∧ 0 ≤ e.run ∧ e.run ≤ k) : OkS es := by
  have hn := ms_len hm
  refine ⟨by omega, ?_, fun i hi => ?_, fun i hi => ?_⟩
  · rw [SrtE, List.pairwise_iff_getElem]
    intro i j hi hj hij
    have e1 : ∀ {k : Nat} (hk : k < es.length), eAtS es k = es[k] := fun {k} hk => by show es.getD k Sm.zero = _; rw [List.getD_eq_getElem?_getD, List.getElem?_eq_getElem hk]; rfl
    rw [← e1 hi, ← e1 hj, ← mAt_map hm hi, ← mAt_map hm hj]
    exact okM_lt ho hij (by omega)
  · rw [← mAt_map hm hi]
    exact (ho i (by omega)).ck
  · have := rn _ (mem_at hi)
    exact ⟨this.1, this.2.1, by omega⟩
theorem VR0 : VR 0 := ⟨by omega, by omega⟩
theorem okPv_set {V : Pv} (h : okPv V) (id v : Int) : okPv (V.set id v) := by
  unfold Pv.set
  split
  · rename_i q
    have hv : VR v := by
      unfold inP inS inU at q
      split at q
      · rw [Bool.and_eq_true, decide_eq_true_eq, decide_eq_true_eq] at q
        exact ⟨by omega, by omega⟩
      · split at q
        · rw [Bool.and_eq_true, decide_eq_true_eq, decide_eq_true_eq] at q
          exact ⟨by omega, by omega⟩
        · split at q
          · rw [Bool.and_eq_true, decide_eq_true_eq, decide_eq_true_eq] at q
            exact ⟨by omega, by omega⟩
          · cases q
    split
    · exact ⟨hv, h.b, h.c, h.d⟩
    · split
      · exact ⟨h.a, hv, h.c, h.d⟩
      · split
        · exact ⟨h.a, h.b, hv, h.d⟩
        · exact ⟨h.a, h.b, h.c, hv⟩
  · exact h
theorem fdR_run {rep st res run r : Int} : (fdR rep st res run r).2.2.2 = if r = res then run + 1 else 1 := by
  unfold fdR
  split <;> split <;> rfl
theorem chkS_rn {nw : Int} {pv : Int → Option Int} {e : Sm} {k : Nat} (hV : ∀ t v, pv t = some v → VR v) (h : VR e.last ∧ 0 ≤ e.run ∧ e.run ≤ k) : VR (chkS nw pv e).1.last ∧ 0 ≤ (chkS nw pv e).1.run ∧ (chkS nw pv e).1.run ≤ ((k + 1 : Nat) : Int) := by
  obtain ⟨h1, h2, h3⟩ := h
  unfold chkS
  cases hv : pv e.m.param with
  | none => exact ⟨h1, h2, by show e.run ≤ ((k + 1 : Nat) : Int); omega⟩
  | some v =>
    dsimp only
    split
    · exact ⟨h1, h2, by show e.run ≤ ((k + 1 : Nat) : Int); omega⟩
    · refine ⟨hV _ _ hv, ?_, ?_⟩ <;> (dsimp only; rw [fdR_run]; split <;> omega)
theorem ChI.mono {l : List Mon} {k : Nat} {s : S36} (h : ChI l k s) : ChI l (k + 1) s := ⟨h.ms, h.z, h.V, fun e he => by have := h.rn e he; exact ⟨this.1, this.2.1, by omega⟩, h.tm⟩
theorem ChI.set {l : List Mon} {k : Nat} {now tm : Int} {es : List Sm} {V : Pv} (h : ChI l k ⟨now, es, V, tm⟩) (id v : Int) : ChI l (k + 1) ⟨now, es, V.set id v, tm⟩ := by
  have := h.mono
  exact ⟨this.ms, this.z, okPv_set h.V id v, this.rn, this.tm⟩
theorem enaS_m (on : Bool) (e : Sm) : (enaS on e).m = e.m := by unfold enaS; split <;> rfl
theorem enaL_of {id : Int} {on : Bool} {es : List Sm} {k : Nat} (hk : k < es.length) : eAtS (enaL id on es) k = if (eAtS es k).m.id = id then enaS on (eAtS es k) else eAtS es k := eAt_map hk
theorem enaS_off (on : Bool) (e : Sm) : (enaS on e).off = !on := by
  unfold enaS
  split
  · rename_i c; rw [c.1]; rfl
  · rfl
theorem enaS_z {on : Bool} {e : Sm} (hz : e.off = true → e.st = 0) : ((enaS on e).off = true → (enaS on e).st = 0) ∧ ((enaS on e).off = false → (enaS on e).st = e.st) := by
  rw [enaS_off]
  cases on with
  | true => exact ⟨fun q => (by cases q), fun _ => by unfold enaS; rw [if_neg (fun q => by cases q.1)]⟩
  | false =>
    refine ⟨fun _ => ?_, fun q => (by cases q)⟩
    unfold enaS
    cases ho : e.off with
    | false => rw [if_pos ⟨rfl, rfl⟩]
    | true => rw [if_neg (fun q => by cases q.2)]; exact hz ho
theorem enaL_z {id : Int} {on : Bool} {es : List Sm} (hz : ∀ e ∈ es, e.off = true → e.st = 0) : ∀ e ∈ enaL id on es, e.off = true → e.st = 0 := fun e he => by
  obtain ⟨x, hx, rfl⟩ := List.mem_map.1 he
  split
  · exact (enaS_z (hz x hx)).1
  · exact hz x hx
theorem enaL_m {id : Int} {on : Bool} {es : List Sm} : (enaL id on es).map (·.m) = es.map (·.m) := by
  unfold enaL
  rw [List.map_map]
  refine List.map_congr_left fun e _ => ?_
  show (if e.m.id = id then enaS on e else e).m = e.m
  split
  · exact enaS_m on e
  · rfl
theorem ChI.ena {l : List Mon} {k : Nat} {now tm : Int} {es : List Sm} {V : Pv} (h : ChI l k ⟨now, es, V, tm⟩) (id : Int) (on : Bool) : ChI l (k + 1) ⟨now, enaL id on es, V, tm⟩ := by
  refine ⟨by show (enaL id on es).map (·.m) = l; rw [enaL_m]; exact h.ms, enaL_z h.z, h.V, fun e he => ?_, h.tm⟩
  obtain ⟨x, hx, rfl⟩ := List.mem_map.1 he
  have h1 := h.mono.rn x hx
  split
  · unfold enaS
    split
    · exact ⟨VR0, Int.le_refl _, by show (0 : Int) ≤ ((k + 1 : Nat) : Int); omega⟩
    · exact h1
  · exact h1
theorem chkL_m {nw : Int} {pv : Int → Option Int} {es : List Sm} : (chkL nw pv es).map (·.m) = es.map (·.m) ∧ offL (chkL nw pv es) = offL es := by
  unfold chkL
  constructor
  · rw [List.map_map]; exact List.map_congr_left fun e _ => (chkS_m nw pv e).1
  · show (es.map fun e => (chkS nw pv e).1).map (fun x : Sm => x.off) = es.map (fun x : Sm => x.off)
    rw [List.map_map]; exact List.map_congr_left fun e _ => (chkS_m nw pv e).2
theorem nowQ_le (now n : Int) : now ≤ nowQ now n := by
  unfold nowQ
  split
  · omega
  · omega
theorem ChI.chk {l : List Mon} {k : Nat} {now tm tm' : Int} {es : List Sm} {V : Pv} (h : ChI l k ⟨now, es, V, tm⟩) {nw : Int} (ht : tm' ≤ nw) : ChI l (k + 1) ⟨nw, chkL nw V.get es, V, tm'⟩ := by
  refine ⟨by show (chkL nw V.get es).map (·.m) = l; rw [chkL_m.1]; exact h.ms, fun e he ho => ?_, h.V, fun e he => ?_, ht⟩
  · obtain ⟨x, hx, rfl⟩ := List.mem_map.1 he
    have h1 := chkS_m nw V.get x
    rw [h1.2] at ho
    rcases chkS_cases nw V.get x with ⟨-, q⟩ | ⟨v, -, -, q⟩
    · rw [q]; exact h.z x hx ho
    · rw [ho] at q; cases q
  · obtain ⟨x, hx, rfl⟩ := List.mem_map.1 he
    exact chkS_rn (fun t v => VR_get h.V) (h.rn x hx)
theorem stM_end {nw : Int} {pv : Int → Option Int} {es : List Sm} : ∀ (d k : Nat), es.length - k = d → k ≤ es.length → (trK nw pv es k).length = (chkO nw pv es).length → stM nw pv es k = stL (chkL nw pv es)
  | 0, k, hd, hk, _ => by
    have : k = es.length := by omega
    subst this
    exact stM_all nw pv es
  | d + 1, k, hd, hk, hj => by
    have hk2 : k < es.length := by omega
    have hn := trK_next (now := nw) (pv := pv) hk2
    obtain ⟨rest, hr⟩ := trK_pre nw pv es (k + 1)
    have hl : (chkO nw pv es).length = (trK nw pv es k).length + (chkS nw pv (eAtS es k)).2.length + rest.length := by rw [hr, hn, List.length_append, List.length_append]
    have hc : (chkS nw pv (eAtS es k)).2 = [] := List.eq_nil_of_length_eq_zero (by omega)
    have e1 : trK nw pv es (k + 1) = trK nw pv es k := by rw [hn, hc, List.append_nil]
    have e2 : stM nw pv es (k + 1) = stM nw pv es k := by
      obtain ⟨a, b⟩ := stM_at (now := nw) (pv := pv) hk2
      rcases chkS_cases nw pv (eAtS es k) with ⟨-, q⟩ | ⟨v, q, -, -⟩
      · rw [b, q]
        exact set_same a (by rw [stM_len _ _ _ hk]; exact hk2)
      · rw [hc] at q; cases q
    rw [← e2]
    exact stM_end d (k + 1) (by omega) (by omega) (by rw [e1]; exact hj)
theorem chkO_len {nw : Int} {pv : Int → Option Int} {es : List Sm} : (chkO nw pv es).length ≤ es.length := by
  rw [← trK_all]
  exact trK_len (Nat.le_refl _)
/-- the index of the last transition -/
def lstI : Nat → Int
  | 0 => -1
  | k + 1 => k
theorem lstI_lt (k : Nat) : lstI k < k := by
  cases k with
  | zero => show (-1 : Int) < 0; omega
  | succ k => show (k : Int) < ((k + 1 : Nat) : Int); omega
def stZ (k : Nat) : List Int := List.replicate k 0
def ofZ (k : Nat) : List Bool := List.replicate k false
theorem stZ_len (k : Nat) : (stZ k).length = k ∧ (ofZ k).length = k := ⟨List.length_replicate, List.length_replicate⟩
theorem stZ_succ (k : Nat) : stZ k ++ [0] = stZ (k + 1) ∧ ofZ k ++ [false] = ofZ (k + 1) := ⟨List.replicate_succ'.symm, List.replicate_succ'.symm⟩
theorem stZ_all (l : List Mon) : stZ l.length = stL (l.map mkS) ∧ ofZ l.length = offL (l.map mkS) := by
  constructor
  · refine List.ext_getElem (by simp [stZ]) fun i h1 h2 => ?_
    simp [stZ, mkS]
  · refine List.ext_getElem (by simp [ofZ]) fun i h1 h2 => ?_
    simp [ofZ, mkS]
theorem ChI.init (l : List Mon) : ChI l 0 ⟨0, l.map mkS, ⟨0, 0, 0, 0⟩, 0⟩ := by
  refine ⟨?_, fun e he _ => ?_, ⟨VR0, VR0, VR0, VR0⟩, fun e he => ?_, Int.le_refl _⟩
  · show (l.map mkS).map (·.m) = l
    rw [List.map_map]
    exact List.map_id l
  · obtain ⟨x, _, rfl⟩ := List.mem_map.1 he; rfl
  · obtain ⟨x, _, rfl⟩ := List.mem_map.1 he
    exact ⟨VR0, Int.le_refl _, Int.le_refl _⟩
theorem enaR_of {es : List Sm} {id : Int} {k : Nat} (hk : k < es.length) (h : (eAtS es k).m.id = id) : enaR es id = 0 := by
  unfold enaR
  rw [if_pos]
  apply Classical.byContradiction
  intro q
  exact fixE_ge q k hk h
end Go.V

set_option maxRecDepth 100000
set_option maxHeartbeats 8000000
namespace Go.V
open Go.Proofs
attribute [-go_sem] SL PL
theorem b_chains (l : List Mon) (ops : List Mop) (hln : l.length ≤ 9223372036854775807) (hop : ops.length ≤ 9223372036854775807) :
    DoesK Try.prog 0 5 [.ro .mon l, .ro .mop ops] [] (EndF 0 (.bool true) []) := by
  refine DoesK.close ?_
  have hro : RoLit := .mk
  refine w_body (rs := [.tmp 4]) (tm := [.ro .mon l, .ro .mop ops, .any, .any, .any, .any, .any, .any, .any, .any, .any, .any, .any, .any, .any, .any, .any, .any, .any, .any, .any, .any, .any, .any, .any, .any, .any, .any, .any, .any, .any, .any, .any, .any, .any, .any, .any, .any, .any, .any, .any, .any, .any, .any, .any, .any, .any, .any, .any, .any, .any, .any, .any, .any, .any, .any, .any, .any, .any, .any, .any, .any, .any, .any, .any, .any, .any, .any, .any, .any, .any, .any, .any, .any, .any, .any, .any, .any, .any, .any, .any, .any, .any, .any, .any, .any, .any, .any, .any, .any, .any, .any, .any, .any, .any, .any, .any, .any, .any, .any, .any, .any, .any, .any, .any, .any, .any, .any, .any, .any, .any, .any, .any, .any, .any, .any, .any, .any, .any, .any, .any, .any, .any, .any, .any, .any, .any, .any, .any, .any, .any, .any, .any, .any, .any, .any, .any, .any, .any, .any, .any, .any, .any, .any, .any, .any, .any, .any, .any, .any, .any, .any, .any, .any, .any, .any, .any, .any, .any, .any, .any, .any, .any, .any, .any, .any, .any, .any, .any, .any, .any, .any, .any, .any, .any, .any, .any, .any, .any, .any, .any, .any, .any, .any, .any, .any, .any, .any, .any, .any, .any, .any, .any, .any, .any, .any, .any, .any, .any, .any, .any, .any, .any, .any, .any, .any, .any, .any, .any, .any, .any, .any, .any, .any, .any, .any, .any, .any]) fn_5 rfl rfl rfl rfl fun R hR => ?_
  by_cases c1 : 20 < l.length
  · have d1 : decide ((20 : Int) < (l.length : Int)) = true := decide_eq_true (by omega)
    (have zx1 := @d1; all_goals (try ((first | (with_reducible refine wp_id ?_) | (with_reducible refine does_id ?_) | (with_reducible refine ops_id ?_) | (with_reducible refine dw_id ?_)); refine walk ?_; (repeat' (first | exact trivial | with_reducible refine And.intro ?_ ?_)); all_goals (repeat (first | (with_reducible refine ImpB.mk fun hb => ?_) | (with_reducible refine ImpK.mk fun hK => ?_) | (with_reducible refine ImpF.mk fun hF => ?_) | (with_reducible refine ImpQ.mk fun hp => ?_) | (with_reducible refine AllE.mk fun p => ?_) | (with_reducible refine AllR.mk fun rest => ?_) | (with_reducible refine AllK.mk fun K => ?_))))); repeat' (with_reducible refine And.intro ?_ ?_))
    (focus (refine ⟨_, _, Gh.refl, [], rfl, ?_⟩; (refine fitq ?_ ?_ ?_ <;> try exact trivial); (try any_goals (refine ⟨?_, ?_⟩)); (try any_goals (with_reducible rfl))))
    all_goals (repeat' (first | (refine And.intro ?_ ?_) | rfl))
  have d1 : decide ((20 : Int) < (l.length : Int)) = false := decide_eq_false (by omega)
  by_cases c2 : 60 < ops.length
  · have d2 : decide ((60 : Int) < (ops.length : Int)) = true := decide_eq_true (by omega)
    (have zx1 := @d1; have zx2 := @d2; all_goals (try ((first | (with_reducible refine wp_id ?_) | (with_reducible refine does_id ?_) | (with_reducible refine ops_id ?_) | (with_reducible refine dw_id ?_)); refine walk ?_; (repeat' (first | exact trivial | with_reducible refine And.intro ?_ ?_)); all_goals (repeat (first | (with_reducible refine ImpB.mk fun hb => ?_) | (with_reducible refine ImpK.mk fun hK => ?_) | (with_reducible refine ImpF.mk fun hF => ?_) | (with_reducible refine ImpQ.mk fun hp => ?_) | (with_reducible refine AllE.mk fun p => ?_) | (with_reducible refine AllR.mk fun rest => ?_) | (with_reducible refine AllK.mk fun K => ?_))))); repeat' (with_reducible refine And.intro ?_ ?_))
    (focus (refine ⟨_, _, Gh.refl, [], rfl, ?_⟩; (refine fitq ?_ ?_ ?_ <;> try exact trivial); (try any_goals (refine ⟨?_, ?_⟩)); (try any_goals (with_reducible rfl))))
    all_goals (repeat' (first | (refine And.intro ?_ ?_) | rfl))
  have d2 : decide ((60 : Int) < (ops.length : Int)) = false := decide_eq_false (by omega)
  by_cases hok : ¬ ∀ k, k < l.length → okM l k
  · have d3 : decide (¬ (1 : Int) = 0) = true := by decide
    (have zx1 := @d1; have zx2 := @d2; have zx3 := @d3; all_goals (try ((first | (with_reducible refine wp_id ?_) | (with_reducible refine does_id ?_) | (with_reducible refine ops_id ?_) | (with_reducible refine dw_id ?_)); refine walk ?_; (repeat' (first | exact trivial | with_reducible refine And.intro ?_ ?_)); all_goals (repeat (first | (with_reducible refine ImpB.mk fun hb => ?_) | (with_reducible refine ImpK.mk fun hK => ?_) | (with_reducible refine ImpF.mk fun hF => ?_) | (with_reducible refine ImpQ.mk fun hp => ?_) | (with_reducible refine AllE.mk fun p => ?_) | (with_reducible refine AllR.mk fun rest => ?_) | (with_reducible refine AllK.mk fun K => ?_))))); repeat' (with_reducible refine And.intro ?_ ?_))
    all_goals first | omega | skip
    (focus (refine ⟨_, _, Gh.refl, [], rfl, ?_⟩; (refine fitq ?_ ?_ ?_ <;> try exact trivial); (try any_goals (refine ⟨?_, ?_⟩)); (try any_goals (with_reducible rfl))))
    all_goals (repeat' (first | (refine And.intro ?_ ?_) | rfl))
  have hok : ∀ k, k < l.length → okM l k := Classical.not_not.1 hok
  have d3 : decide (¬ (0 : Int) = 0) = false := by decide
  (have zx1 := @d1; have zx2 := @d2; have zx3 := @d3; all_goals (try ((first | (with_reducible refine wp_id ?_) | (with_reducible refine does_id ?_) | (with_reducible refine ops_id ?_) | (with_reducible refine dw_id ?_)); refine walk ?_; (repeat' (first | exact trivial | with_reducible refine And.intro ?_ ?_)); all_goals (repeat (first | (with_reducible refine ImpB.mk fun hb => ?_) | (with_reducible refine ImpK.mk fun hK => ?_) | (with_reducible refine ImpF.mk fun hF => ?_) | (with_reducible refine ImpQ.mk fun hp => ?_) | (with_reducible refine AllE.mk fun p => ?_) | (with_reducible refine AllR.mk fun rest => ?_) | (with_reducible refine AllK.mk fun K => ?_))))); repeat' (with_reducible refine And.intro ?_ ?_))
  all_goals first | omega | skip
  refine Wp.ghost (gh_adopt (s := 9) .int trivial) ?_
  refine Wp.ghost (gh_adopt (s := 10) .bool trivial) ?_
  simp only [go_sem, decide_true, decide_false, Int.reduceToNat, Nat.min_eq_left, Nat.min_eq_right, Int.reducePow, Nat.reducePow, Int.reduceLE, Int.reduceLT, Int.reduceMul, Int.reduceAdd, Int.reduceSub, Int.reduceNeg, Bool.not_true, Bool.not_false, Bool.not_not, ↓reduceIte, Nat.reduceAdd, Nat.reduceSub, Nat.reduceMul, Nat.reduceEqDiff, reduceCtorEq, Nat.reduceLT, Nat.reduceLeDiff, Nat.reduceGT]
  any_goals ((try (refine w_seq fun K hK => ?_)); (try (refine w_block ?_)); refine w_loop (A := Nat) (fun k => k ≤ l.length) (fun k => l.length - k) (fun k => [(11, .int .i64 k), (9, .sl 3 .int 0 k), (10, .sl 4 .bool 0 k)]) (fun k => [(3, .rows .int (stZ k)), (4, .rows .bool (ofZ k))]) (0) (ws := ?ws1) (tk := ?tk1) ?hw1 ?ht1 ?hi ?h0 ?LH1; (case hw1 => simp only [go_sem, decide_true, decide_false, Int.reduceToNat, Nat.min_eq_left, Nat.min_eq_right, Int.reducePow, Nat.reducePow, Int.reduceLE, Int.reduceLT, Int.reduceMul, Int.reduceAdd, Int.reduceSub, Int.reduceNeg, Bool.not_true, Bool.not_false, Bool.not_not, ↓reduceIte, Nat.reduceAdd, Nat.reduceSub, Nat.reduceMul, Nat.reduceEqDiff, reduceCtorEq, Nat.reduceLT, Nat.reduceLeDiff, Nat.reduceGT]; exact rfl); (case ht1 => simp only [go_sem, decide_true, decide_false, Int.reduceToNat, Nat.min_eq_left, Nat.min_eq_right, Int.reducePow, Nat.reducePow, Int.reduceLE, Int.reduceLT, Int.reduceMul, Int.reduceAdd, Int.reduceSub, Int.reduceNeg, Bool.not_true, Bool.not_false, Bool.not_not, ↓reduceIte, Nat.reduceAdd, Nat.reduceSub, Nat.reduceMul, Nat.reduceEqDiff, reduceCtorEq, Nat.reduceLT, Nat.reduceLeDiff, Nat.reduceGT]; exact rfl); (case' LH1 => rintro k E t hx hE ht; simp only [go_sem] at ht; subst ht; simp only [go_sem]; try dsimp only at hx))
  case hi => exact Nat.zero_le _
  case h0 =>
    (focus (refine ⟨_, _, Gh.refl, [0, 1, 2, 3, 4], rfl, ?_⟩; (refine fitq ?_ ?_ ?_ <;> try exact trivial); (try any_goals (refine ⟨?_, ?_⟩)); (try any_goals (with_reducible rfl))))
    all_goals (repeat' (first | (refine And.intro ?_ ?_) | rfl))
  case LH1 =>
    have hk0 : k ≤ l.length := hx
    obtain ⟨z1, z2⟩ := stZ_len k
    obtain ⟨y1, y2⟩ := stZ_succ k
    by_cases hk : k < l.length
    · have hkd : decide ((k : Int) < (l.length : Int)) = true := decide_eq_true (by omega)
      have hkw : IntKind.i64.wrap ((k : Int) + 1) = ((k + 1 : Nat) : Int) := by rw [wrap_i64 _ (by omega) (by omega)]; omega
      (have zx1 := @hkd; have zx2 := @hkw; have zx3 := @z1; have zx4 := @z2; have zx5 := @y1; have zx6 := @y2; all_goals (try ((first | (with_reducible refine wp_id ?_) | (with_reducible refine does_id ?_) | (with_reducible refine ops_id ?_) | (with_reducible refine dw_id ?_)); refine walk ?_; (repeat' (first | exact trivial | with_reducible refine And.intro ?_ ?_)); all_goals (repeat (first | (with_reducible refine ImpB.mk fun hb => ?_) | (with_reducible refine ImpK.mk fun hK => ?_) | (with_reducible refine ImpF.mk fun hF => ?_) | (with_reducible refine ImpQ.mk fun hp => ?_) | (with_reducible refine AllE.mk fun p => ?_) | (with_reducible refine AllR.mk fun rest => ?_) | (with_reducible refine AllK.mk fun K => ?_))))); repeat' (with_reducible refine And.intro ?_ ?_))
      all_goals first | (show _ ≤ (_ : Int); omega) | (show _ < (_ : Int); omega) | (show _ ≤ (_ : Nat); omega) | (show _ < (_ : Nat); omega) | skip
      refine ⟨k + 1, ⟨(by omega : k + 1 ≤ l.length), (by first | omega | (dsimp only; omega))⟩, ?_⟩
      (focus (refine ⟨_, _, Gh.refl, [0, 1, 2, 5, 6], rfl, ?_⟩; (refine fitq ?_ ?_ ?_ <;> try exact trivial); (try any_goals (refine ⟨?_, ?_⟩)); (try any_goals (with_reducible rfl))))
      all_goals (repeat' (first | (refine And.intro ?_ ?_) | rfl))
    · have hkd : decide ((k : Int) < (l.length : Int)) = false := decide_eq_false (by omega)
      obtain rfl : k = l.length := by omega
      rw [(stZ_all l).1, (stZ_all l).2]
      (have zx1 := @hkd; all_goals (try ((first | (with_reducible refine wp_id ?_) | (with_reducible refine does_id ?_) | (with_reducible refine ops_id ?_) | (with_reducible refine dw_id ?_)); refine walk ?_; (repeat' (first | exact trivial | with_reducible refine And.intro ?_ ?_)); all_goals (repeat (first | (with_reducible refine ImpB.mk fun hb => ?_) | (with_reducible refine ImpK.mk fun hK => ?_) | (with_reducible refine ImpF.mk fun hF => ?_) | (with_reducible refine ImpQ.mk fun hp => ?_) | (with_reducible refine AllE.mk fun p => ?_) | (with_reducible refine AllR.mk fun rest => ?_) | (with_reducible refine AllK.mk fun K => ?_))))); repeat' (with_reducible refine And.intro ?_ ?_))
      any_goals ((try (refine w_seq fun K hK => ?_)); (try (refine w_block ?_)); refine w_loop (A := Nat × S36) (fun x => x.1 ≤ ops.length ∧ ChI l x.1 x.2) (fun x => ops.length - x.1) (fun x => [(13, .int .i64 x.1), (12, .int .i64 x.2.tm)]) (fun x => [(0, .pack (SV x.2.now x.2.es)), (1, .pack (PW x.2.V)), (3, .rows .int (stL x.2.es)), (4, .rows .bool (offL x.2.es))]) ((0, ⟨0, l.map mkS, ⟨0, 0, 0, 0⟩, 0⟩)) (ws := ?ws2) (tk := ?tk2) ?hw2 ?ht2 ?hi_1 ?h0_1 ?LH2; (case hw2 => simp only [go_sem, decide_true, decide_false, Int.reduceToNat, Nat.min_eq_left, Nat.min_eq_right, Int.reducePow, Nat.reducePow, Int.reduceLE, Int.reduceLT, Int.reduceMul, Int.reduceAdd, Int.reduceSub, Int.reduceNeg, Bool.not_true, Bool.not_false, Bool.not_not, ↓reduceIte, Nat.reduceAdd, Nat.reduceSub, Nat.reduceMul, Nat.reduceEqDiff, reduceCtorEq, Nat.reduceLT, Nat.reduceLeDiff, Nat.reduceGT]; exact rfl); (case ht2 => simp only [go_sem, decide_true, decide_false, Int.reduceToNat, Nat.min_eq_left, Nat.min_eq_right, Int.reducePow, Nat.reducePow, Int.reduceLE, Int.reduceLT, Int.reduceMul, Int.reduceAdd, Int.reduceSub, Int.reduceNeg, Bool.not_true, Bool.not_false, Bool.not_not, ↓reduceIte, Nat.reduceAdd, Nat.reduceSub, Nat.reduceMul, Nat.reduceEqDiff, reduceCtorEq, Nat.reduceLT, Nat.reduceLeDiff, Nat.reduceGT]; exact rfl); (case' LH2 => rintro x E t hx hE ht; simp only [go_sem] at ht; subst ht; simp only [go_sem]; try dsimp only at hx))
      case hi_1 => exact ⟨Nat.zero_le _, ChI.init l⟩
      case h0_1 =>
        (focus (refine ⟨_, _, Gh.refl, [0, 1, 2, 3, 4], rfl, ?_⟩; (refine fitq ?_ ?_ ?_ <;> try exact trivial); (try any_goals (refine ⟨?_, ?_⟩)); (try any_goals (with_reducible rfl))))
        all_goals (repeat' (first | (refine And.intro ?_ ?_) | rfl))
      case LH2 =>
        obtain ⟨k, now, es, V, tm⟩ := x
        obtain ⟨hk0, hI⟩ := hx
        dsimp only at hk0 hI ⊢
        have hn : es.length = l.length := ms_len hI.ms
        have e1 : OkS es := OkS.of hI.ms hok (by omega) (by omega) hI.rn
        have eV := hI.V
        by_cases hk : k < ops.length
        · have hkd : decide ((k : Int) < (ops.length : Int)) = true := decide_eq_true (by omega)
          have hkw : IntKind.i64.wrap ((k : Int) + 1) = ((k + 1 : Nat) : Int) := by rw [wrap_i64 _ (by omega) (by omega)]; omega
          obtain ⟨x, hxx⟩ : ∃ x, ops.getD k Mop.zero = x := ⟨_, rfl⟩
          obtain ⟨call, id, v, on⟩ := x
          by_cases q2 : call = 2
          · subst q2
            obtain ⟨r, hr⟩ : ∃ r, enaR es id = r := ⟨_, rfl⟩
            obtain ⟨es2, hes2⟩ : ∃ es2, enaL id on es = es2 := ⟨_, rfl⟩
            have e2 := And.intro hr hes2
            have hl2 : (stL es2).length = (stL es).length ∧ (offL es2).length = (offL es).length := by rw [← hes2]; simp [enaL]
            have hl3 : (stL es).length = l.length ∧ (offL es).length = l.length := by simp [hn]
            have f22 : decide ((2 : Int) = 2) = true := by decide
            (have zx1 := @hkd; have zx2 := @hkw; have zx3 := @hxx; have zx4 := @f22; all_goals (try ((first | (with_reducible refine wp_id ?_) | (with_reducible refine does_id ?_) | (with_reducible refine ops_id ?_) | (with_reducible refine dw_id ?_)); refine walk ?_; (repeat' (first | exact trivial | with_reducible refine And.intro ?_ ?_)); all_goals (repeat (first | (with_reducible refine ImpB.mk fun hb => ?_) | (with_reducible refine ImpK.mk fun hK => ?_) | (with_reducible refine ImpF.mk fun hF => ?_) | (with_reducible refine ImpQ.mk fun hp => ?_) | (with_reducible refine AllE.mk fun p => ?_) | (with_reducible refine AllR.mk fun rest => ?_) | (with_reducible refine AllK.mk fun K => ?_))))); repeat' (with_reducible refine And.intro ?_ ?_))
            all_goals first | (show _ ≤ (_ : Int); omega) | (show _ < (_ : Int); omega) | (show _ ≤ (_ : Nat); omega) | (show _ < (_ : Nat); omega) | skip
            any_goals ((try (refine w_seq fun K hK => ?_)); (try (refine w_block ?_)); refine w_loop (A := Nat) (fun j => j ≤ l.length) (fun j => l.length - j) (fun j => [(16, .int .i64 j)]) (fun j => [(3, .rows .int (mx (stL es2) (stL es) j)), (4, .rows .bool (mx (offL es2) (offL es) j))]) (0) (ws := ?ws3) (tk := ?tk3) ?hw3 ?ht3 ?hi_2 ?h0_2 ?LH3; (case hw3 => simp only [go_sem, decide_true, decide_false, Int.reduceToNat, Nat.min_eq_left, Nat.min_eq_right, Int.reducePow, Nat.reducePow, Int.reduceLE, Int.reduceLT, Int.reduceMul, Int.reduceAdd, Int.reduceSub, Int.reduceNeg, Bool.not_true, Bool.not_false, Bool.not_not, ↓reduceIte, Nat.reduceAdd, Nat.reduceSub, Nat.reduceMul, Nat.reduceEqDiff, reduceCtorEq, Nat.reduceLT, Nat.reduceLeDiff, Nat.reduceGT]; exact rfl); (case ht3 => simp only [go_sem, decide_true, decide_false, Int.reduceToNat, Nat.min_eq_left, Nat.min_eq_right, Int.reducePow, Nat.reducePow, Int.reduceLE, Int.reduceLT, Int.reduceMul, Int.reduceAdd, Int.reduceSub, Int.reduceNeg, Bool.not_true, Bool.not_false, Bool.not_not, ↓reduceIte, Nat.reduceAdd, Nat.reduceSub, Nat.reduceMul, Nat.reduceEqDiff, reduceCtorEq, Nat.reduceLT, Nat.reduceLeDiff, Nat.reduceGT]; exact rfl); (case' LH3 => rintro j E t hx hE ht; simp only [go_sem] at ht; subst ht; simp only [go_sem]; try dsimp only at hx))
            case hi_2 => exact Nat.zero_le _
            case h0_2 =>
              (focus (refine ⟨_, _, Gh.refl, [0, 1, 2, 3, 4, 5], rfl, ?_⟩; (refine fitq ?_ ?_ ?_ <;> try exact trivial); (try any_goals (refine ⟨?_, ?_⟩)); (try any_goals (with_reducible rfl))))
              all_goals (repeat' (first | (refine And.intro ?_ ?_) | rfl))
            case LH3 =>
              have hj0 : j ≤ l.length := hx
              have hm1 := mx_len hl2.1 (k := j) (by omega)
              have hm2 := mx_len hl2.2 (k := j) (by omega)
              by_cases hj : j < l.length
              · have hjd : decide ((j : Int) < (l.length : Int)) = true := decide_eq_true (by omega)
                have hjw : IntKind.i64.wrap ((j : Int) + 1) = ((j + 1 : Nat) : Int) := by rw [wrap_i64 _ (by omega) (by omega)]; omega
                have hje : j < es.length := by omega
                have hmm := mAt_map hI.ms hje
                obtain ⟨mm, hmj⟩ : ∃ mm, mAt l j = mm := ⟨_, rfl⟩
                rw [hmj] at hmm
                have hat2 := enaL_of (id := id) (on := on) hje
                rw [hes2] at hat2
                have hz1 := hI.z _ (mem_at hje)
                have hje2 : j < es2.length := by rw [← hes2]; simpa [enaL] using hje
                have s1 := stL_at hje
                have s2 := stL_at hje2
                have t1 := mx_set hl2.1 (k := j) (by omega) 0
                have t2 := mx_set hl2.2 (k := j) (by omega) false
                have t3 := mx_same hl2.1 (k := j) (by omega) 0
                have t4 := mx_same hl2.2 (k := j) (by omega) false
                have t5 := mx_at1 hl2.2 (k := j) (by omega) false
                have hm3 := mx_len hl2.2 (k := j + 1) (by omega)
                rw [s2.1] at t1
                rw [s2.2] at t2 t5
                rw [s1.1, s2.1] at t3
                rw [s1.2, s2.2] at t4
                have hez := enaS_z (on := on) hz1
                have heo := enaS_off on (eAtS es j)
                rw [hl3.1] at hm1
                rw [hl3.2] at hm2 hm3
                by_cases hid : mm.id = id
                · have hidd : decide (mm.id = id) = true := decide_eq_true hid
                  rw [if_pos (by rw [← hmm]; exact hid)] at hat2
                  have hr0 : r = 0 := by rw [← hr]; exact enaR_of hje (by rw [← hmm]; exact hid)
                  have hrd : decide (¬ r = 0) = false := decide_eq_false (fun q => q hr0)
                  rw [hat2, heo] at t2 t5
                  cases on with
                  | true =>
                    have hst : (enaS true (eAtS es j)).st = (eAtS es j).st := hez.2 heo
                    have t3' := t3 (by rw [hat2]; exact hst)
                    have t2' : (mx (offL es2) (offL es) j).set j false = mx (offL es2) (offL es) (j + 1) := t2
                    have t5' : (mx (offL es2) (offL es) (j + 1)).getD j false = false := t5
                    (have zx1 := @hjd; have zx2 := @hjw; have zx3 := @hmj; have zx4 := @hidd; have zx5 := @hrd; have zx6 := @t2'; have zx7 := @t5'; have zx8 := @hm2; have zx9 := @hm1; have zx10 := @hm3; all_goals (try ((first | (with_reducible refine wp_id ?_) | (with_reducible refine does_id ?_) | (with_reducible refine ops_id ?_) | (with_reducible refine dw_id ?_)); refine walk ?_; (repeat' (first | exact trivial | with_reducible refine And.intro ?_ ?_)); all_goals (repeat (first | (with_reducible refine ImpB.mk fun hb => ?_) | (with_reducible refine ImpK.mk fun hK => ?_) | (with_reducible refine ImpF.mk fun hF => ?_) | (with_reducible refine ImpQ.mk fun hp => ?_) | (with_reducible refine AllE.mk fun p => ?_) | (with_reducible refine AllR.mk fun rest => ?_) | (with_reducible refine AllK.mk fun K => ?_))))); repeat' (with_reducible refine And.intro ?_ ?_))
                    all_goals first | (show _ ≤ (_ : Int); omega) | (show _ < (_ : Int); omega) | (show _ ≤ (_ : Nat); omega) | (show _ < (_ : Nat); omega) | skip
                    refine ⟨j + 1, ⟨(by omega : j + 1 ≤ l.length), (by first | omega | (dsimp only; omega))⟩, ?_⟩
                    dsimp only
                    rw [t3']
                    (focus (refine ⟨_, _, Gh.refl, [0, 1, 2, 3, 4, 5], rfl, ?_⟩; (refine fitq ?_ ?_ ?_ <;> try exact trivial); (try any_goals (refine ⟨?_, ?_⟩)); (try any_goals (with_reducible rfl))))
                    all_goals (repeat' (first | (refine And.intro ?_ ?_) | rfl))
                  | false =>
                    have hst : (enaS false (eAtS es j)).st = 0 := hez.1 heo
                    rw [hat2, hst] at t1
                    have t2' : (mx (offL es2) (offL es) j).set j true = mx (offL es2) (offL es) (j + 1) := t2
                    have t5' : (mx (offL es2) (offL es) (j + 1)).getD j false = true := t5
                    (have zx1 := @hjd; have zx2 := @hjw; have zx3 := @hmj; have zx4 := @hidd; have zx5 := @hrd; have zx6 := @t1; have zx7 := @t2'; have zx8 := @t5'; have zx9 := @hm2; have zx10 := @hm1; have zx11 := @hm3; all_goals (try ((first | (with_reducible refine wp_id ?_) | (with_reducible refine does_id ?_) | (with_reducible refine ops_id ?_) | (with_reducible refine dw_id ?_)); refine walk ?_; (repeat' (first | exact trivial | with_reducible refine And.intro ?_ ?_)); all_goals (repeat (first | (with_reducible refine ImpB.mk fun hb => ?_) | (with_reducible refine ImpK.mk fun hK => ?_) | (with_reducible refine ImpF.mk fun hF => ?_) | (with_reducible refine ImpQ.mk fun hp => ?_) | (with_reducible refine AllE.mk fun p => ?_) | (with_reducible refine AllR.mk fun rest => ?_) | (with_reducible refine AllK.mk fun K => ?_))))); repeat' (with_reducible refine And.intro ?_ ?_))
                    all_goals first | (show _ ≤ (_ : Int); omega) | (show _ < (_ : Int); omega) | (show _ ≤ (_ : Nat); omega) | (show _ < (_ : Nat); omega) | skip
                    refine ⟨j + 1, ⟨(by omega : j + 1 ≤ l.length), (by first | omega | (dsimp only; omega))⟩, ?_⟩
                    dsimp only
                    (focus (refine ⟨_, _, Gh.refl, [0, 1, 2, 3, 4, 5], rfl, ?_⟩; (refine fitq ?_ ?_ ?_ <;> try exact trivial); (try any_goals (refine ⟨?_, ?_⟩)); (try any_goals (with_reducible rfl))))
                    all_goals (repeat' (first | (refine And.intro ?_ ?_) | rfl))
                · have hidd : decide (mm.id = id) = false := decide_eq_false hid
                  rw [if_neg (by rw [← hmm]; exact hid)] at hat2
                  rw [hat2] at t1 t2 t3 t4 t5
                  have t4' := t4 rfl
                  rw [t4'] at t5
                  cases ho : (eAtS es j).off with
                  | true =>
                    rw [hz1 ho] at t1
                    rw [ho] at t5
                    (have zx1 := @hjd; have zx2 := @hjw; have zx3 := @hmj; have zx4 := @hidd; have zx5 := @t1; have zx6 := @t5; have zx7 := @hm2; have zx8 := @hm1; all_goals (try ((first | (with_reducible refine wp_id ?_) | (with_reducible refine does_id ?_) | (with_reducible refine ops_id ?_) | (with_reducible refine dw_id ?_)); refine walk ?_; (repeat' (first | exact trivial | with_reducible refine And.intro ?_ ?_)); all_goals (repeat (first | (with_reducible refine ImpB.mk fun hb => ?_) | (with_reducible refine ImpK.mk fun hK => ?_) | (with_reducible refine ImpF.mk fun hF => ?_) | (with_reducible refine ImpQ.mk fun hp => ?_) | (with_reducible refine AllE.mk fun p => ?_) | (with_reducible refine AllR.mk fun rest => ?_) | (with_reducible refine AllK.mk fun K => ?_))))); repeat' (with_reducible refine And.intro ?_ ?_))
                    all_goals first | (show _ ≤ (_ : Int); omega) | (show _ < (_ : Int); omega) | (show _ ≤ (_ : Nat); omega) | (show _ < (_ : Nat); omega) | skip
                    refine ⟨j + 1, ⟨(by omega : j + 1 ≤ l.length), (by first | omega | (dsimp only; omega))⟩, ?_⟩
                    dsimp only
                    rw [t4']
                    (focus (refine ⟨_, _, Gh.refl, [0, 1, 2, 3, 4, 5], rfl, ?_⟩; (refine fitq ?_ ?_ ?_ <;> try exact trivial); (try any_goals (refine ⟨?_, ?_⟩)); (try any_goals (with_reducible rfl))))
                    all_goals (repeat' (first | (refine And.intro ?_ ?_) | rfl))
                  | false =>
                    have t3' := t3 rfl
                    rw [ho] at t5
                    (have zx1 := @hjd; have zx2 := @hjw; have zx3 := @hmj; have zx4 := @hidd; have zx5 := @t5; have zx6 := @hm2; have zx7 := @hm1; all_goals (try ((first | (with_reducible refine wp_id ?_) | (with_reducible refine does_id ?_) | (with_reducible refine ops_id ?_) | (with_reducible refine dw_id ?_)); refine walk ?_; (repeat' (first | exact trivial | with_reducible refine And.intro ?_ ?_)); all_goals (repeat (first | (with_reducible refine ImpB.mk fun hb => ?_) | (with_reducible refine ImpK.mk fun hK => ?_) | (with_reducible refine ImpF.mk fun hF => ?_) | (with_reducible refine ImpQ.mk fun hp => ?_) | (with_reducible refine AllE.mk fun p => ?_) | (with_reducible refine AllR.mk fun rest => ?_) | (with_reducible refine AllK.mk fun K => ?_))))); repeat' (with_reducible refine And.intro ?_ ?_))
                    all_goals first | (show _ ≤ (_ : Int); omega) | (show _ < (_ : Int); omega) | (show _ ≤ (_ : Nat); omega) | (show _ < (_ : Nat); omega) | skip
                    refine ⟨j + 1, ⟨(by omega : j + 1 ≤ l.length), (by first | omega | (dsimp only; omega))⟩, ?_⟩
                    dsimp only
                    rw [t4', t3']
                    (focus (refine ⟨_, _, Gh.refl, [0, 1, 2, 3, 4, 5], rfl, ?_⟩; (refine fitq ?_ ?_ ?_ <;> try exact trivial); (try any_goals (refine ⟨?_, ?_⟩)); (try any_goals (with_reducible rfl))))
                    all_goals (repeat' (first | (refine And.intro ?_ ?_) | rfl))
              · have hjd : decide ((j : Int) < (l.length : Int)) = false := decide_eq_false (by omega)
                obtain rfl : j = l.length := by omega
                have ha1 := mx_all hl2.1
                have ha2 := mx_all hl2.2
                rw [hl3.1] at ha1
                rw [hl3.2] at ha2
                rw [ha1, ha2]
                (have zx1 := @hjd; have zx2 := @hkw; all_goals (try ((first | (with_reducible refine wp_id ?_) | (with_reducible refine does_id ?_) | (with_reducible refine ops_id ?_) | (with_reducible refine dw_id ?_)); refine walk ?_; (repeat' (first | exact trivial | with_reducible refine And.intro ?_ ?_)); all_goals (repeat (first | (with_reducible refine ImpB.mk fun hb => ?_) | (with_reducible refine ImpK.mk fun hK => ?_) | (with_reducible refine ImpF.mk fun hF => ?_) | (with_reducible refine ImpQ.mk fun hp => ?_) | (with_reducible refine AllE.mk fun p => ?_) | (with_reducible refine AllR.mk fun rest => ?_) | (with_reducible refine AllK.mk fun K => ?_))))); repeat' (with_reducible refine And.intro ?_ ?_))
                have hI2 := hI.ena id on
                rw [hes2] at hI2
                refine ⟨(k + 1, ⟨now, es2, V, tm⟩), ⟨⟨(by show k + 1 ≤ ops.length; omega), hI2⟩, (by show ops.length - (k + 1) < ops.length - k; omega)⟩, ?_⟩
                (focus (refine ⟨_, _, Gh.refl, [0, 1, 2, 3, 4], rfl, ?_⟩; (refine fitq ?_ ?_ ?_ <;> try exact trivial); (try any_goals (refine ⟨?_, ?_⟩)); (try any_goals (with_reducible rfl))))
                all_goals (repeat' (first | (refine And.intro ?_ ?_) | rfl))
          by_cases q3 : call = 3
          · subst q3
            have f32 : decide ((3 : Int) = 2) = false := by decide
            have f33 : decide ((3 : Int) = 3) = true := by decide
            (have zx1 := @hkd; have zx2 := @hkw; have zx3 := @hxx; have zx4 := @f32; have zx5 := @f33; all_goals (try ((first | (with_reducible refine wp_id ?_) | (with_reducible refine does_id ?_) | (with_reducible refine ops_id ?_) | (with_reducible refine dw_id ?_)); refine walk ?_; (repeat' (first | exact trivial | with_reducible refine And.intro ?_ ?_)); all_goals (repeat (first | (with_reducible refine ImpB.mk fun hb => ?_) | (with_reducible refine ImpK.mk fun hK => ?_) | (with_reducible refine ImpF.mk fun hF => ?_) | (with_reducible refine ImpQ.mk fun hp => ?_) | (with_reducible refine AllE.mk fun p => ?_) | (with_reducible refine AllR.mk fun rest => ?_) | (with_reducible refine AllK.mk fun K => ?_))))); repeat' (with_reducible refine And.intro ?_ ?_))
            all_goals first | (show _ ≤ (_ : Int); omega) | (show _ < (_ : Int); omega) | (show _ ≤ (_ : Nat); omega) | (show _ < (_ : Nat); omega) | skip
            refine ⟨(k + 1, ⟨now, es, V.set id v, tm⟩), ⟨⟨(by show k + 1 ≤ ops.length; omega), hI.set id v⟩, (by show ops.length - (k + 1) < ops.length - k; omega)⟩, ?_⟩
            (focus (refine ⟨_, _, Gh.refl, [0, 1, 2, 3, 4], rfl, ?_⟩; (refine fitq ?_ ?_ ?_ <;> try exact trivial); (try any_goals (refine ⟨?_, ?_⟩)); (try any_goals (with_reducible rfl))))
            all_goals (repeat' (first | (refine And.intro ?_ ?_) | rfl))
          · have f2 : decide (call = 2) = false := decide_eq_false q2
            have f3 : decide (call = 3) = false := decide_eq_false q3
            obtain ⟨nw, hnw⟩ : ∃ z, nowQ now v = z := ⟨_, rfl⟩
            obtain ⟨out, hout⟩ : ∃ z, chkO nw V.get es = z := ⟨_, rfl⟩
            obtain ⟨es2, hes2⟩ : ∃ z, chkL nw V.get es = z := ⟨_, rfl⟩
            have e3 := And.intro hnw (And.intro hout hes2)
            have hol := chkO_len (nw := nw) (pv := V.get) (es := es)
            rw [hout] at hol
            have htn : tm ≤ nw := by have := nowQ_le now v; have := hI.tm; dsimp only at this; omega
            have hol2 : out.length ≤ 1099511627776 := by omega
            have hl3 : (offL es).length = l.length := by simp [hn]
            (have zx1 := @hkd; have zx2 := @hkw; have zx3 := @hxx; have zx4 := @f2; have zx5 := @f3; all_goals (try ((first | (with_reducible refine wp_id ?_) | (with_reducible refine does_id ?_) | (with_reducible refine ops_id ?_) | (with_reducible refine dw_id ?_)); refine walk ?_; (repeat' (first | exact trivial | with_reducible refine And.intro ?_ ?_)); all_goals (repeat (first | (with_reducible refine ImpB.mk fun hb => ?_) | (with_reducible refine ImpK.mk fun hK => ?_) | (with_reducible refine ImpF.mk fun hF => ?_) | (with_reducible refine ImpQ.mk fun hp => ?_) | (with_reducible refine AllE.mk fun p => ?_) | (with_reducible refine AllR.mk fun rest => ?_) | (with_reducible refine AllK.mk fun K => ?_))))); repeat' (with_reducible refine And.intro ?_ ?_))
            all_goals first | (show _ ≤ (_ : Int); omega) | (show _ < (_ : Int); omega) | (show _ ≤ (_ : Nat); omega) | (show _ < (_ : Nat); omega) | skip
            any_goals ((try (refine w_seq fun K hK => ?_)); (try (refine w_block ?_)); refine w_loop (A := Nat × Int) (fun x => x.1 ≤ es.length ∧ x.2 ≤ nw) (fun x => es.length - x.1) (fun x => [(19, .int .i64 (trK nw V.get es x.1).length), (18, .int .i64 (lstI x.1)), (12, .int .i64 x.2)]) (fun x => [(3, .rows .int (stM nw V.get es x.1))]) ((0, tm)) (ws := ?ws4) (tk := ?tk4) ?hw4 ?ht4 ?hi_3 ?h0_3 ?LH4; (case hw4 => simp only [go_sem, decide_true, decide_false, Int.reduceToNat, Nat.min_eq_left, Nat.min_eq_right, Int.reducePow, Nat.reducePow, Int.reduceLE, Int.reduceLT, Int.reduceMul, Int.reduceAdd, Int.reduceSub, Int.reduceNeg, Bool.not_true, Bool.not_false, Bool.not_not, ↓reduceIte, Nat.reduceAdd, Nat.reduceSub, Nat.reduceMul, Nat.reduceEqDiff, reduceCtorEq, Nat.reduceLT, Nat.reduceLeDiff, Nat.reduceGT]; exact rfl); (case ht4 => simp only [go_sem, decide_true, decide_false, Int.reduceToNat, Nat.min_eq_left, Nat.min_eq_right, Int.reducePow, Nat.reducePow, Int.reduceLE, Int.reduceLT, Int.reduceMul, Int.reduceAdd, Int.reduceSub, Int.reduceNeg, Bool.not_true, Bool.not_false, Bool.not_not, ↓reduceIte, Nat.reduceAdd, Nat.reduceSub, Nat.reduceMul, Nat.reduceEqDiff, reduceCtorEq, Nat.reduceLT, Nat.reduceLeDiff, Nat.reduceGT]; exact rfl); (case' LH4 => rintro x E t hx hE ht; simp only [go_sem] at ht; subst ht; simp only [go_sem]; try dsimp only at hx))
            case hi_3 => exact ⟨Nat.zero_le _, htn⟩
            case h0_3 =>
              (focus (refine ⟨_, _, Gh.refl, [0, 1, 2, 3, 4, 5], rfl, ?_⟩; (refine fitq ?_ ?_ ?_ <;> try exact trivial); (try any_goals (refine ⟨?_, ?_⟩)); (try any_goals (with_reducible rfl))))
              all_goals (repeat' (first | (refine And.intro ?_ ?_) | rfl))
            case LH4 =>
              obtain ⟨kk, τ⟩ := x
              obtain ⟨hkk, hτ⟩ := hx
              dsimp only at hkk hτ ⊢
              have htl := trK_len (now := nw) (pv := V.get) hkk
              have hsl := stM_len nw V.get es hkk
              rw [hn] at hsl
              have hend := stM_end (nw := nw) (pv := V.get) _ kk rfl hkk
              rw [hout, hes2] at hend
              have hstep := tr_step (now := nw) (pv := V.get) hkk rfl
              rw [hout] at hstep
              obtain ⟨jj, hjj⟩ : ∃ jj, (trK nw V.get es kk).length = jj := ⟨_, rfl⟩
              rw [hjj] at htl hend hstep ⊢
              by_cases hj : jj < out.length
              · have hjd : decide ((jj : Int) < (out.length : Int)) = true := decide_eq_true (by omega)
                have hjw : IntKind.i64.wrap ((jj : Int) + 1) = ((jj + 1 : Nat) : Int) := by rw [wrap_i64 _ (by omega) (by omega)]; omega
                obtain ⟨k', w, p1, p2, p3, p4, p5, p6, p7, p8⟩ := hstep hj
                have g3 : out.getD jj Tra.zero = ⟨nw, (eAtS es k').m.id, (eAtS es k').st, (chkS nw V.get (eAtS es k')).1.st, w⟩ := by rw [List.getD_eq_getElem?_getD, p3]; rfl
                have hmm := mAt_map hI.ms p2
                rw [← hmm] at g3
                obtain ⟨mm, hmk⟩ : ∃ mm, mAt l k' = mm := ⟨_, rfl⟩
                rw [hmk] at g3
                obtain ⟨a, ha⟩ : ∃ a, (eAtS es k').st = a := ⟨_, rfl⟩
                obtain ⟨b, hb2⟩ : ∃ b, (chkS nw V.get (eAtS es k')).1.st = b := ⟨_, rfl⟩
                rw [ha, hb2] at g3 p5
                rw [ha] at p4
                rw [hb2] at p8
                have p8 := p8.symm
                have g4 := (stL_at p2).2
                rw [p6] at g4
                have hkl : k' < l.length := by omega
                (have zx1 := @hjd; all_goals (try ((first | (with_reducible refine wp_id ?_) | (with_reducible refine does_id ?_) | (with_reducible refine ops_id ?_) | (with_reducible refine dw_id ?_)); refine walk ?_; (repeat' (first | exact trivial | with_reducible refine And.intro ?_ ?_)); all_goals (repeat (first | (with_reducible refine ImpB.mk fun hb => ?_) | (with_reducible refine ImpK.mk fun hK => ?_) | (with_reducible refine ImpF.mk fun hF => ?_) | (with_reducible refine ImpQ.mk fun hp => ?_) | (with_reducible refine AllE.mk fun p => ?_) | (with_reducible refine AllR.mk fun rest => ?_) | (with_reducible refine AllK.mk fun K => ?_))))); repeat' (with_reducible refine And.intro ?_ ?_))
                any_goals ((try (refine w_seq fun K hK => ?_)); (try (refine w_block ?_)); refine w_loop (A := Nat) (fun i => i ≤ k') (fun i => k' - i) (fun i => [(20, .int .i64 i)]) (fun i => []) (0) (ws := ?ws5) (tk := ?tk5) ?hw5 ?ht5 ?hi_4 ?h0_4 ?LH5; (case hw5 => simp only [go_sem, decide_true, decide_false, Int.reduceToNat, Nat.min_eq_left, Nat.min_eq_right, Int.reducePow, Nat.reducePow, Int.reduceLE, Int.reduceLT, Int.reduceMul, Int.reduceAdd, Int.reduceSub, Int.reduceNeg, Bool.not_true, Bool.not_false, Bool.not_not, ↓reduceIte, Nat.reduceAdd, Nat.reduceSub, Nat.reduceMul, Nat.reduceEqDiff, reduceCtorEq, Nat.reduceLT, Nat.reduceLeDiff, Nat.reduceGT]; exact rfl); (case ht5 => simp only [go_sem, decide_true, decide_false, Int.reduceToNat, Nat.min_eq_left, Nat.min_eq_right, Int.reducePow, Nat.reducePow, Int.reduceLE, Int.reduceLT, Int.reduceMul, Int.reduceAdd, Int.reduceSub, Int.reduceNeg, Bool.not_true, Bool.not_false, Bool.not_not, ↓reduceIte, Nat.reduceAdd, Nat.reduceSub, Nat.reduceMul, Nat.reduceEqDiff, reduceCtorEq, Nat.reduceLT, Nat.reduceLeDiff, Nat.reduceGT]; exact rfl); (case' LH5 => rintro i E t hx hE ht; simp only [go_sem] at ht; subst ht; simp only [go_sem]; try dsimp only at hx))
                case hi_4 => exact Nat.zero_le _
                case h0_4 =>
                  (focus (refine ⟨_, _, Gh.refl, [0, 1, 2, 3, 4, 5], rfl, ?_⟩; (refine fitq ?_ ?_ ?_ <;> try exact trivial); (try any_goals (refine ⟨?_, ?_⟩)); (try any_goals (with_reducible rfl))))
                  all_goals (repeat' (first | (refine And.intro ?_ ?_) | rfl))
                case LH5 =>
                  have hi0 : i ≤ k' := hx
                  have hid : decide ((i : Int) < (l.length : Int)) = true := decide_eq_true (by omega)
                  by_cases hi : i < k'
                  · have hiw : IntKind.i64.wrap ((i : Int) + 1) = ((i + 1 : Nat) : Int) := by rw [wrap_i64 _ (by omega) (by omega)]; omega
                    have hlt := okM_lt hok hi hkl
                    rw [hmk] at hlt
                    obtain ⟨m2, hm2⟩ : ∃ m2, mAt l i = m2 := ⟨_, rfl⟩
                    rw [hm2] at hlt
                    have hne : decide (¬ m2.id = mm.id) = true := decide_eq_true (by omega)
                    (have zx1 := @hid; have zx2 := @hiw; have zx3 := @hm2; have zx4 := @g3; have zx5 := @hne; all_goals (try ((first | (with_reducible refine wp_id ?_) | (with_reducible refine does_id ?_) | (with_reducible refine ops_id ?_) | (with_reducible refine dw_id ?_)); refine walk ?_; (repeat' (first | exact trivial | with_reducible refine And.intro ?_ ?_)); all_goals (repeat (first | (with_reducible refine ImpB.mk fun hb => ?_) | (with_reducible refine ImpK.mk fun hK => ?_) | (with_reducible refine ImpF.mk fun hF => ?_) | (with_reducible refine ImpQ.mk fun hp => ?_) | (with_reducible refine AllE.mk fun p => ?_) | (with_reducible refine AllR.mk fun rest => ?_) | (with_reducible refine AllK.mk fun K => ?_))))); repeat' (with_reducible refine And.intro ?_ ?_))
                    all_goals first | (show _ ≤ (_ : Int); omega) | (show _ < (_ : Int); omega) | (show _ ≤ (_ : Nat); omega) | (show _ < (_ : Nat); omega) | skip
                    refine ⟨i + 1, ⟨(by omega : i + 1 ≤ k'), (by first | omega | (dsimp only; omega))⟩, ?_⟩
                    (focus (refine ⟨_, _, Gh.refl, [0, 1, 2, 3, 4, 5], rfl, ?_⟩; (refine fitq ?_ ?_ ?_ <;> try exact trivial); (try any_goals (refine ⟨?_, ?_⟩)); (try any_goals (with_reducible rfl))))
                    all_goals (repeat' (first | (refine And.intro ?_ ?_) | rfl))
                  · obtain rfl : i = k' := by omega
                    have hne : decide (¬ mm.id = mm.id) = false := decide_eq_false (fun q => q rfl)
                    have r1 : decide ((i : Int) = (l.length : Int)) = false := decide_eq_false (by omega)
                    have r2 : decide ((i : Int) ≤ lstI kk) = false := decide_eq_false (by have := lstI_lt kk; omega)
                    have r3 : decide (¬ a = a) = false := decide_eq_false (fun q => q rfl)
                    have r4 : decide (b = a) = false := decide_eq_false p5
                    have r5 : decide (nw < τ) = false := decide_eq_false (by omega)
                    have rr := And.intro r1 (And.intro r2 (And.intro r3 (And.intro r4 r5)))
                    have hmg := And.intro hmk (And.intro g3 g4)
                    (have zx1 := @hid; have zx2 := @hmg; have zx3 := @hne; have zx4 := @rr; have zx5 := @p4; have zx6 := @p8; have zx7 := @hjw; have zx8 := @hsl; have zx9 := @hl3; all_goals (try ((first | (with_reducible refine wp_id ?_) | (with_reducible refine does_id ?_) | (with_reducible refine ops_id ?_) | (with_reducible refine dw_id ?_)); refine walk ?_; (repeat' (first | exact trivial | with_reducible refine And.intro ?_ ?_)); all_goals (repeat (first | (with_reducible refine ImpB.mk fun hb => ?_) | (with_reducible refine ImpK.mk fun hK => ?_) | (with_reducible refine ImpF.mk fun hF => ?_) | (with_reducible refine ImpQ.mk fun hp => ?_) | (with_reducible refine AllE.mk fun p => ?_) | (with_reducible refine AllR.mk fun rest => ?_) | (with_reducible refine AllK.mk fun K => ?_))))); repeat' (with_reducible refine And.intro ?_ ?_))
                    all_goals first | (show _ ≤ (_ : Int); omega) | (show _ < (_ : Int); omega) | (show _ ≤ (_ : Nat); omega) | (show _ < (_ : Nat); omega) | skip
                    refine ⟨(i + 1, nw), ⟨⟨(by show i + 1 ≤ es.length; omega), Int.le_refl _⟩, (by show es.length - (i + 1) < es.length - kk; omega)⟩, ?_⟩
                    dsimp only
                    rw [p7]
                    (focus (refine ⟨_, _, Gh.refl, [0, 1, 2, 3, 4, 5], rfl, ?_⟩; (refine fitq ?_ ?_ ?_ <;> try exact trivial); (try any_goals (refine ⟨?_, ?_⟩)); (try any_goals (with_reducible rfl))))
                    all_goals (repeat' (first | (refine And.intro ?_ ?_) | rfl))
              · have hjd : decide ((jj : Int) < (out.length : Int)) = false := decide_eq_false (by omega)
                have hjo : jj = out.length := by
                  obtain ⟨rest, hr⟩ := trK_pre nw V.get es kk
                  have : out.length = jj + rest.length := by rw [← hout, hr, List.length_append, hjj]
                  omega
                rw [hend hjo]
                (have zx1 := @hjd; have zx2 := @hkw; all_goals (try ((first | (with_reducible refine wp_id ?_) | (with_reducible refine does_id ?_) | (with_reducible refine ops_id ?_) | (with_reducible refine dw_id ?_)); refine walk ?_; (repeat' (first | exact trivial | with_reducible refine And.intro ?_ ?_)); all_goals (repeat (first | (with_reducible refine ImpB.mk fun hb => ?_) | (with_reducible refine ImpK.mk fun hK => ?_) | (with_reducible refine ImpF.mk fun hF => ?_) | (with_reducible refine ImpQ.mk fun hp => ?_) | (with_reducible refine AllE.mk fun p => ?_) | (with_reducible refine AllR.mk fun rest => ?_) | (with_reducible refine AllK.mk fun K => ?_))))); repeat' (with_reducible refine And.intro ?_ ?_))
                have hI2 := hI.chk (nw := nw) (tm' := τ) hτ
                rw [hes2] at hI2
                have ho2 : offL es = offL es2 := by rw [← hes2]; exact chkL_m.2.symm
                refine ⟨(k + 1, ⟨nw, es2, V, τ⟩), ⟨⟨(by show k + 1 ≤ ops.length; omega), hI2⟩, (by show ops.length - (k + 1) < ops.length - k; omega)⟩, ?_⟩
                dsimp only
                rw [← ho2]
                (focus (refine ⟨_, _, Gh.refl, [0, 1, 2, 3, 4], rfl, ?_⟩; (refine fitq ?_ ?_ ?_ <;> try exact trivial); (try any_goals (refine ⟨?_, ?_⟩)); (try any_goals (with_reducible rfl))))
                all_goals (repeat' (first | (refine And.intro ?_ ?_) | rfl))
        · have hkd : decide ((k : Int) < (ops.length : Int)) = false := decide_eq_false (by omega)
          (have zx1 := @hkd; all_goals (try ((first | (with_reducible refine wp_id ?_) | (with_reducible refine does_id ?_) | (with_reducible refine ops_id ?_) | (with_reducible refine dw_id ?_)); refine walk ?_; (repeat' (first | exact trivial | with_reducible refine And.intro ?_ ?_)); all_goals (repeat (first | (with_reducible refine ImpB.mk fun hb => ?_) | (with_reducible refine ImpK.mk fun hK => ?_) | (with_reducible refine ImpF.mk fun hF => ?_) | (with_reducible refine ImpQ.mk fun hp => ?_) | (with_reducible refine AllE.mk fun p => ?_) | (with_reducible refine AllR.mk fun rest => ?_) | (with_reducible refine AllK.mk fun K => ?_))))); repeat' (with_reducible refine And.intro ?_ ?_))
          (focus (refine ⟨_, _, Gh.refl, [], rfl, ?_⟩; (refine fitq ?_ ?_ ?_ <;> try exact trivial); (try any_goals (refine ⟨?_, ?_⟩)); (try any_goals (with_reducible rfl))))
          all_goals (repeat' (first | (refine And.intro ?_ ?_) | rfl))
end Go.V
