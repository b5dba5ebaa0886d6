/-
  monitor: a service of any number of monitors, as it lies.
  monitor: what Check and Enable do, and the chain of transitions (plain).
  monitor: newChecker in full.
-/
import Derived.Test.YtifighagbpjogaaPart15
set_option linter.unusedVariables false
set_option linter.unusedSimpArgs false
set_option maxRecDepth 100000
set_option maxHeartbeats 8000000
namespace Go.V
open Go.Proofs
/-- a monitor with its state -/
structure Sm where
  m : Mon
  off : Bool
  st : Int
  res : Int
  run : Int
  bg : Bool
  last : Int
def Sm.zero : Sm := ⟨⟨0, 0, 0, 0, 0, 0, 0, 0⟩, false, 0, 0, 0, false, 0⟩
abbrev eAtS (es : List Sm) (i : Nat) : Sm := es.getD i Sm.zero
def ckA (m : Mon) (d : Nat) : AV := if m.kind = 3 then .ifc 98 (.ptr d 0) else if m.kind = 2 then .ifc 105 (.agg [.int .i64 m.low]) else .ifc 103 (.agg [.int .i64 m.low, .int .i64 m.high])
def enC (e : Sm) (d : Nat) : List AV := [.int .i64 e.m.id, .int .i64 e.m.param, .int .i64 e.m.kind, .int .i64 e.m.low, .int .i64 e.m.high, .int .i64 e.m.rep, .int .i64 e.m.ev, .int .i64 e.m.sev, ckA e.m d, .bool e.off, .int .i64 e.st, .int .i64 e.res, .int .i64 e.run]
def dlV (e : Sm) : List AV := [.int .i64 e.m.high, .bool e.bg, .int .i64 e.last]
def dlC (e : Sm) : Ch := if e.m.kind = 3 then .cells (dlV e) else .gone
def ptA : List (Nat × Nat) → List AV
  | [] => []
  | t :: ts => .ptr t.1 0 :: ptA ts
def ilv : List (Nat × Nat) → List Nat
  | [] => []
  | t :: ts => t.1 :: t.2 :: ilv ts
/-- the places of n entries from k on -/
def plc : Nat → Nat → List (Nat × Nat)
  | _, 0 => []
  | k, n + 1 => (k, k + 1) :: plc (k + 2) n
theorem plc_len : ∀ (k n : Nat), (plc k n).length = n
  | _, 0 => rfl
  | k, n + 1 => by rw [plc, List.length_cons, plc_len]
theorem ptA_len : ∀ (l : List (Nat × Nat)), (ptA l).length = l.length
  | [] => rfl
  | t :: ts => by rw [ptA, List.length_cons, List.length_cons, ptA_len]
theorem ptA_at : ∀ {l : List (Nat × Nat)} {i : Nat}, i < l.length → nthA (ptA l) i = .ptr (l.getD i (0, 0)).1 0
  | [], _, h => by simp at h
  | t :: ts, 0, _ => rfl
  | t :: ts, i + 1, h => ptA_at (l := ts) (i := i) (by simpa using h)
theorem ptA_app (l m : List (Nat × Nat)) : ptA (l ++ m) = ptA l ++ ptA m := by
  induction l with
  | nil => rfl
  | cons t ts ih => show AV.ptr t.1 0 :: ptA (ts ++ m) = AV.ptr t.1 0 :: (ptA ts ++ ptA m); rw [ih]
theorem ptA_cells : ∀ (l : List (Nat × Nat)), okCells (ptA l)
  | [] => trivial
  | _ :: ts => ⟨rfl, ptA_cells ts⟩
def SVr : Nat → List Sm → List Ch
  | _, [] => []
  | k, e :: es => .cells (enC e (k + 1)) :: dlC e :: SVr (k + 2) es
def SV (now : Int) (es : List Sm) : List Ch := if es.length = 0 then [.cells [.bool true, .int .i64 now, .lit (.slice none 0 0)]] else .cells [.bool true, .int .i64 now, .csl 1 es.length 1] :: .crow (ptA (plc 2 es.length)) :: SVr 2 es
/-- it lies open -/
structure Srv (h : List Ch) (u v : Nat) (ts : List (Nat × Nat)) (now : Int) (es : List Sm) : Prop where
  pos : 0 < es.length
  o : hth h u = .cells [.bool true, .int .i64 now, .csl v es.length 1]
  o1 : hth h v = .crow (ptA ts)
  len : ts.length = es.length
  ent : ∀ i, i < es.length → hth h (ts.getD i (0, 0)).1 = .cells (enC (eAtS es i) (ts.getD i (0, 0)).2)
  dl : ∀ i, i < es.length → (ts.getD i (0, 0)).2 < h.length ∧ ((eAtS es i).m.kind = 3 → hth h (ts.getD i (0, 0)).2 = .cells (dlV (eAtS es i)))
  nd : (u :: v :: ilv ts).Nodup
theorem ckA_fit {σ : List Nat} {m : Mon} {d d' : Nat} (h : σ[d]? = some d') : fitA σ (ckA m d) (ckA m d') := by
  unfold ckA
  split
  · exact ⟨rfl, h, rfl⟩
  · split
    · exact ⟨rfl, ⟨rfl, rfl⟩, trivial⟩
    · exact ⟨rfl, ⟨rfl, rfl⟩, ⟨rfl, rfl⟩, trivial⟩
theorem enC_fit {σ : List Nat} {e : Sm} {d d' : Nat} (h : σ[d]? = some d') : fitL σ (enC e d) (enC e d') :=
  ⟨⟨rfl, rfl⟩, ⟨rfl, rfl⟩, ⟨rfl, rfl⟩, ⟨rfl, rfl⟩, ⟨rfl, rfl⟩, ⟨rfl, rfl⟩, ⟨rfl, rfl⟩, ⟨rfl, rfl⟩, ckA_fit h, rfl, ⟨rfl, rfl⟩, ⟨rfl, rfl⟩, ⟨rfl, rfl⟩, trivial⟩
theorem dlV_fit (σ : List Nat) (e : Sm) : fitL σ (dlV e) (dlV e) := ⟨⟨rfl, rfl⟩, rfl, ⟨rfl, rfl⟩, trivial⟩
theorem ptA_fit {σ : List Nat} : ∀ {ts : List (Nat × Nat)} {k : Nat}, (∀ i, i < ts.length → σ[k + 2 * i]? = some (ts.getD i (0, 0)).1) → fitL σ (ptA (plc k ts.length)) (ptA ts)
  | [], _, _ => trivial
  | t :: ts, k, h => by
    refine ⟨⟨h 0 (by simp), rfl⟩, ptA_fit (ts := ts) (k := k + 2) fun i hi => ?_⟩
    have := h (i + 1) (by simpa using hi)
    rw [show k + 2 + 2 * i = k + 2 * (i + 1) by omega]
    exact this
theorem SVr_fit {σ : List Nat} {h : List Ch} : ∀ {ts : List (Nat × Nat)} {es : List Sm} {k : Nat}, ts.length = es.length → (∀ i, i < ts.length → σ[k + 2 * i]? = some (ts.getD i (0, 0)).1 ∧ σ[k + 2 * i + 1]? = some (ts.getD i (0, 0)).2) →
    (∀ i, i < es.length → hth h (ts.getD i (0, 0)).1 = .cells (enC (eAtS es i) (ts.getD i (0, 0)).2)) →
    (∀ i, i < es.length → (ts.getD i (0, 0)).2 < h.length ∧ ((eAtS es i).m.kind = 3 → hth h (ts.getD i (0, 0)).2 = .cells (dlV (eAtS es i)))) → fitHs σ h (SVr k es) (ilv ts)
  | [], [], _, _, _, _, _ => trivial
  | t :: ts, e :: es, k, hl, hs, h1, h2 => by
    have a1 : hth h t.1 = .cells (enC e t.2) := h1 0 (by simp)
    have a2 : t.2 < h.length ∧ (e.m.kind = 3 → hth h t.2 = .cells (dlV e)) := h2 0 (by simp)
    have a3 : σ[k]? = some t.1 ∧ σ[k + 1]? = some t.2 := hs 0 (by simp)
    refine ⟨hth_lt (by rw [a1]; simp), by rw [a1]; exact enC_fit a3.2, a2.1, ?_, SVr_fit (ts := ts) (es := es) (k := k + 2) (by simpa using hl) (fun i hi => ?_) (fun i hi => h1 (i + 1) (by simpa using hi)) fun i hi => h2 (i + 1) (by simpa using hi)⟩
    · unfold dlC
      split
      · rename_i c
        rw [a2.2 c]
        exact dlV_fit σ e
      · exact trivial
    · have := hs (i + 1) (by simpa using hi)
      rw [show k + 2 + 2 * i = k + 2 * (i + 1) by omega]
      exact this
  | [], _ :: _, _, h, _, _, _ => by simp at h
  | _ :: _, [], _, h, _, _, _ => by simp at h
theorem ilv_at : ∀ {ts : List (Nat × Nat)} {i : Nat}, i < ts.length → (ilv ts)[2 * i]? = some (ts.getD i (0, 0)).1 ∧ (ilv ts)[2 * i + 1]? = some (ts.getD i (0, 0)).2
  | [], _, h => by simp at h
  | t :: ts, 0, _ => ⟨rfl, rfl⟩
  | t :: ts, i + 1, h => by
    have := ilv_at (ts := ts) (i := i) (by simpa using h)
    rw [show 2 * (i + 1) = 2 * i + 1 + 1 by omega]
    exact this
theorem Srv.shut {h : List Ch} {u v : Nat} {ts : List (Nat × Nat)} {now : Int} {es : List Sm} (a : Srv h u v ts now es) : Shut h u (v :: ilv ts) (SV now es) := by
  have e : SV now es = .cells [.bool true, .int .i64 now, .csl 1 es.length 1] :: .crow (ptA (plc 2 es.length)) :: SVr 2 es := if_neg (by have := a.pos; omega)
  rw [e]
  have hs : ∀ i, i < ts.length → (u :: v :: ilv ts)[2 + 2 * i]? = some (ts.getD i (0, 0)).1 ∧ (u :: v :: ilv ts)[2 + 2 * i + 1]? = some (ts.getD i (0, 0)).2 := fun i hi => by
    have := ilv_at hi
    rw [show 2 + 2 * i = 2 * i + 1 + 1 by omega]
    exact this
  refine ⟨⟨_, _, rfl⟩, ⟨hth_lt (by rw [a.o]; simp), ?_, hth_lt (by rw [a.o1]; simp), ?_, SVr_fit a.len hs a.ent a.dl⟩, a.nd⟩
  · rw [a.o]
    exact ⟨rfl, ⟨rfl, rfl⟩, ⟨rfl, rfl, rfl⟩, trivial⟩
  · rw [a.o1]
    refine ⟨?_, ?_⟩
    · rw [ptA_len, ptA_len, plc_len, a.len]
    · rw [← a.len]
      exact ptA_fit fun i hi => (hs i hi).1
theorem Srv.app {h : List Ch} {u v : Nat} {ts : List (Nat × Nat)} {now : Int} {es : List Sm} (a : Srv h u v ts now es) (l : List Ch) : Srv (h ++ l) u v ts now es :=
  ⟨a.pos, by rw [hth_app (hth_lt (by rw [a.o]; simp)), a.o], by rw [hth_app (hth_lt (by rw [a.o1]; simp)), a.o1], a.len, fun i hi => by rw [hth_app (hth_lt (by rw [a.ent i hi]; simp)), a.ent i hi],
    fun i hi => ⟨by have := (a.dl i hi).1; rw [List.length_append]; omega, fun c => by rw [hth_app (a.dl i hi).1, (a.dl i hi).2 c]⟩, a.nd⟩
theorem end_srv {h : List Ch} {v : Nat} {ts : List (Nat × Nat)} {now : Int} {es : List Sm} {r r' : AV} (a : Srv h 0 v ts now es) (hr : fitA [0] r r') : ∃ v' h2, Gh [r'] h [v'] h2 ∧ EndF 1 r ([.pack (SV now es)] ++ []) v' h2 := by
  have hc : hth (closeH h 0 (v :: ilv ts) (SV now es)) 0 = .pack (SV now es) := by
    unfold closeH
    exact hth_set_eq (by rw [goneH_len]; exact hth_lt (by rw [a.o]; simp))
  refine ⟨_, _, gh_close a.shut, [0], rfl, ⟨hr, trivial⟩, ⟨hth_lt (by rw [hc]; simp), by rw [hc]; exact rfl, trivial⟩, by simp⟩
theorem ckA_ren (m : Mon) {d : Nat} (h : 0 < d) : renA (rhoO 0 1) (ckA m d) = ckA m d := by
  have e : rhoO 0 1 d = d := by
    cases d with
    | zero => omega
    | succ n => show 1 + n = n + 1; omega
  unfold ckA
  split
  · show AV.ifc _ (AV.ptr (rhoO 0 1 d) 0) = _
    rw [e]
  · split <;> rfl
theorem SVr_ren : ∀ {k : Nat} {es : List Sm}, 0 < k → renCs (rhoO 0 1) (SVr k es) = SVr k es
  | _, [], _ => rfl
  | k, e :: es, h => by
    show Ch.cells (renL (rhoO 0 1) (enC e (k + 1))) :: renC (rhoO 0 1) (dlC e) :: renCs (rhoO 0 1) (SVr (k + 2) es) = _
    rw [SVr_ren (by omega)]
    have e1 : renL (rhoO 0 1) (enC e (k + 1)) = enC e (k + 1) := by
      show [_, _, _, _, _, _, _, _, renA (rhoO 0 1) (ckA e.m (k + 1)), _, _, _, _] = _
      rw [ckA_ren _ (by omega)]; rfl
    have e2 : renC (rhoO 0 1) (dlC e) = dlC e := by
      unfold dlC
      split <;> rfl
    rw [e1, e2]; rfl
theorem ptA_ren : ∀ {k n : Nat}, 0 < k → renL (rhoO 0 1) (ptA (plc k n)) = ptA (plc k n)
  | _, 0, _ => rfl
  | k, n + 1, h => by
    have e : rhoO 0 1 k = k := by
      cases k with
      | zero => omega
      | succ n => show 1 + n = n + 1; omega
    show AV.ptr (rhoO 0 1 k) 0 :: renL (rhoO 0 1) (ptA (plc (k + 2) n)) = _
    rw [e, ptA_ren (by omega)]; rfl
theorem w_openS {P : Program} {k : Nat} {c : Code} {tm : List AV} {now : Int} {es : List Sm} {q : Post} (hp : 0 < es.length) (H : Wp P k c tm (SV now es) q) : Wp P k c tm [.pack (SV now es)] q := by
  have e : SV now es = .cells [.bool true, .int .i64 now, .csl 1 es.length 1] :: (.crow (ptA (plc 2 es.length)) :: SVr 2 es) := if_neg (by omega)
  refine w_open (h' := SV now es) (vs := [.bool true, .int .i64 now, .csl 1 es.length 1]) (rest := .crow (ptA (plc 2 es.length)) :: SVr 2 es) 0 (by rw [e]; rfl) ?_ H
  rw [e]
  show Ch.cells (renL (rhoO 0 1) [.bool true, .int .i64 now, .csl 1 es.length 1]) :: Ch.crow (renL (rhoO 0 1) (ptA (plc 2 es.length))) :: renCs (rhoO 0 1) (SVr 2 es) = _
  rw [SVr_ren (by omega), ptA_ren (by omega)]
  rfl
theorem plc_at : ∀ {k n i : Nat}, i < n → (plc k n).getD i (0, 0) = (k + 2 * i, k + 2 * i + 1)
  | _, 0, _, h => absurd h (by omega)
  | k, n + 1, 0, _ => rfl
  | k, n + 1, i + 1, h => by
    have := plc_at (k := k + 2) (n := n) (i := i) (by omega)
    rw [show k + 2 * (i + 1) = k + 2 + 2 * i by omega]
    exact this
theorem SVr_len : ∀ (k : Nat) (es : List Sm), (SVr k es).length = 2 * es.length
  | _, [] => rfl
  | k, e :: es => by rw [SVr, List.length_cons, List.length_cons, SVr_len, List.length_cons]; omega
theorem SV_len {now : Int} {es : List Sm} (hp : 0 < es.length) : (SV now es).length = 2 * es.length + 2 := by
  have e : SV now es = .cells [.bool true, .int .i64 now, .csl 1 es.length 1] :: .crow (ptA (plc 2 es.length)) :: SVr 2 es := if_neg (by omega)
  rw [e, List.length_cons, List.length_cons, SVr_len]
theorem SVr_at : ∀ {k : Nat} {es : List Sm} {i : Nat}, i < es.length → hth (SVr k es) (2 * i) = .cells (enC (eAtS es i) (k + 2 * i + 1)) ∧ hth (SVr k es) (2 * i + 1) = dlC (eAtS es i)
  | _, [], _, h => by simp at h
  | k, e :: es, 0, _ => ⟨rfl, rfl⟩
  | k, e :: es, i + 1, h => by
    have := SVr_at (k := k + 2) (es := es) (i := i) (by simpa using h)
    rw [show 2 * (i + 1) = 2 * i + 1 + 1 by omega, show k + (2 * i + 1 + 1) + 1 = k + 2 + 2 * i + 1 by omega]
    exact this
theorem ilv_plc : ∀ (k n : Nat), ilv (plc k n) = List.range' k (2 * n)
  | _, 0 => rfl
  | k, n + 1 => by
    rw [show 2 * (n + 1) = 2 * n + 1 + 1 by omega, List.range'_succ, List.range'_succ]
    show k :: (k + 1) :: ilv (plc (k + 2) n) = _
    rw [ilv_plc]
theorem srv_open {now : Int} {es : List Sm} (hp : 0 < es.length) : Srv (SV now es) 0 1 (plc 2 es.length) now es := by
  have hl := SV_len (now := now) hp
  have e : SV now es = .cells [.bool true, .int .i64 now, .csl 1 es.length 1] :: .crow (ptA (plc 2 es.length)) :: SVr 2 es := if_neg (by omega)
  refine ⟨hp, by rw [e]; rfl, by rw [e]; rfl, plc_len _ _, fun i hi => ?_, fun i hi => ?_, ?_⟩
  · rw [plc_at hi, e]
    show hth _ (2 + 2 * i) = _
    rw [show 2 + 2 * i = 2 * i + 1 + 1 by omega]
    have := (SVr_at (k := 2) hi).1
    rw [show 2 + 2 * i + 1 = 2 * i + 1 + 1 + 1 by omega] at this
    exact this
  · rw [plc_at hi]
    refine ⟨by show 2 + 2 * i + 1 < (SV now es).length; rw [hl]; omega, fun c => ?_⟩
    rw [e]
    show hth _ (2 + 2 * i + 1) = _
    rw [show 2 + 2 * i + 1 = 2 * i + 1 + 1 + 1 by omega]
    have := (SVr_at (k := 2) hi).2
    unfold dlC at this
    rw [if_pos c] at this
    exact this
  · rw [ilv_plc]
    refine List.nodup_cons.2 ⟨fun q => ?_, List.nodup_cons.2 ⟨fun q => ?_, List.nodup_range'⟩⟩
    · rcases List.mem_cons.1 q with q | q
      · omega
      · have := List.mem_range'_1.1 q; omega
    · have := List.mem_range'_1.1 q; omega
end Go.V

set_option maxRecDepth 100000
set_option maxHeartbeats 8000000
namespace Go.V
open Go.Proofs
/-- the result of a checker -/
def resE (m : Mon) (bg : Bool) (last v : Int) : Int := if m.kind = 3 then rsD m.high bg last v else if m.kind = 2 then (if v = m.low then 1 else 4) else rsL m.low m.high v
/-- one entry is checked: pv is the value of its parameter, if there is one -/
def chkS (now : Int) (pv : Int → Option Int) (e : Sm) : Sm × List Tra :=
  match pv e.m.param with
  | none => (e, [])
  | some v => if e.off = true then (e, []) else
    (⟨e.m, e.off, (fdR e.m.rep e.st e.res e.run (resE e.m e.bg e.last v)).2.1, (fdR e.m.rep e.st e.res e.run (resE e.m e.bg e.last v)).2.2.1, (fdR e.m.rep e.st e.res e.run (resE e.m e.bg e.last v)).2.2.2, true, v⟩,
      if (fdR e.m.rep e.st e.res e.run (resE e.m e.bg e.last v)).1 = true then [⟨now, e.m.id, e.st, (fdR e.m.rep e.st e.res e.run (resE e.m e.bg e.last v)).2.1, v⟩] else [])
def chkL (now : Int) (pv : Int → Option Int) (es : List Sm) : List Sm := es.map fun e => (chkS now pv e).1
def chkO (now : Int) (pv : Int → Option Int) (es : List Sm) : List Tra := es.flatMap fun e => (chkS now pv e).2
/-- an entry is enabled or disabled -/
def enaS (on : Bool) (e : Sm) : Sm := if on = false ∧ e.off = false then ⟨e.m, true, 0, 0, 0, false, 0⟩ else ⟨e.m, !on, e.st, e.res, e.run, e.bg, e.last⟩
def enaL (id : Int) (on : Bool) (es : List Sm) : List Sm := es.map fun e => if e.m.id = id then enaS on e else e
theorem fdR_form (rep st res run r : Int) : ∃ n, fdR rep st res run r = if n < rep ∨ st = r then (false, st, r, n) else (true, r, r, n) := ⟨_, rfl⟩
theorem fdR_true {rep st res run r : Int} (h : (fdR rep st res run r).1 = true) : (fdR rep st res run r).2.1 = r ∧ st ≠ r := by
  obtain ⟨n, hn⟩ := fdR_form rep st res run r
  rw [hn] at h ⊢
  by_cases c : n < rep ∨ st = r
  · rw [if_pos c] at h; cases h
  · rw [if_neg c]; exact ⟨rfl, fun q => c (.inr q)⟩
theorem fdR_false {rep st res run r : Int} (h : (fdR rep st res run r).1 = false) : (fdR rep st res run r).2.1 = st := by
  obtain ⟨n, hn⟩ := fdR_form rep st res run r
  rw [hn] at h ⊢
  by_cases c : n < rep ∨ st = r
  · rw [if_pos c]
  · rw [if_neg c] at h; cases h
/-- one entry gives no transition, or one from its state to another -/
theorem chkS_cases (now : Int) (pv : Int → Option Int) (e : Sm) : ((chkS now pv e).2 = [] ∧ (chkS now pv e).1.st = e.st) ∨
    (∃ v, (chkS now pv e).2 = [⟨now, e.m.id, e.st, (chkS now pv e).1.st, v⟩] ∧ (chkS now pv e).1.st ≠ e.st ∧ e.off = false) := by
  unfold chkS
  cases pv e.m.param with
  | none => exact .inl ⟨rfl, rfl⟩
  | some v =>
    dsimp only
    cases ho : e.off with
    | true => exact .inl ⟨rfl, rfl⟩
    | false =>
      rw [if_neg (by decide)]
      dsimp only
      cases hf : (fdR e.m.rep e.st e.res e.run (resE e.m e.bg e.last v)).1 with
      | true =>
        obtain ⟨h1, h2⟩ := fdR_true hf
        right
        refine ⟨v, by rw [if_pos rfl], ?_, rfl⟩
        rw [h1]; exact Ne.symm h2
      | false =>
        left
        exact ⟨by rw [if_neg (by decide)], fdR_false hf⟩
theorem chkS_m (now : Int) (pv : Int → Option Int) (e : Sm) : (chkS now pv e).1.m = e.m ∧ (chkS now pv e).1.off = e.off := by
  unfold chkS
  cases pv e.m.param with
  | none => exact ⟨rfl, rfl⟩
  | some v =>
    dsimp only
    split <;> exact ⟨rfl, rfl⟩
/-- what MonitorChains keeps: the states and the switches are those of the entries -/
structure Chn (l : List Mon) (es : List Sm) (st : List Int) (off : List Bool) : Prop where
  ms : es.map (·.m) = l
  off_ : off = es.map (·.off)
  st_ : st = es.map (·.st)
  z : ∀ e ∈ es, e.off = true → e.st = 0
theorem Chn.check {l : List Mon} {es : List Sm} {st : List Int} {off : List Bool} (h : Chn l es st off) (now : Int) (pv : Int → Option Int) : Chn l (chkL now pv es) ((chkL now pv es).map (·.st)) off := by
  refine ⟨?_, ?_, rfl, fun e he ho => ?_⟩
  · rw [← h.ms]
    unfold chkL
    rw [List.map_map]
    exact List.map_congr_left fun e _ => (chkS_m now pv e).1
  · rw [h.off_]
    unfold chkL
    rw [List.map_map]
    exact List.map_congr_left fun e _ => (chkS_m now pv e).2.symm
  · obtain ⟨x, hx, rfl⟩ := List.mem_map.1 he
    have h1 := chkS_m now pv x
    rw [h1.2] at ho
    rcases chkS_cases now pv x with ⟨-, q⟩ | ⟨v, -, -, q⟩
    · rw [q]; exact h.z x hx ho
    · rw [ho] at q; cases q
/-- the transitions of the entries from place i on, with their places -/
def trK (now : Int) (pv : Int → Option Int) (es : List Sm) (k : Nat) : List Tra := chkO now pv (es.take k)
theorem trK_next {now : Int} {pv : Int → Option Int} {es : List Sm} {k : Nat} (h : k < es.length) : trK now pv es (k + 1) = trK now pv es k ++ (chkS now pv (eAtS es k)).2 := by
  unfold trK chkO
  have e : es.take (k + 1) = es.take k ++ [eAtS es k] := by
    rw [List.take_succ_eq_append_getElem h]
    congr 2
    show _ = es.getD k Sm.zero
    rw [List.getD_eq_getElem?_getD, List.getElem?_eq_getElem h]; rfl
  rw [e, List.flatMap_append]
  simp
theorem trK_pre (now : Int) (pv : Int → Option Int) (es : List Sm) (k : Nat) : ∃ rest, chkO now pv es = trK now pv es k ++ rest := by
  refine ⟨chkO now pv (es.drop k), ?_⟩
  unfold trK chkO
  rw [← List.flatMap_append, List.take_append_drop]
/-- the states when the first k entries were met -/
def stM (now : Int) (pv : Int → Option Int) (es : List Sm) (k : Nat) : List Int := (chkL now pv (es.take k)).map (·.st) ++ (es.drop k).map (·.st)
theorem stM_all (now : Int) (pv : Int → Option Int) (es : List Sm) : stM now pv es es.length = (chkL now pv es).map (·.st) := by
  unfold stM
  rw [List.take_length, List.drop_length]; simp
theorem stM_at {now : Int} {pv : Int → Option Int} {es : List Sm} {k : Nat} (h : k < es.length) : (stM now pv es k).getD k 0 = (eAtS es k).st ∧ stM now pv es (k + 1) = (stM now pv es k).set k (chkS now pv (eAtS es k)).1.st := by
  have hl : ((chkL now pv (es.take k)).map (·.st)).length = k := by unfold chkL; rw [List.length_map, List.length_map, List.length_take]; omega
  have e0 : eAtS es k = es[k] := by show es.getD k Sm.zero = _; rw [List.getD_eq_getElem?_getD, List.getElem?_eq_getElem h]; rfl
  have e1 : es.drop k = eAtS es k :: es.drop (k + 1) := by rw [e0]; exact List.drop_eq_getElem_cons h
  have e2 : es.take (k + 1) = es.take k ++ [eAtS es k] := by rw [e0]; exact List.take_succ_eq_append_getElem h
  constructor
  · unfold stM
    rw [List.getD_eq_getElem?_getD, List.getElem?_append_right (by omega), hl, Nat.sub_self, e1]; rfl
  · unfold stM
    rw [List.set_append_right _ _ (by omega), hl, Nat.sub_self, e1, e2]
    unfold chkL
    rw [List.map_append, List.map_append, List.append_assoc]; rfl
theorem set_same {st : List Int} {k : Nat} {x : Int} (h : st.getD k 0 = x) (hk : k < st.length) : st.set k x = st := by
  rw [← h, List.getD_eq_getElem?_getD, List.getElem?_eq_getElem hk]
  exact List.set_getElem_self hk
theorem stM_len (now : Int) (pv : Int → Option Int) (es : List Sm) {k : Nat} (h : k ≤ es.length) : (stM now pv es k).length = es.length := by
  unfold stM chkL
  rw [List.length_append, List.length_map, List.length_map, List.length_map, List.length_take, List.length_drop]; omega
theorem tr_skip (now : Int) (pv : Int → Option Int) (es : List Sm) : ∀ (d k : Nat), es.length - k = d → k ≤ es.length → (trK now pv es k).length < (chkO now pv es).length →
    ∃ k', k ≤ k' ∧ k' < es.length ∧ trK now pv es k' = trK now pv es k ∧ stM now pv es k' = stM now pv es k ∧ (chkS now pv (eAtS es k')).2 ≠ []
  | 0, k, hd, hk, hj => by
    have : k = es.length := by omega
    subst this
    unfold trK at hj
    rw [List.take_length] at hj
    omega
  | d + 1, k, hd, hk, hj => by
    have hk2 : k < es.length := by omega
    by_cases c : (chkS now pv (eAtS es k)).2 = []
    · have e1 : trK now pv es (k + 1) = trK now pv es k := by rw [trK_next hk2, c, List.append_nil]
      have e2 : stM now pv es (k + 1) = stM now pv es k := by
        obtain ⟨a, b⟩ := stM_at (now := now) (pv := pv) hk2
        rcases chkS_cases now pv (eAtS es k) with ⟨-, q⟩ | ⟨v, q, -, -⟩
        · rw [b, q]
          exact set_same a (by rw [stM_len _ _ _ hk]; exact hk2)
        · rw [c] at q; cases q
      obtain ⟨k', h1, h2, h3, h4, h5⟩ := tr_skip now pv es d (k + 1) (by omega) (by omega) (by rw [e1]; exact hj)
      exact ⟨k', by omega, h2, by rw [h3, e1], by rw [h4, e2], h5⟩
    · exact ⟨k, Nat.le_refl _, hk2, rfl, rfl, c⟩
/-- the next transition -/
theorem tr_step {now : Int} {pv : Int → Option Int} {es : List Sm} {k j : Nat} (hk : k ≤ es.length) (hj : (trK now pv es k).length = j) (hj2 : j < (chkO now pv es).length) :
    ∃ k' v, k ≤ k' ∧ k' < es.length ∧ (chkO now pv es)[j]? = some ⟨now, (eAtS es k').m.id, (eAtS es k').st, (chkS now pv (eAtS es k')).1.st, v⟩ ∧ (stM now pv es k).getD k' 0 = (eAtS es k').st ∧ (chkS now pv (eAtS es k')).1.st ≠ (eAtS es k').st ∧ (eAtS es k').off = false ∧
      (trK now pv es (k' + 1)).length = j + 1 ∧ stM now pv es (k' + 1) = (stM now pv es k).set k' (chkS now pv (eAtS es k')).1.st := by
  obtain ⟨k', h1, h2, h3, h4, h5⟩ := tr_skip now pv es _ k rfl hk (by rw [hj]; exact hj2)
  rcases chkS_cases now pv (eAtS es k') with ⟨q, -⟩ | ⟨v, q1, q2, q3⟩
  · exact absurd q h5
  · obtain ⟨a, b⟩ := stM_at (now := now) (pv := pv) h2
    have hn := trK_next (now := now) (pv := pv) h2
    rw [q1, h3] at hn
    obtain ⟨rest, hr⟩ := trK_pre now pv es (k' + 1)
    refine ⟨k', v, h1, h2, ?_, by rw [← h4]; exact a, q2, q3, by rw [hn, List.length_append, hj]; rfl, by rw [← h4]; exact b⟩
    rw [hr, hn, List.append_assoc, List.getElem?_append_right (by omega), hj, Nat.sub_self]; rfl
end Go.V

set_option maxRecDepth 100000
set_option maxHeartbeats 8000000
namespace Go.V
open Go.Proofs
/-- an expected value that is right -/
structure isExp (m : Mon) : Prop where
  kind : m.kind = 2
  lo : inW m.low = true
  hi : m.high = 0
theorem b_newX2 (m : Mon) (hm : isExp m) : DoesK Try.prog 0 23 [.agg (monL m)] [] (EndF 0 (.ifc 105 (.agg [.int .i64 m.low])) []) := by
  refine DoesK.close ?_
  obtain ⟨h1, h2, h3⟩ := hm
  have d1 : decide (m.kind = 1) = false := decide_eq_false (by omega)
  have d2 : decide (m.kind = 2) = true := decide_eq_true h1
  have d4 : decide (m.high = 0) = true := decide_eq_true h3
  refine w_body (rs := [.tmp 2]) (tm := [.agg (monL m), .any, .any, .any, .any, .any, .any, .any, .any, .any, .any, .any, .any, .any, .any, .any, .any, .any, .any, .any, .any, .any, .any, .any, .any, .any, .any, .any, .any, .any, .any, .any, .any, .any, .any, .any, .any, .any, .any, .any, .any, .any, .any, .any, .any, .any, .any, .any, .any, .any, .any, .any, .any, .any, .any, .any, .any, .any, .any, .any, .any, .any, .any, .any, .any, .any, .any, .any, .any, .any, .any, .any, .any, .any, .any, .any]) fn_23 rfl rfl rfl rfl fun R hR => ?_
  (have zx1 := @d1; have zx2 := @d2; have zx3 := @d4; have zx4 := @h2; all_goals (try ((first | (with_reducible refine wp_id ?_) | (with_reducible refine does_id ?_) | (with_reducible refine ops_id ?_)); refine walk ?_; (repeat' (first | exact trivial | with_reducible refine And.intro ?_ ?_)); all_goals (repeat (first | (with_reducible refine ImpB.mk fun hb => ?_) | (with_reducible refine ImpK.mk fun hK => ?_) | (with_reducible refine ImpF.mk fun hF => ?_) | (with_reducible refine ImpQ.mk fun hp => ?_) | (with_reducible refine AllE.mk fun p => ?_) | (with_reducible refine AllR.mk fun rest => ?_) | (with_reducible refine AllK.mk fun K => ?_))))); repeat' (with_reducible refine And.intro ?_ ?_))
  (focus (refine ⟨_, _, Gh.refl, [], rfl, ?_⟩; (refine fitq ?_ ?_ ?_ <;> try exact trivial); (try any_goals (refine ⟨?_, ?_⟩)); (try any_goals (with_reducible rfl))))
  all_goals (repeat' (first | (refine And.intro ?_ ?_) | rfl))
theorem c_newX2 {h : List Ch} {K : KT} {a b c lo hi d e f : Int} (H : K (.ifc 105 (.agg [.int .i64 lo])) h) (e1 : isExp ⟨a, b, c, lo, hi, d, e, f⟩) : Does Try.prog 23 [.agg [.int .i64 a, .int .i64 b, .int .i64 c, .int .i64 lo, .int .i64 hi, .int .i64 d, .int .i64 e, .int .i64 f]] h K :=
  frame_pure (b_newX2 ⟨a, b, c, lo, hi, d, e, f⟩ e1) (br_cons (br_agg (br_cons br_int (br_cons br_int (br_cons br_int (br_cons br_int (br_cons br_int (br_cons br_int (br_cons br_int (br_cons br_int br_nil))))))))) br_nil) (.inr rfl) (fun _ => rfl) H
abbrev i_newX2 := Ctr.mk (i := 2) (g := 23) @c_newX2
attribute [instance] i_newX2
/-- a monitor without a checker -/
structure isBad (m : Mon) : Prop where
  l : ¬ isLim m
  e : ¬ isExp m
  d : ¬ isDel m
theorem b_newB (m : Mon) (hm : isBad m) : DoesK Try.prog 0 23 [.agg (monL m)] [] (EndF 0 (.lit .nilIface) []) := by
  refine DoesK.close ?_
  obtain ⟨g1, g2, g3⟩ := hm
  by_cases k1 : m.kind = 1
  · have d1 : decide (m.kind = 1) = true := decide_eq_true k1
    have d2 : decide (m.kind = 2) = false := decide_eq_false (by omega)
    have d3 : decide (m.kind = 3) = false := decide_eq_false (by omega)
    cases h1 : inW m.low with
    | false =>
      refine w_body (rs := [.tmp 2]) (tm := [.agg (monL m), .any, .any, .any, .any, .any, .any, .any, .any, .any, .any, .any, .any, .any, .any, .any, .any, .any, .any, .any, .any, .any, .any, .any, .any, .any, .any, .any, .any, .any, .any, .any, .any, .any, .any, .any, .any, .any, .any, .any, .any, .any, .any, .any, .any, .any, .any, .any, .any, .any, .any, .any, .any, .any, .any, .any, .any, .any, .any, .any, .any, .any, .any, .any, .any, .any, .any, .any, .any, .any, .any, .any, .any, .any, .any, .any]) fn_23 rfl rfl rfl rfl fun R hR => ?_
      (have zx1 := @d1; have zx2 := @d2; have zx3 := @d3; have zx4 := @h1; all_goals (try ((first | (with_reducible refine wp_id ?_) | (with_reducible refine does_id ?_) | (with_reducible refine ops_id ?_)); refine walk ?_; (repeat' (first | exact trivial | with_reducible refine And.intro ?_ ?_)); all_goals (repeat (first | (with_reducible refine ImpB.mk fun hb => ?_) | (with_reducible refine ImpK.mk fun hK => ?_) | (with_reducible refine ImpF.mk fun hF => ?_) | (with_reducible refine ImpQ.mk fun hp => ?_) | (with_reducible refine AllE.mk fun p => ?_) | (with_reducible refine AllR.mk fun rest => ?_) | (with_reducible refine AllK.mk fun K => ?_))))); repeat' (with_reducible refine And.intro ?_ ?_))
      (focus (refine ⟨_, _, Gh.refl, [], rfl, ?_⟩; (refine fitq ?_ ?_ ?_ <;> try exact trivial); (try any_goals (refine ⟨?_, ?_⟩)); (try any_goals (with_reducible rfl))))
      all_goals (repeat' (first | (refine And.intro ?_ ?_) | rfl))
    | true =>
      cases h2 : inW m.high with
      | false =>
        refine w_body (rs := [.tmp 2]) (tm := [.agg (monL m), .any, .any, .any, .any, .any, .any, .any, .any, .any, .any, .any, .any, .any, .any, .any, .any, .any, .any, .any, .any, .any, .any, .any, .any, .any, .any, .any, .any, .any, .any, .any, .any, .any, .any, .any, .any, .any, .any, .any, .any, .any, .any, .any, .any, .any, .any, .any, .any, .any, .any, .any, .any, .any, .any, .any, .any, .any, .any, .any, .any, .any, .any, .any, .any, .any, .any, .any, .any, .any, .any, .any, .any, .any, .any, .any]) fn_23 rfl rfl rfl rfl fun R hR => ?_
        (have zx1 := @d1; have zx2 := @d2; have zx3 := @d3; have zx4 := @h1; have zx5 := @h2; all_goals (try ((first | (with_reducible refine wp_id ?_) | (with_reducible refine does_id ?_) | (with_reducible refine ops_id ?_)); refine walk ?_; (repeat' (first | exact trivial | with_reducible refine And.intro ?_ ?_)); all_goals (repeat (first | (with_reducible refine ImpB.mk fun hb => ?_) | (with_reducible refine ImpK.mk fun hK => ?_) | (with_reducible refine ImpF.mk fun hF => ?_) | (with_reducible refine ImpQ.mk fun hp => ?_) | (with_reducible refine AllE.mk fun p => ?_) | (with_reducible refine AllR.mk fun rest => ?_) | (with_reducible refine AllK.mk fun K => ?_))))); repeat' (with_reducible refine And.intro ?_ ?_))
        (focus (refine ⟨_, _, Gh.refl, [], rfl, ?_⟩; (refine fitq ?_ ?_ ?_ <;> try exact trivial); (try any_goals (refine ⟨?_, ?_⟩)); (try any_goals (with_reducible rfl))))
        all_goals (repeat' (first | (refine And.intro ?_ ?_) | rfl))
      | true =>
        have d4 : decide (m.low ≤ m.high) = false := decide_eq_false fun q => g1 ⟨k1, h1, h2, q⟩
        refine w_body (rs := [.tmp 2]) (tm := [.agg (monL m), .any, .any, .any, .any, .any, .any, .any, .any, .any, .any, .any, .any, .any, .any, .any, .any, .any, .any, .any, .any, .any, .any, .any, .any, .any, .any, .any, .any, .any, .any, .any, .any, .any, .any, .any, .any, .any, .any, .any, .any, .any, .any, .any, .any, .any, .any, .any, .any, .any, .any, .any, .any, .any, .any, .any, .any, .any, .any, .any, .any, .any, .any, .any, .any, .any, .any, .any, .any, .any, .any, .any, .any, .any, .any, .any]) fn_23 rfl rfl rfl rfl fun R hR => ?_
        (have zx1 := @d1; have zx2 := @d2; have zx3 := @d3; have zx4 := @h1; have zx5 := @h2; have zx6 := @d4; all_goals (try ((first | (with_reducible refine wp_id ?_) | (with_reducible refine does_id ?_) | (with_reducible refine ops_id ?_)); refine walk ?_; (repeat' (first | exact trivial | with_reducible refine And.intro ?_ ?_)); all_goals (repeat (first | (with_reducible refine ImpB.mk fun hb => ?_) | (with_reducible refine ImpK.mk fun hK => ?_) | (with_reducible refine ImpF.mk fun hF => ?_) | (with_reducible refine ImpQ.mk fun hp => ?_) | (with_reducible refine AllE.mk fun p => ?_) | (with_reducible refine AllR.mk fun rest => ?_) | (with_reducible refine AllK.mk fun K => ?_))))); repeat' (with_reducible refine And.intro ?_ ?_))
        (focus (refine ⟨_, _, Gh.refl, [], rfl, ?_⟩; (refine fitq ?_ ?_ ?_ <;> try exact trivial); (try any_goals (refine ⟨?_, ?_⟩)); (try any_goals (with_reducible rfl))))
        all_goals (repeat' (first | (refine And.intro ?_ ?_) | rfl))
  have d1 : decide (m.kind = 1) = false := decide_eq_false k1
  by_cases k2 : m.kind = 2
  · have d2 : decide (m.kind = 2) = true := decide_eq_true k2
    have d3 : decide (m.kind = 3) = false := decide_eq_false (by omega)
    cases h1 : inW m.low with
    | false =>
      refine w_body (rs := [.tmp 2]) (tm := [.agg (monL m), .any, .any, .any, .any, .any, .any, .any, .any, .any, .any, .any, .any, .any, .any, .any, .any, .any, .any, .any, .any, .any, .any, .any, .any, .any, .any, .any, .any, .any, .any, .any, .any, .any, .any, .any, .any, .any, .any, .any, .any, .any, .any, .any, .any, .any, .any, .any, .any, .any, .any, .any, .any, .any, .any, .any, .any, .any, .any, .any, .any, .any, .any, .any, .any, .any, .any, .any, .any, .any, .any, .any, .any, .any, .any, .any]) fn_23 rfl rfl rfl rfl fun R hR => ?_
      (have zx1 := @d1; have zx2 := @d2; have zx3 := @d3; have zx4 := @h1; all_goals (try ((first | (with_reducible refine wp_id ?_) | (with_reducible refine does_id ?_) | (with_reducible refine ops_id ?_)); refine walk ?_; (repeat' (first | exact trivial | with_reducible refine And.intro ?_ ?_)); all_goals (repeat (first | (with_reducible refine ImpB.mk fun hb => ?_) | (with_reducible refine ImpK.mk fun hK => ?_) | (with_reducible refine ImpF.mk fun hF => ?_) | (with_reducible refine ImpQ.mk fun hp => ?_) | (with_reducible refine AllE.mk fun p => ?_) | (with_reducible refine AllR.mk fun rest => ?_) | (with_reducible refine AllK.mk fun K => ?_))))); repeat' (with_reducible refine And.intro ?_ ?_))
      (focus (refine ⟨_, _, Gh.refl, [], rfl, ?_⟩; (refine fitq ?_ ?_ ?_ <;> try exact trivial); (try any_goals (refine ⟨?_, ?_⟩)); (try any_goals (with_reducible rfl))))
      all_goals (repeat' (first | (refine And.intro ?_ ?_) | rfl))
    | true =>
      have d4 : decide (m.high = 0) = false := decide_eq_false fun q => g2 ⟨k2, h1, q⟩
      refine w_body (rs := [.tmp 2]) (tm := [.agg (monL m), .any, .any, .any, .any, .any, .any, .any, .any, .any, .any, .any, .any, .any, .any, .any, .any, .any, .any, .any, .any, .any, .any, .any, .any, .any, .any, .any, .any, .any, .any, .any, .any, .any, .any, .any, .any, .any, .any, .any, .any, .any, .any, .any, .any, .any, .any, .any, .any, .any, .any, .any, .any, .any, .any, .any, .any, .any, .any, .any, .any, .any, .any, .any, .any, .any, .any, .any, .any, .any, .any, .any, .any, .any, .any, .any]) fn_23 rfl rfl rfl rfl fun R hR => ?_
      (have zx1 := @d1; have zx2 := @d2; have zx3 := @d3; have zx4 := @h1; have zx5 := @d4; all_goals (try ((first | (with_reducible refine wp_id ?_) | (with_reducible refine does_id ?_) | (with_reducible refine ops_id ?_)); refine walk ?_; (repeat' (first | exact trivial | with_reducible refine And.intro ?_ ?_)); all_goals (repeat (first | (with_reducible refine ImpB.mk fun hb => ?_) | (with_reducible refine ImpK.mk fun hK => ?_) | (with_reducible refine ImpF.mk fun hF => ?_) | (with_reducible refine ImpQ.mk fun hp => ?_) | (with_reducible refine AllE.mk fun p => ?_) | (with_reducible refine AllR.mk fun rest => ?_) | (with_reducible refine AllK.mk fun K => ?_))))); repeat' (with_reducible refine And.intro ?_ ?_))
      (focus (refine ⟨_, _, Gh.refl, [], rfl, ?_⟩; (refine fitq ?_ ?_ ?_ <;> try exact trivial); (try any_goals (refine ⟨?_, ?_⟩)); (try any_goals (with_reducible rfl))))
      all_goals (repeat' (first | (refine And.intro ?_ ?_) | rfl))
  have d2 : decide (m.kind = 2) = false := decide_eq_false k2
  by_cases k3 : m.kind = 3
  · have d3 : decide (m.kind = 3) = true := decide_eq_true k3
    by_cases c1 : m.low = 0
    · have e1 : decide (m.low = 0) = true := decide_eq_true c1
      by_cases c2 : 0 ≤ m.high
      · have e2 : decide (0 ≤ m.high) = true := decide_eq_true c2
        have e3 : decide (m.high ≤ 4294967296) = false := decide_eq_false fun q => g3 ⟨k3, c1, c2, q⟩
        refine w_body (rs := [.tmp 2]) (tm := [.agg (monL m), .any, .any, .any, .any, .any, .any, .any, .any, .any, .any, .any, .any, .any, .any, .any, .any, .any, .any, .any, .any, .any, .any, .any, .any, .any, .any, .any, .any, .any, .any, .any, .any, .any, .any, .any, .any, .any, .any, .any, .any, .any, .any, .any, .any, .any, .any, .any, .any, .any, .any, .any, .any, .any, .any, .any, .any, .any, .any, .any, .any, .any, .any, .any, .any, .any, .any, .any, .any, .any, .any, .any, .any, .any, .any, .any]) fn_23 rfl rfl rfl rfl fun R hR => ?_
        (have zx1 := @d1; have zx2 := @d2; have zx3 := @d3; have zx4 := @e1; have zx5 := @e2; have zx6 := @e3; all_goals (try ((first | (with_reducible refine wp_id ?_) | (with_reducible refine does_id ?_) | (with_reducible refine ops_id ?_)); refine walk ?_; (repeat' (first | exact trivial | with_reducible refine And.intro ?_ ?_)); all_goals (repeat (first | (with_reducible refine ImpB.mk fun hb => ?_) | (with_reducible refine ImpK.mk fun hK => ?_) | (with_reducible refine ImpF.mk fun hF => ?_) | (with_reducible refine ImpQ.mk fun hp => ?_) | (with_reducible refine AllE.mk fun p => ?_) | (with_reducible refine AllR.mk fun rest => ?_) | (with_reducible refine AllK.mk fun K => ?_))))); repeat' (with_reducible refine And.intro ?_ ?_))
        (focus (refine ⟨_, _, Gh.refl, [], rfl, ?_⟩; (refine fitq ?_ ?_ ?_ <;> try exact trivial); (try any_goals (refine ⟨?_, ?_⟩)); (try any_goals (with_reducible rfl))))
        all_goals (repeat' (first | (refine And.intro ?_ ?_) | rfl))
      · have e2 : decide (0 ≤ m.high) = false := decide_eq_false c2
        refine w_body (rs := [.tmp 2]) (tm := [.agg (monL m), .any, .any, .any, .any, .any, .any, .any, .any, .any, .any, .any, .any, .any, .any, .any, .any, .any, .any, .any, .any, .any, .any, .any, .any, .any, .any, .any, .any, .any, .any, .any, .any, .any, .any, .any, .any, .any, .any, .any, .any, .any, .any, .any, .any, .any, .any, .any, .any, .any, .any, .any, .any, .any, .any, .any, .any, .any, .any, .any, .any, .any, .any, .any, .any, .any, .any, .any, .any, .any, .any, .any, .any, .any, .any, .any]) fn_23 rfl rfl rfl rfl fun R hR => ?_
        (have zx1 := @d1; have zx2 := @d2; have zx3 := @d3; have zx4 := @e1; have zx5 := @e2; all_goals (try ((first | (with_reducible refine wp_id ?_) | (with_reducible refine does_id ?_) | (with_reducible refine ops_id ?_)); refine walk ?_; (repeat' (first | exact trivial | with_reducible refine And.intro ?_ ?_)); all_goals (repeat (first | (with_reducible refine ImpB.mk fun hb => ?_) | (with_reducible refine ImpK.mk fun hK => ?_) | (with_reducible refine ImpF.mk fun hF => ?_) | (with_reducible refine ImpQ.mk fun hp => ?_) | (with_reducible refine AllE.mk fun p => ?_) | (with_reducible refine AllR.mk fun rest => ?_) | (with_reducible refine AllK.mk fun K => ?_))))); repeat' (with_reducible refine And.intro ?_ ?_))
        (focus (refine ⟨_, _, Gh.refl, [], rfl, ?_⟩; (refine fitq ?_ ?_ ?_ <;> try exact trivial); (try any_goals (refine ⟨?_, ?_⟩)); (try any_goals (with_reducible rfl))))
        all_goals (repeat' (first | (refine And.intro ?_ ?_) | rfl))
    · have e1 : decide (m.low = 0) = false := decide_eq_false c1
      refine w_body (rs := [.tmp 2]) (tm := [.agg (monL m), .any, .any, .any, .any, .any, .any, .any, .any, .any, .any, .any, .any, .any, .any, .any, .any, .any, .any, .any, .any, .any, .any, .any, .any, .any, .any, .any, .any, .any, .any, .any, .any, .any, .any, .any, .any, .any, .any, .any, .any, .any, .any, .any, .any, .any, .any, .any, .any, .any, .any, .any, .any, .any, .any, .any, .any, .any, .any, .any, .any, .any, .any, .any, .any, .any, .any, .any, .any, .any, .any, .any, .any, .any, .any, .any]) fn_23 rfl rfl rfl rfl fun R hR => ?_
      (have zx1 := @d1; have zx2 := @d2; have zx3 := @d3; have zx4 := @e1; all_goals (try ((first | (with_reducible refine wp_id ?_) | (with_reducible refine does_id ?_) | (with_reducible refine ops_id ?_)); refine walk ?_; (repeat' (first | exact trivial | with_reducible refine And.intro ?_ ?_)); all_goals (repeat (first | (with_reducible refine ImpB.mk fun hb => ?_) | (with_reducible refine ImpK.mk fun hK => ?_) | (with_reducible refine ImpF.mk fun hF => ?_) | (with_reducible refine ImpQ.mk fun hp => ?_) | (with_reducible refine AllE.mk fun p => ?_) | (with_reducible refine AllR.mk fun rest => ?_) | (with_reducible refine AllK.mk fun K => ?_))))); repeat' (with_reducible refine And.intro ?_ ?_))
      (focus (refine ⟨_, _, Gh.refl, [], rfl, ?_⟩; (refine fitq ?_ ?_ ?_ <;> try exact trivial); (try any_goals (refine ⟨?_, ?_⟩)); (try any_goals (with_reducible rfl))))
      all_goals (repeat' (first | (refine And.intro ?_ ?_) | rfl))
  · have d3 : decide (m.kind = 3) = false := decide_eq_false k3
    refine w_body (rs := [.tmp 2]) (tm := [.agg (monL m), .any, .any, .any, .any, .any, .any, .any, .any, .any, .any, .any, .any, .any, .any, .any, .any, .any, .any, .any, .any, .any, .any, .any, .any, .any, .any, .any, .any, .any, .any, .any, .any, .any, .any, .any, .any, .any, .any, .any, .any, .any, .any, .any, .any, .any, .any, .any, .any, .any, .any, .any, .any, .any, .any, .any, .any, .any, .any, .any, .any, .any, .any, .any, .any, .any, .any, .any, .any, .any, .any, .any, .any, .any, .any, .any]) fn_23 rfl rfl rfl rfl fun R hR => ?_
    (have zx1 := @d1; have zx2 := @d2; have zx3 := @d3; all_goals (try ((first | (with_reducible refine wp_id ?_) | (with_reducible refine does_id ?_) | (with_reducible refine ops_id ?_)); refine walk ?_; (repeat' (first | exact trivial | with_reducible refine And.intro ?_ ?_)); all_goals (repeat (first | (with_reducible refine ImpB.mk fun hb => ?_) | (with_reducible refine ImpK.mk fun hK => ?_) | (with_reducible refine ImpF.mk fun hF => ?_) | (with_reducible refine ImpQ.mk fun hp => ?_) | (with_reducible refine AllE.mk fun p => ?_) | (with_reducible refine AllR.mk fun rest => ?_) | (with_reducible refine AllK.mk fun K => ?_))))); repeat' (with_reducible refine And.intro ?_ ?_))
    (focus (refine ⟨_, _, Gh.refl, [], rfl, ?_⟩; (refine fitq ?_ ?_ ?_ <;> try exact trivial); (try any_goals (refine ⟨?_, ?_⟩)); (try any_goals (with_reducible rfl))))
    all_goals (repeat' (first | (refine And.intro ?_ ?_) | rfl))
theorem c_newB {h : List Ch} {K : KT} {a b c lo hi d e f : Int} (H : K (.lit .nilIface) h) (e1 : isBad ⟨a, b, c, lo, hi, d, e, f⟩) : Does Try.prog 23 [.agg [.int .i64 a, .int .i64 b, .int .i64 c, .int .i64 lo, .int .i64 hi, .int .i64 d, .int .i64 e, .int .i64 f]] h K :=
  frame_pure (b_newB ⟨a, b, c, lo, hi, d, e, f⟩ e1) (br_cons (br_agg (br_cons br_int (br_cons br_int (br_cons br_int (br_cons br_int (br_cons br_int (br_cons br_int (br_cons br_int (br_cons br_int br_nil))))))))) br_nil) (.inr rfl) (fun _ => rfl) H
abbrev i_newB := Ctr.mk (i := 3) (g := 23) @c_newB
attribute [instance] i_newB
theorem at_srv {h : List Ch} {v : Nat} {ts : List (Nat × Nat)} {now : Int} {es : List Sm} {gt tm : List AV} (a : Srv h 0 v ts now es) (ht : fitL (0 :: v :: ilv ts) gt tm) : At 0 gt (SV now es) tm h :=
  ⟨_, _, Gh.refl, 0 :: v :: ilv ts, rfl, ht, a.shut.2.1, a.shut.2.2⟩
end Go.V
