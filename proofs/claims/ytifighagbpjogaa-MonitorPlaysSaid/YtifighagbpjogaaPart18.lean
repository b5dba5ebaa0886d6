/-
  monitor: a service that lies open beside another object.
  monitor: find with a pointer or nil, Enable in a service of any size.
  params: the pool of the laws with any values: Get and Set at any number.
-/
import Derived.Test.YtifighagbpjogaaPart17
set_option linter.unusedVariables false
set_option linter.unusedSimpArgs false
set_option maxRecDepth 100000
set_option maxHeartbeats 8000000
namespace Go.V
open Go.Proofs
attribute [-go_sem] SL PL
/-- the walk goes on in a drawn region -/
theorem dw_id {P : Program} {all r : List Oper} {Fin : List AV → List Ch → Prop} {i : Nat} {tm : List AV} {h : List Ch} {ps : List Rec} {hs : List (Nat × List Ch)} (H : DW P all Fin r i tm h ps hs) : DW P all Fin r i tm h ps hs := H
/-- a chunk without slices of its own -/
def nsC (c : Ch) : Prop := ∀ (t : Nat) (e : Ety) (xs : List e.T), frC t e xs c = c ∧ ∀ m, frObC t e m c
/-- a memory that fits itself and in which no slice of its own lies -/
structure Okm (h : List Ch) : Prop where
  self : SelfFit h
  ns : ∀ i, i < h.length → nsC (hth h i)
theorem hth_get0 {h : List Ch} {i : Nat} (hi : i < h.length) : hth h i = h[i] := by
  have := hth_some hi
  rw [List.getElem?_eq_getElem hi] at this
  exact (Option.some.inj this).symm
theorem Okm.fr {h : List Ch} (a : Okm h) (t : Nat) (e : Ety) (xs : List e.T) : frHs t e xs h = h ∧ frObH t e xs.length h := by
  have key : ∀ l : List Ch, (∀ c ∈ l, nsC c) → frHs t e xs l = l ∧ frObH t e xs.length l := by
    intro l
    induction l with
    | nil => exact fun _ => ⟨rfl, trivial⟩
    | cons c l ih =>
      intro hc
      obtain ⟨i1, i2⟩ := ih fun x hx => hc x (List.mem_cons_of_mem _ hx)
      obtain ⟨c1, c2⟩ := hc c (by simp) t e xs
      exact ⟨by show frC t e xs c :: frHs t e xs l = _; rw [c1, i1], c2 _, i2⟩
  refine key h fun c hc => ?_
  obtain ⟨i, hi, rfl⟩ := List.mem_iff_getElem.1 hc
  rw [← hth_get0 hi]
  exact a.ns i hi
theorem Okm.set {h : List Ch} (a : Okm h) {t : Nat} {c : Ch} (hf : ∀ σ : List Nat, (∀ i, i < h.length → σ[i]? = some i) → fitC σ c c) (hn : nsC c) : Okm (h.set t c) := by
  refine ⟨fun σ hσ i hi => ?_, fun i hi => ?_⟩
  · rw [List.length_set] at hi hσ
    by_cases e : t = i
    · subst e; rw [hth_set_eq hi]; exact hf σ hσ
    · rw [hth_set_ne e]; exact a.self σ hσ i hi
  · rw [List.length_set] at hi
    by_cases e : t = i
    · subst e; rw [hth_set_eq hi]; exact hn
    · rw [hth_set_ne e]; exact a.ns i hi
theorem Okm.app {h l : List Ch} (a : Okm h) (hf : ∀ c ∈ l, ∀ σ : List Nat, (∀ i, i < h.length + l.length → σ[i]? = some i) → fitC σ c c) (hn : ∀ c ∈ l, nsC c) : Okm (h ++ l) := by
  refine ⟨fun σ hσ i hi => ?_, fun i hi => ?_⟩
  · rw [List.length_append] at hi hσ
    by_cases c : i < h.length
    · rw [hth_app c]; exact a.self σ (fun j hj => hσ j (by omega)) i c
    · obtain ⟨j, rfl⟩ : ∃ j, i = h.length + j := ⟨i - h.length, by omega⟩
      rw [hth_app_r]
      have hj : j < l.length := by omega
      rw [hth_get0 hj]
      exact hf _ (List.getElem_mem hj) σ hσ
  · rw [List.length_append] at hi
    by_cases c : i < h.length
    · rw [hth_app c]; exact a.ns i c
    · obtain ⟨j, rfl⟩ : ∃ j, i = h.length + j := ⟨i - h.length, by omega⟩
      rw [hth_app_r]
      have hj : j < l.length := by omega
      rw [hth_get0 hj]
      exact hn _ (List.getElem_mem hj)
theorem ns_enC (e : Sm) (d : Nat) : nsC (.cells (enC e d)) := fun t y xs => by
  refine ⟨?_, fun m => ?_⟩
  · show Ch.cells (frL t y xs (enC e d)) = _
    have : frA t y xs (ckA e.m d) = ckA e.m d := by unfold ckA; split <;> (try split) <;> rfl
    show Ch.cells [_, _, _, _, _, _, _, _, frA t y xs (ckA e.m d), _, _, _, _] = _
    rw [this]; rfl
  · have : frOb t y m (ckA e.m d) := by unfold ckA; split <;> (try split) <;> trivial
    exact ⟨trivial, trivial, trivial, trivial, trivial, trivial, trivial, trivial, this, trivial, trivial, trivial, trivial, trivial⟩
theorem ns_dlV (e : Sm) : nsC (.cells (dlV e)) := fun _ _ _ => ⟨rfl, fun _ => ⟨trivial, trivial, trivial, trivial⟩⟩
theorem ns_dlC (e : Sm) : nsC (dlC e) := by
  unfold dlC
  split
  · exact ns_dlV e
  · exact fun _ _ _ => ⟨rfl, fun _ => trivial⟩
theorem ns_main (now : Int) (v n : Nat) : nsC (.cells [.bool true, .int .i64 now, .csl v n 1]) := fun _ _ _ => ⟨rfl, fun _ => ⟨trivial, trivial, trivial, trivial⟩⟩
theorem ns_ptA : ∀ ts : List (Nat × Nat), nsC (.crow (ptA ts)) := fun ts t e xs => by
  induction ts with
  | nil => exact ⟨rfl, fun _ => trivial⟩
  | cons a ts ih =>
    refine ⟨?_, fun m => ⟨trivial, ih.2 m⟩⟩
    have h1 : frL t e xs (ptA ts) = ptA ts := Ch.crow.inj ih.1
    show Ch.crow (.ptr a.1 0 :: frL t e xs (ptA ts)) = Ch.crow (.ptr a.1 0 :: ptA ts)
    rw [h1]
theorem ns_pack (l : List Ch) : nsC (.pack l) := fun _ _ _ => ⟨rfl, fun _ => trivial⟩
theorem ns_gone : nsC .gone := fun _ _ _ => ⟨rfl, fun _ => trivial⟩
theorem dlC_fit (σ : List Nat) (e : Sm) : fitC σ (dlC e) (dlC e) := by
  unfold dlC
  split
  · exact dlV_fit σ e
  · exact trivial
theorem ptA_fit2 {σ : List Nat} : ∀ {ts : List (Nat × Nat)}, (∀ i, i < ts.length → σ[(ts.getD i (0, 0)).1]? = some (ts.getD i (0, 0)).1) → fitL σ (ptA ts) (ptA ts)
  | [], _ => trivial
  | t :: ts, h => ⟨⟨h 0 (by simp), rfl⟩, ptA_fit2 (ts := ts) fun i hi => h (i + 1) (by simpa using hi)⟩
/-- a service open with its row behind some other chunks -/
def SVo (now : Int) (es : List Sm) (mid : List Ch) : List Ch := .cells [.bool true, .int .i64 now, .csl (mid.length + 1) es.length 1] :: (mid ++ (.crow (ptA (plc (mid.length + 2) es.length)) :: SVr (mid.length + 2) es))
theorem SVo_len (now : Int) (es : List Sm) (mid : List Ch) : (SVo now es mid).length = mid.length + 2 + 2 * es.length := by
  unfold SVo
  rw [List.length_cons, List.length_append, List.length_cons, SVr_len]; omega
theorem SVo_mid {now : Int} {es : List Sm} {mid : List Ch} {i : Nat} (hi : i < mid.length) : hth (SVo now es mid) (i + 1) = hth mid i := by
  unfold SVo
  show hth (mid ++ _) i = _
  exact hth_app hi
theorem SVo_row {now : Int} {es : List Sm} {mid : List Ch} : hth (SVo now es mid) (mid.length + 1) = .crow (ptA (plc (mid.length + 2) es.length)) := by
  unfold SVo
  show hth (mid ++ _) mid.length = _
  exact hth_app_r (j := 0)
theorem SVo_ent {now : Int} {es : List Sm} {mid : List Ch} {j : Nat} : hth (SVo now es mid) (mid.length + 2 + j) = hth (SVr (mid.length + 2) es) j := by
  unfold SVo
  rw [show mid.length + 2 + j = (mid.length + (j + 1)) + 1 by omega]
  show hth (mid ++ _) (mid.length + (j + 1)) = _
  exact hth_app_r (j := j + 1)
theorem SVo_srv {now : Int} {es : List Sm} {mid : List Ch} (hp : 0 < es.length) : Srv (SVo now es mid) 0 (mid.length + 1) (plc (mid.length + 2) es.length) now es := by
  refine ⟨hp, rfl, SVo_row, plc_len _ _, fun i hi => ?_, fun i hi => ?_, ?_⟩
  · rw [plc_at hi]
    show hth _ (mid.length + 2 + 2 * i) = _
    rw [SVo_ent]
    exact (SVr_at (k := mid.length + 2) hi).1
  · rw [plc_at hi]
    refine ⟨by show mid.length + 2 + 2 * i + 1 < (SVo now es mid).length; rw [SVo_len]; omega, fun c => ?_⟩
    show hth _ (mid.length + 2 + 2 * i + 1) = _
    rw [show mid.length + 2 + 2 * i + 1 = mid.length + 2 + (2 * i + 1) by omega, SVo_ent, (SVr_at (k := mid.length + 2) hi).2]
    unfold dlC
    rw [if_pos c]
  · rw [ilv_plc]
    refine List.nodup_cons.2 ⟨fun q => ?_, List.nodup_cons.2 ⟨fun q => ?_, List.nodup_range'⟩⟩
    · rcases List.mem_cons.1 q with q | q
      · omega
      · have := List.mem_range'_1.1 q; omega
    · have := List.mem_range'_1.1 q; omega
theorem SVo_ok {now : Int} {es : List Sm} {mid : List Ch} (hm : ∀ c ∈ mid, (∀ σ, fitC σ c c) ∧ nsC c) : Okm (SVo now es mid) := by
  have hl := SVo_len now es mid
  refine ⟨fun σ hσ i hi => ?_, fun i hi => ?_⟩
  · rw [hl] at hσ hi
    by_cases c0 : i = 0
    · subst c0
      exact ⟨rfl, ⟨rfl, rfl⟩, ⟨hσ _ (by omega), rfl, rfl⟩, trivial⟩
    by_cases c1 : i < mid.length + 1
    · obtain ⟨j, rfl⟩ : ∃ j, i = j + 1 := ⟨i - 1, by omega⟩
      have hj : j < mid.length := by omega
      rw [SVo_mid hj, hth_get0 hj]
      exact (hm _ (List.getElem_mem hj)).1 σ
    by_cases c2 : i = mid.length + 1
    · subst c2
      rw [SVo_row]
      refine ⟨rfl, ptA_fit2 fun k hk => hσ _ ?_⟩
      rw [plc_len] at hk
      rw [plc_at hk]
      show mid.length + 2 + 2 * k < _
      omega
    · obtain ⟨j, rfl⟩ : ∃ j, i = mid.length + 2 + j := ⟨i - (mid.length + 2), by omega⟩
      rw [SVo_ent]
      obtain ⟨k, hk⟩ : ∃ k, j = 2 * k ∨ j = 2 * k + 1 := ⟨j / 2, by omega⟩
      rcases hk with rfl | rfl
      · rw [(SVr_at (k := mid.length + 2) (es := es) (by omega)).1]
        exact enC_fit (hσ _ (by omega))
      · rw [(SVr_at (k := mid.length + 2) (es := es) (by omega)).2]
        exact dlC_fit σ _
  · rw [hl] at hi
    by_cases c0 : i = 0
    · subst c0
      exact ns_main _ _ _
    by_cases c1 : i < mid.length + 1
    · obtain ⟨j, rfl⟩ : ∃ j, i = j + 1 := ⟨i - 1, by omega⟩
      have hj : j < mid.length := by omega
      rw [SVo_mid hj, hth_get0 hj]
      exact (hm _ (List.getElem_mem hj)).2
    by_cases c2 : i = mid.length + 1
    · subst c2
      rw [SVo_row]
      exact ns_ptA _
    · obtain ⟨j, rfl⟩ : ∃ j, i = mid.length + 2 + j := ⟨i - (mid.length + 2), by omega⟩
      rw [SVo_ent]
      obtain ⟨k, hk⟩ : ∃ k, j = 2 * k ∨ j = 2 * k + 1 := ⟨j / 2, by omega⟩
      rcases hk with rfl | rfl
      · rw [(SVr_at (k := mid.length + 2) (es := es) (by omega)).1]
        exact ns_enC _ _
      · rw [(SVr_at (k := mid.length + 2) (es := es) (by omega)).2]
        exact ns_dlC _
theorem rho_pos {m j : Nat} (h : 0 < j) : rhoO 0 m j = m + j - 1 := by
  cases j with
  | zero => omega
  | succ n => show m + n = m + (n + 1) - 1; omega
theorem ckA_renM (m : Mon) {b d : Nat} (h : 0 < d) : renA (rhoO 0 b) (ckA m d) = ckA m (b + d - 1) := by
  unfold ckA
  split
  · show AV.ifc _ (AV.ptr (rhoO 0 b d) 0) = _
    rw [rho_pos h]
  · split <;> rfl
theorem SVr_renM {b : Nat} : ∀ {k : Nat} {es : List Sm}, 0 < k → renCs (rhoO 0 b) (SVr k es) = SVr (b + k - 1) es
  | _, [], _ => rfl
  | k, e :: es, h => by
    show Ch.cells (renL (rhoO 0 b) (enC e (k + 1))) :: renC (rhoO 0 b) (dlC e) :: renCs (rhoO 0 b) (SVr (k + 2) es) = Ch.cells (enC e (b + k - 1 + 1)) :: dlC e :: SVr (b + k - 1 + 2) es
    rw [SVr_renM (by omega), show b + (k + 2) - 1 = b + k - 1 + 2 by omega]
    have e1 : renL (rhoO 0 b) (enC e (k + 1)) = enC e (b + k - 1 + 1) := by
      show [_, _, _, _, _, _, _, _, renA (rhoO 0 b) (ckA e.m (k + 1)), _, _, _, _] = _
      rw [ckA_renM _ (by omega), show b + (k + 1) - 1 = b + k - 1 + 1 by omega]; rfl
    have e2 : renC (rhoO 0 b) (dlC e) = dlC e := by
      unfold dlC
      split <;> rfl
    rw [e1, e2]
theorem ptA_renM {b : Nat} : ∀ {k n : Nat}, 0 < k → renL (rhoO 0 b) (ptA (plc k n)) = ptA (plc (b + k - 1) n)
  | _, 0, _ => rfl
  | k, n + 1, h => by
    show AV.ptr (rhoO 0 b k) 0 :: renL (rhoO 0 b) (ptA (plc (k + 2) n)) = AV.ptr (b + k - 1) 0 :: ptA (plc (b + k - 1 + 2) n)
    rw [rho_pos h, ptA_renM (by omega), show b + (k + 2) - 1 = b + k - 1 + 2 by omega]
theorem w_openSo {P : Program} {k : Nat} {c : Code} {tm : List AV} {now : Int} {es : List Sm} {mid : List Ch} {q : Post} (hp : 0 < es.length) (H : Wp P k c tm (SVo now es mid) q) : Wp P k c tm (.pack (SV now es) :: mid) q := by
  have e : SV now es = .cells [.bool true, .int .i64 now, .csl 1 es.length 1] :: (.crow (ptA (plc 2 es.length)) :: SVr 2 es) := if_neg (by omega)
  refine w_open (h' := SVo now es mid) (vs := [.bool true, .int .i64 now, .csl 1 es.length 1]) (rest := .crow (ptA (plc 2 es.length)) :: SVr 2 es) 0 (by rw [e]; rfl) ?_ H
  show Ch.cells (renL (rhoO 0 (mid.length + 1)) [.bool true, .int .i64 now, .csl 1 es.length 1]) :: (mid ++ (Ch.crow (renL (rhoO 0 (mid.length + 1)) (ptA (plc 2 es.length))) :: renCs (rhoO 0 (mid.length + 1)) (SVr 2 es))) = _
  rw [SVr_renM (by omega), ptA_renM (by omega)]
  rfl
theorem Srv.time {h : List Ch} {u v : Nat} {ts : List (Nat × Nat)} {now now' : Int} {es : List Sm} (a : Srv h u v ts now es) : Srv (h.set u (.cells [.bool true, .int .i64 now', .csl v es.length 1])) u v ts now' es := by
  obtain ⟨m1, m2⟩ := List.nodup_cons.1 a.nd
  have hu : u < h.length := hth_lt (by rw [a.o]; simp)
  refine ⟨a.pos, hth_set_eq hu, ?_, a.len, fun i hi => ?_, fun i hi => ?_, a.nd⟩
  · rw [hth_set_ne (fun q => m1 (by rw [q]; simp))]; exact a.o1
  · have := ilv_mem (ts := ts) (i := i) (by rw [a.len]; exact hi)
    rw [hth_set_ne (fun q => m1 (by rw [q]; exact List.mem_cons_of_mem _ this.1))]; exact a.ent i hi
  · have := ilv_mem (ts := ts) (i := i) (by rw [a.len]; exact hi)
    rw [List.length_set, hth_set_ne (fun q => m1 (by rw [q]; exact List.mem_cons_of_mem _ this.2))]; exact a.dl i hi
theorem Okm.time {h : List Ch} (a : Okm h) {u v : Nat} {now' : Int} {n : Nat} (hv : v < h.length) : Okm (h.set u (.cells [.bool true, .int .i64 now', .csl v n 1])) :=
  a.set (fun _ hσ => ⟨rfl, ⟨rfl, rfl⟩, ⟨hσ _ hv, rfl, rfl⟩, trivial⟩) (ns_main _ _ _)
/-- one entry is fed -/
theorem fdH_srv {h : List Ch} {u v k : Nat} {ts : List (Nat × Nat)} {now : Int} {es : List Sm} {x : Int} (A : Srv h u v ts now es) (hk : k < es.length) :
    Srv (fdH h (ts.getD k (0, 0)).1 (ts.getD k (0, 0)).2 (eAtS es k) x) u v ts now (es.set k (nxE (eAtS es k) x)) ∧ (fdH h (ts.getD k (0, 0)).1 (ts.getD k (0, 0)).2 (eAtS es k) x).length = h.length ∧ ∀ t, t ≠ (ts.getD k (0, 0)).1 → t ≠ (ts.getD k (0, 0)).2 → hth (fdH h (ts.getD k (0, 0)).1 (ts.getD k (0, 0)).2 (eAtS es k) x) t = hth h t := by
  have hk' : k < ts.length := by rw [A.len]; exact hk
  have hlt := A.lt
  have p1 := hlt _ (List.mem_cons_of_mem _ (List.mem_cons_of_mem _ (ilv_mem hk').1))
  have p2 := hlt _ (List.mem_cons_of_mem _ (List.mem_cons_of_mem _ (ilv_mem hk').2))
  have ap := A.apart hk hk
  have hlen : (fdH h (ts.getD k (0, 0)).1 (ts.getD k (0, 0)).2 (eAtS es k) x).length = h.length := by
    unfold fdH
    rw [List.length_set]
    split
    · rw [List.length_set]
    · rfl
  have hoth : ∀ t, t ≠ (ts.getD k (0, 0)).1 → t ≠ (ts.getD k (0, 0)).2 → hth (fdH h (ts.getD k (0, 0)).1 (ts.getD k (0, 0)).2 (eAtS es k) x) t = hth h t := fun t h1 h2 => by
    unfold fdH
    rw [hth_set_ne (Ne.symm h1)]
    split
    · rw [hth_set_ne (Ne.symm h2)]
    · rfl
  have hts : ts.set k ((ts.getD k (0, 0)).1, (ts.getD k (0, 0)).2) = ts := by
    have : ts.getD k (0, 0) = ts[k] := by rw [List.getD_eq_getElem?_getD, List.getElem?_eq_getElem hk']; rfl
    rw [this]
    exact List.set_getElem_self hk'
  refine ⟨?_, hlen, hoth⟩
  have := A.put (h' := fdH h (ts.getD k (0, 0)).1 (ts.getD k (0, 0)).2 (eAtS es k) x) (e' := nxE (eAtS es k) x) (d' := (ts.getD k (0, 0)).2) hk (by omega) (fun t _ h1 h2 => hoth t h1 h2) ?_ ⟨by omega, fun c => ?_⟩ (.inl rfl)
  · rwa [hts] at this
  · unfold fdH
    refine hth_set_eq ?_
    split
    · rw [List.length_set]; exact p1
    · exact p1
  · unfold fdH
    rw [hth_set_ne ap.2.1, if_pos (show (eAtS es k).m.kind = 3 from c)]
    exact hth_set_eq p2
theorem fdH_ok {h : List Ch} {p d : Nat} {e : Sm} {x : Int} (a : Okm h) (hd : d < h.length) : Okm (fdH h p d e x) := by
  unfold fdH
  have a2 : Okm (if e.m.kind = 3 then h.set d (.cells (dlV (nxE e x))) else h) := by
    split
    · exact a.set (fun σ _ => dlV_fit σ _) (ns_dlV _)
    · exact a
  have hl : (if e.m.kind = 3 then h.set d (.cells (dlV (nxE e x))) else h).length = h.length := by
    split
    · rw [List.length_set]
    · rfl
  exact a2.set (fun σ hσ => enC_fit (hσ _ (by rw [hl]; exact hd))) (ns_enC _ _)
end Go.V

set_option maxRecDepth 100000
set_option maxHeartbeats 8000000
namespace Go.V
open Go.Proofs
attribute [-go_sem] SL PL
/-- a monitor is there, or is not -/
structure AtE (es : List Sm) (id : Int) (k : Nat) : Prop where
  eq : fixE es id = k
  lt : k < es.length
structure NoE (es : List Sm) (id : Int) : Prop where
  eq : fixE es id = es.length
theorem c_findP {h : List Ch} {K : KT} {u v k p : Nat} {ts : List (Nat × Nat)} {now : Int} {es : List Sm} {i : Int} (H : K (.ptr p 0) (h ++ [.cells [.int .i64 i]])) (e1 : Srv h u v ts now es) (e2 : AtE es i k) (e3 : (ts.getD k (0, 0)).1 = p) (s2 : es.length ≤ 256) : Does Try.prog 31 [.ptr u 0, .int .i64 i] h K := by
  refine Does.of_K (k_findS e1 s2 ?_)
  have : ptV ts es i = .ptr p 0 := by unfold ptV; rw [e2.eq, if_pos e2.lt, e3]
  rw [this]; exact H
abbrev i_findP := Ctr.mk (i := 2) (g := 31) @c_findP
attribute [instance] i_findP
theorem c_findN {h : List Ch} {K : KT} {u v : Nat} {ts : List (Nat × Nat)} {now : Int} {es : List Sm} {i : Int} (H : K (.lit (.pointer none)) (h ++ [.cells [.int .i64 i]])) (e1 : Srv h u v ts now es) (e2 : NoE es i) (s2 : es.length ≤ 256) : Does Try.prog 31 [.ptr u 0, .int .i64 i] h K := by
  refine Does.of_K (k_findS e1 s2 ?_)
  have : ptV ts es i = .lit (.pointer none) := by unfold ptV; rw [e2.eq, if_neg (by omega)]
  rw [this]; exact H
abbrev i_findN := Ctr.mk (i := 3) (g := 31) @c_findN
attribute [instance] i_findN
abbrev SrtE (es : List Sm) : Prop := es.Pairwise fun a b => a.m.id < b.m.id
theorem srtE_ne {es : List Sm} (hs : SrtE es) {i j : Nat} (hi : i < es.length) (hj : j < es.length) (hne : i ≠ j) : (eAtS es i).m.id ≠ (eAtS es j).m.id := by
  rw [SrtE, List.pairwise_iff_getElem] at hs
  have e1 : ∀ {k : Nat} (hk : k < es.length), eAtS es k = es[k] := fun {k} hk => by show es.getD k Sm.zero = _; rw [List.getD_eq_getElem?_getD, List.getElem?_eq_getElem hk]; rfl
  rw [e1 hi, e1 hj]
  rcases Nat.lt_or_gt_of_ne hne with c | c
  · have := hs i j hi hj c; omega
  · have := hs j i hj hi c; omega
theorem map_set_at {es : List Sm} {f : Sm → Sm} {k : Nat} (hk : k < es.length) (hf : ∀ j, j < es.length → j ≠ k → f (eAtS es j) = eAtS es j) : es.map f = es.set k (f (eAtS es k)) := by
  have e1 : ∀ {k : Nat} (hk : k < es.length), eAtS es k = es[k] := fun {k} hk => by show es.getD k Sm.zero = _; rw [List.getD_eq_getElem?_getD, List.getElem?_eq_getElem hk]; rfl
  refine List.ext_getElem (by simp) fun j h1 h2 => ?_
  rw [List.getElem_map, List.getElem_set]
  have hj : j < es.length := by simpa using h1
  by_cases c : k = j
  · subst c; rw [if_pos rfl, e1 hk]
  · rw [if_neg c, ← e1 hj, hf j hj (Ne.symm c)]
theorem enaL_at {es : List Sm} {id : Int} {on : Bool} {k : Nat} (hs : SrtE es) (hk : k < es.length) (hid : (eAtS es k).m.id = id) : enaL id on es = es.set k (enaS on (eAtS es k)) := by
  have := map_set_at (f := fun e => if e.m.id = id then enaS on e else e) hk fun j hj hne => if_neg fun q => srtE_ne hs hj hk hne (by rw [q, hid])
  unfold enaL
  rw [this]
  show es.set k (if (eAtS es k).m.id = id then _ else _) = _
  rw [if_pos hid]
theorem enaL_none {es : List Sm} {id : Int} {on : Bool} (h : ∀ j, j < es.length → ¬ (eAtS es j).m.id = id) : enaL id on es = es := by
  unfold enaL
  refine List.ext_getElem (by simp) fun j h1 h2 => ?_
  rw [List.getElem_map]
  have hj : j < es.length := by simpa using h1
  have : eAtS es j = es[j] := by show es.getD j Sm.zero = _; rw [List.getD_eq_getElem?_getD, List.getElem?_eq_getElem hj]; rfl
  have h3 := h j hj
  rw [this] at h3
  exact if_neg h3
/-- one entry is set, and chunks lie behind -/
theorem Srv.putS {h l : List Ch} {c : Ch} {u v k p d' : Nat} {ts : List (Nat × Nat)} {now : Int} {es : List Sm} {e' : Sm} (A : Srv h u v ts now es) (hk : k < es.length) (hp : (ts.getD k (0, 0)).1 = p) (hc : c = .cells (enC e' d'))
    (hd : (d' = (ts.getD k (0, 0)).2 ∧ (e'.m.kind = 3 → hth h d' = .cells (dlV e'))) ∨ ∃ j, d' = h.length + j ∧ j < l.length ∧ (e'.m.kind = 3 → hth l j = .cells (dlV e'))) : Srv (h.set p c ++ l) u v (ts.set k ((ts.getD k (0, 0)).1, d')) now (es.set k e') := by
  have hk' : k < ts.length := by rw [A.len]; exact hk
  have hlt := A.lt
  have p1 := hlt _ (List.mem_cons_of_mem _ (List.mem_cons_of_mem _ (ilv_mem hk').1))
  have p2 := hlt _ (List.mem_cons_of_mem _ (List.mem_cons_of_mem _ (ilv_mem hk').2))
  have ap := A.apart hk hk
  subst hp hc
  have e0 : (h.set (ts.getD k (0, 0)).1 (.cells (enC e' d'))).length = h.length := List.length_set
  refine A.put hk (by rw [List.length_append, e0]; omega) (fun t ht h1 h2 => by rw [hth_app (by rw [e0]; exact ht), hth_set_ne (Ne.symm h1)]) (by rw [hth_app (by rw [e0]; exact p1)]; exact hth_set_eq p1) ?_ ?_
  · rcases hd with ⟨rfl, q⟩ | ⟨j, rfl, hj, q⟩
    · exact ⟨by rw [List.length_append, e0]; omega, fun c => by rw [hth_app (by rw [e0]; exact p2), hth_set_ne ap.2.1]; exact q c⟩
    · refine ⟨by rw [List.length_append, e0]; omega, fun c => ?_⟩
      rw [← q c]
      conv => lhs; arg 2; rw [← e0]
      exact hth_app_r
  · rcases hd with ⟨rfl, -⟩ | ⟨j, rfl, -⟩
    · exact .inl rfl
    · exact .inr (Nat.le_add_right _ _)
abbrev okE (m : Mon) : Prop := isLim m ∨ isExp m ∨ isDel m
def enaR (es : List Sm) (id : Int) : Int := if fixE es id < es.length then 0 else 8
theorem b_enaN (now : Int) (es : List Sm) (id : Int) (on : Bool) (hp : 0 < es.length) (hl : es.length ≤ 256) (hf : NoE es id) :
    DoesK Try.prog 1 14 [.ptr 0 0, .int .i64 id, .bool on] [.pack (SV now es)] (EndF 1 (.int .i64 8) ([.pack (SV now es)] ++ [])) := by
  refine DoesK.close ?_
  refine w_body (rs := [.tmp 6]) (tm := [.ptr 0 0, .int .i64 id, .bool on, .any, .any, .any, .any, .any, .any, .any, .any, .any, .any, .any, .any, .any, .any, .any, .any, .any, .any, .any, .any, .any, .any, .any, .any, .any, .any, .any, .any, .any, .any, .any, .any, .any, .any, .any, .any, .any, .any, .any, .any, .any, .any, .any, .any, .any]) fn_14 rfl rfl rfl rfl fun R hR => ?_
  refine w_openS hp ?_
  have A := srv_open (now := now) hp
  generalize SV now es = h at A ⊢
  generalize plc 2 es.length = ts at A
  have o : hth h 0 = .cells [.bool true, .int .i64 now, .csl 1 es.length 1] := A.o
  (have zx1 := @o; all_goals (try ((with_reducible first | refine wp_id ?_ | refine does_id ?_ | refine ops_id ?_ | refine dw_id ?_); refine walk ?_; (repeat' (first | exact trivial | with_reducible refine And.intro ?_ ?_)); all_goals (repeat with_reducible first | refine ImpB.mk fun hb => ?_ | refine ImpK.mk fun hK => ?_ | refine ImpF.mk fun hF => ?_ | refine ImpQ.mk fun hp => ?_ | refine AllE.mk fun p => ?_ | refine AllR.mk fun rest => ?_ | refine AllK.mk fun K => ?_))); repeat' (with_reducible refine And.intro ?_ ?_))
  refine end_srv (A.app _) ?_
  exact ⟨rfl, rfl⟩
theorem b_enaT (now : Int) (es : List Sm) (id : Int) (on : Bool) (k : Nat) (hp : 0 < es.length) (hl : es.length ≤ 256) (hf : AtE es id k) (ho : ¬ (on = false ∧ (eAtS es k).off = false)) :
    DoesK Try.prog 1 14 [.ptr 0 0, .int .i64 id, .bool on] [.pack (SV now es)] (EndF 1 (.int .i64 0) ([.pack (SV now (es.set k (enaS on (eAtS es k))))] ++ [])) := by
  refine DoesK.close ?_
  have hk := hf.lt
  rcases hx : eAtS es k with ⟨m, off, st, res, run, bg, last⟩
  rw [hx] at ho
  unfold enaS
  rw [if_neg ho]
  refine w_body (rs := [.tmp 6]) (tm := [.ptr 0 0, .int .i64 id, .bool on, .any, .any, .any, .any, .any, .any, .any, .any, .any, .any, .any, .any, .any, .any, .any, .any, .any, .any, .any, .any, .any, .any, .any, .any, .any, .any, .any, .any, .any, .any, .any, .any, .any, .any, .any, .any, .any, .any, .any, .any, .any, .any, .any, .any, .any]) fn_14 rfl rfl rfl rfl fun R hR => ?_
  refine w_openS hp ?_
  have A := srv_open (now := now) hp
  generalize SV now es = h at A ⊢
  generalize plc 2 es.length = ts at A
  have o : hth h 0 = .cells [.bool true, .int .i64 now, .csl 1 es.length 1] := A.o
  obtain ⟨p, hpe⟩ : ∃ p, (ts.getD k (0, 0)).1 = p := ⟨_, rfl⟩
  have he := A.ent k hk
  have hdl := A.dl k hk
  rw [hpe] at he
  obtain ⟨d, hde⟩ : ∃ d, (ts.getD k (0, 0)).2 = d := ⟨_, rfl⟩
  rw [hde] at he hdl
  have hpl : p < h.length := hth_lt (by rw [he]; simp)
  rw [hx] at he
  unfold enC at he
  obtain ⟨c, hc⟩ : ∃ c, ckA m d = c := ⟨_, rfl⟩
  try dsimp only at he
  rw [hc] at he
  have t1 : ∀ l, hth (h ++ l) p = _ := fun l => (hth_app hpl).trans he
  have t2 := symP hpl
  have hfin : ∀ b, Srv (h.set p (.cells [.int .i64 m.id, .int .i64 m.param, .int .i64 m.kind, .int .i64 m.low, .int .i64 m.high, .int .i64 m.rep, .int .i64 m.ev, .int .i64 m.sev, c, .bool b, .int .i64 st, .int .i64 res, .int .i64 run]) ++ [.cells [.int .i64 id]]) 0 1 (ts.set k ((ts.getD k (0, 0)).1, d)) now (es.set k ⟨m, b, st, res, run, bg, last⟩) := fun b =>
    A.putS hk hpe (by rw [← hc]; rfl) (.inl ⟨hde.symm, fun q => (by have := hdl.2 (by rw [hx]; exact q); rw [hx] at this; exact this)⟩)
  cases on with
  | true =>
    (have zx1 := @o; have zx2 := @t1; have zx3 := @t2; all_goals (try ((with_reducible first | refine wp_id ?_ | refine does_id ?_ | refine ops_id ?_ | refine dw_id ?_); refine walk ?_; (repeat' (first | exact trivial | with_reducible refine And.intro ?_ ?_)); all_goals (repeat with_reducible first | refine ImpB.mk fun hb => ?_ | refine ImpK.mk fun hK => ?_ | refine ImpF.mk fun hF => ?_ | refine ImpQ.mk fun hp => ?_ | refine AllE.mk fun p => ?_ | refine AllR.mk fun rest => ?_ | refine AllK.mk fun K => ?_))); repeat' (with_reducible refine And.intro ?_ ?_))
    exact end_srv (hfin false) ⟨rfl, rfl⟩
  | false =>
    cases off with
    | false => exact absurd ⟨rfl, rfl⟩ ho
    | true =>
      (have zx1 := @o; have zx2 := @t1; have zx3 := @t2; all_goals (try ((with_reducible first | refine wp_id ?_ | refine does_id ?_ | refine ops_id ?_ | refine dw_id ?_); refine walk ?_; (repeat' (first | exact trivial | with_reducible refine And.intro ?_ ?_)); all_goals (repeat with_reducible first | refine ImpB.mk fun hb => ?_ | refine ImpK.mk fun hK => ?_ | refine ImpF.mk fun hF => ?_ | refine ImpQ.mk fun hp => ?_ | refine AllE.mk fun p => ?_ | refine AllR.mk fun rest => ?_ | refine AllK.mk fun K => ?_))); repeat' (with_reducible refine And.intro ?_ ?_))
      exact end_srv (hfin true) ⟨rfl, rfl⟩
theorem b_enaF (now : Int) (es : List Sm) (id : Int) (k : Nat) (hp : 0 < es.length) (hl : es.length ≤ 256) (hf : AtE es id k) (ho : (eAtS es k).off = false) (hm : okE (eAtS es k).m) :
    DoesK Try.prog 1 14 [.ptr 0 0, .int .i64 id, .bool false] [.pack (SV now es)] (EndF 1 (.int .i64 0) ([.pack (SV now (es.set k (enaS false (eAtS es k))))] ++ [])) := by
  refine DoesK.close ?_
  have hk := hf.lt
  rcases hx : eAtS es k with ⟨m, off, st, res, run, bg, last⟩
  rw [hx] at ho hm
  obtain rfl : off = false := ho
  unfold enaS
  rw [if_pos ⟨rfl, rfl⟩]
  refine w_body (rs := [.tmp 6]) (tm := [.ptr 0 0, .int .i64 id, .bool false, .any, .any, .any, .any, .any, .any, .any, .any, .any, .any, .any, .any, .any, .any, .any, .any, .any, .any, .any, .any, .any, .any, .any, .any, .any, .any, .any, .any, .any, .any, .any, .any, .any, .any, .any, .any, .any, .any, .any, .any, .any, .any, .any, .any, .any]) fn_14 rfl rfl rfl rfl fun R hR => ?_
  refine w_openS hp ?_
  have A := srv_open (now := now) hp
  generalize SV now es = h at A ⊢
  generalize plc 2 es.length = ts at A
  have o : hth h 0 = .cells [.bool true, .int .i64 now, .csl 1 es.length 1] := A.o
  obtain ⟨p, hpe⟩ : ∃ p, (ts.getD k (0, 0)).1 = p := ⟨_, rfl⟩
  have he := A.ent k hk
  rw [hpe] at he
  obtain ⟨d, hde⟩ : ∃ d, (ts.getD k (0, 0)).2 = d := ⟨_, rfl⟩
  rw [hde] at he
  have hpl : p < h.length := hth_lt (by rw [he]; simp)
  rw [hx] at he
  unfold enC at he
  obtain ⟨c, hc⟩ : ∃ c, ckA m d = c := ⟨_, rfl⟩
  try dsimp only at he
  rw [hc] at he
  have t1 : ∀ l, hth (h ++ l) p = _ := fun l => (hth_app hpl).trans he
  have t2 := symP hpl
  have t3 := symH h
  have hm : okE m := hm
  rcases hm with hm | hm | hm
  · have hck : ckA m d = _ := ckA_lim hm d
    have hfin := A.putS (l := [.cells [.int .i64 id]]) (e' := ⟨m, true, 0, 0, 0, false, 0⟩) (d' := d) hk hpe rfl (.inl ⟨hde.symm, fun q => by have := hm.kind; have q2 : m.kind = 3 := q; omega⟩)
    unfold enC at hfin
    dsimp only at hfin
    rw [hck] at hfin
    (have zx1 := @o; have zx2 := @t1; have zx3 := @t2; have zx4 := @t3; all_goals (try ((with_reducible first | refine wp_id ?_ | refine does_id ?_ | refine ops_id ?_ | refine dw_id ?_); refine walk ?_; (repeat' (first | exact trivial | with_reducible refine And.intro ?_ ?_)); all_goals (repeat with_reducible first | refine ImpB.mk fun hb => ?_ | refine ImpK.mk fun hK => ?_ | refine ImpF.mk fun hF => ?_ | refine ImpQ.mk fun hp => ?_ | refine AllE.mk fun p => ?_ | refine AllR.mk fun rest => ?_ | refine AllK.mk fun K => ?_))); repeat' (with_reducible refine And.intro ?_ ?_))
    exact end_srv hfin ⟨rfl, rfl⟩
  · have hck : ckA m d = _ := ckA_exp hm d
    have hfin := A.putS (l := [.cells [.int .i64 id]]) (e' := ⟨m, true, 0, 0, 0, false, 0⟩) (d' := d) hk hpe rfl (.inl ⟨hde.symm, fun q => by have := hm.kind; have q2 : m.kind = 3 := q; omega⟩)
    unfold enC at hfin
    dsimp only at hfin
    rw [hck] at hfin
    (have zx1 := @o; have zx2 := @t1; have zx3 := @t2; have zx4 := @t3; all_goals (try ((with_reducible first | refine wp_id ?_ | refine does_id ?_ | refine ops_id ?_ | refine dw_id ?_); refine walk ?_; (repeat' (first | exact trivial | with_reducible refine And.intro ?_ ?_)); all_goals (repeat with_reducible first | refine ImpB.mk fun hb => ?_ | refine ImpK.mk fun hK => ?_ | refine ImpF.mk fun hF => ?_ | refine ImpQ.mk fun hp => ?_ | refine AllE.mk fun p => ?_ | refine AllR.mk fun rest => ?_ | refine AllK.mk fun K => ?_))); repeat' (with_reducible refine And.intro ?_ ?_))
    exact end_srv hfin ⟨rfl, rfl⟩
  · have hck : ckA m (h.length + 1) = _ := ckA_del hm (h.length + 1)
    have hfin := A.putS (l := [.cells [.int .i64 id], .cells (dlL m.high false 0)]) (e' := ⟨m, true, 0, 0, 0, false, 0⟩) (d' := h.length + 1) hk hpe rfl (.inr ⟨1, rfl, by simp, fun _ => rfl⟩)
    unfold enC at hfin
    dsimp only at hfin
    rw [hck] at hfin
    (have zx1 := @o; have zx2 := @t1; have zx3 := @t2; have zx4 := @t3; all_goals (try ((with_reducible first | refine wp_id ?_ | refine does_id ?_ | refine ops_id ?_ | refine dw_id ?_); refine walk ?_; (repeat' (first | exact trivial | with_reducible refine And.intro ?_ ?_)); all_goals (repeat with_reducible first | refine ImpB.mk fun hb => ?_ | refine ImpK.mk fun hK => ?_ | refine ImpF.mk fun hF => ?_ | refine ImpQ.mk fun hp => ?_ | refine AllE.mk fun p => ?_ | refine AllR.mk fun rest => ?_ | refine AllK.mk fun K => ?_))); repeat' (with_reducible refine And.intro ?_ ?_))
    apply d_heap
    case' hf => (intro zK zH; simp only [go_sem, decide_true, decide_false, Int.reduceToNat, Nat.min_eq_left, Nat.min_eq_right, Int.reducePow, Nat.reducePow, Int.reduceLE, Int.reduceLT, Int.reduceMul, Int.reduceAdd, Int.reduceSub, Int.reduceNeg, Bool.not_true, Bool.not_false, Bool.not_not, ↓reduceIte, Nat.reduceAdd, Nat.reduceSub, Nat.reduceMul, Nat.reduceEqDiff, reduceCtorEq, Nat.reduceLT, Nat.reduceLeDiff, Nat.reduceGT]; (refine use 1 fun zc => ?_); (with_reducible apply zc))
    case e1 => assumption
    case hf.H => (simp only [List.append_assoc, List.cons_append, List.nil_append, List.length_append, List.length_cons, List.length_nil, Nat.zero_add]; exact zH)
    case hh => exact all_nil
    case hp => ((repeat (first | exact all_nil | (refine all_cons' ?_ ?_))); (all_goals ((dsimp only; intro hc); (first | exact no_of (by decide +kernel) hc | (intro zK zH; simp only [go_sem, t1, t3, decide_true, decide_false, Int.reduceToNat, Nat.min_eq_left, Nat.min_eq_right, Int.reducePow, Nat.reducePow, Int.reduceLE, Int.reduceLT, Int.reduceMul, Int.reduceAdd, Int.reduceSub, Int.reduceNeg, Bool.not_true, Bool.not_false, Bool.not_not, ↓reduceIte, Nat.reduceAdd, Nat.reduceSub, Nat.reduceMul, Nat.reduceEqDiff, reduceCtorEq, Nat.reduceLT, Nat.reduceLeDiff, Nat.reduceGT]; exact zH)))))
    case' H => (intro tm' e'; simp only [putA, List.set_cons_succ, List.set_cons_zero] at e'; subst e')
    (have zx1 := @o; have zx2 := @t1; have zx3 := @t2; have zx4 := @t3; all_goals (try ((with_reducible first | refine wp_id ?_ | refine does_id ?_ | refine ops_id ?_ | refine dw_id ?_); refine walk ?_; (repeat' (first | exact trivial | with_reducible refine And.intro ?_ ?_)); all_goals (repeat with_reducible first | refine ImpB.mk fun hb => ?_ | refine ImpK.mk fun hK => ?_ | refine ImpF.mk fun hF => ?_ | refine ImpQ.mk fun hp => ?_ | refine AllE.mk fun p => ?_ | refine AllR.mk fun rest => ?_ | refine AllK.mk fun K => ?_))); repeat' (with_reducible refine And.intro ?_ ?_))
    exact end_srv hfin ⟨rfl, rfl⟩
theorem b_enaS (now : Int) (es : List Sm) (id : Int) (on : Bool) (hp : 0 < es.length) (hl : es.length ≤ 256) (hs : SrtE es) (hm : ∀ k, k < es.length → okE (eAtS es k).m) :
    DoesK Try.prog 1 14 [.ptr 0 0, .int .i64 id, .bool on] [.pack (SV now es)] (EndF 1 (.int .i64 (enaR es id)) ([.pack (SV now (enaL id on es))] ++ [])) := by
  by_cases c : fixE es id < es.length
  · rw [show enaR es id = 0 from if_pos c, enaL_at hs c (fixE_lt c)]
    by_cases ho : on = false ∧ (eAtS es (fixE es id)).off = false
    · obtain ⟨rfl, ho⟩ := ho
      exact b_enaF now es id _ hp hl ⟨rfl, c⟩ ho (hm _ c)
    · exact b_enaT now es id on _ hp hl ⟨rfl, c⟩ ho
  · rw [show enaR es id = 8 from if_neg c, enaL_none (fixE_ge c)]
    have := fixE_le es id
    exact b_enaN now es id on hp hl ⟨by omega⟩
end Go.V

set_option maxRecDepth 100000
set_option maxHeartbeats 8000000
namespace Go.V
open Go.Proofs
/-- the values of the pool -/
structure Pv where
  a : Int
  b : Int
  c : Int
  d : Int
def Pv.l (V : Pv) : List Pdf := [⟨0, 32, true, V.a⟩, ⟨1, 32, true, V.b⟩, ⟨2, 32, false, V.c⟩, ⟨3, 8, false, V.d⟩]
def PW (V : Pv) : List Ch := PL idP V.l
def Pv.get (V : Pv) (id : Int) : Option Int := if id = 0 then some V.a else if id = 1 then some V.b else if id = 2 then some V.c else if id = 3 then some V.d else none
def inU (w v : Int) : Bool := decide (0 ≤ v) && decide (v < w)
def inP (id v : Int) : Bool := if id = 0 ∨ id = 1 then inS v else if id = 2 then inU 4294967296 v else if id = 3 then inU 256 v else false
def Pv.set (V : Pv) (id v : Int) : Pv := if inP id v = true then (if id = 0 then ⟨v, V.b, V.c, V.d⟩ else if id = 1 then ⟨V.a, v, V.c, V.d⟩ else if id = 2 then ⟨V.a, V.b, v, V.d⟩ else ⟨V.a, V.b, V.c, v⟩) else V
def setE (id v : Int) : Int := if inP id v = true then 0 else if id = 0 ∨ id = 1 ∨ id = 2 ∨ id = 3 then 1 else 8
attribute [-go_sem] PL
theorem b_inU (i w v : Int) : DoesK Try.prog 0 28 [.agg [.int .i64 i, .int .i64 32, .bool false, .int .i64 w], .int .i64 v] [] (EndF 0 (.bool (inU 4294967296 v)) []) := by
  refine DoesK.close ?_
  unfold inU
  have hw : IntKind.i64.wrap 4294967296 = 4294967296 := by decide
  refine w_body (rs := [.tmp 4]) (tm := [.agg [.int .i64 i, .int .i64 32, .bool false, .int .i64 w], .int .i64 v, .any, .any, .any, .any, .any, .any, .any, .any, .any, .any, .any, .any, .any, .any, .any, .any, .any, .any, .any, .any, .any, .any, .any, .any, .any, .any, .any, .any]) fn_28 rfl rfl rfl rfl fun R hR => ?_
  (have zx1 := @hw; all_goals (try ((with_reducible first | refine wp_id ?_ | refine does_id ?_ | refine ops_id ?_); refine walk ?_; (repeat' (first | exact trivial | with_reducible refine And.intro ?_ ?_)); all_goals (repeat with_reducible first | refine ImpB.mk fun hb => ?_ | refine ImpK.mk fun hK => ?_ | refine ImpF.mk fun hF => ?_ | refine ImpQ.mk fun hp => ?_ | refine AllE.mk fun p => ?_ | refine AllR.mk fun rest => ?_ | refine AllK.mk fun K => ?_))); repeat' (with_reducible refine And.intro ?_ ?_))
  all_goals
    (focus (refine ⟨_, _, Gh.refl, [], rfl, ?_⟩; (refine fitq ?_ ?_ ?_ <;> try exact trivial); (try any_goals (refine ⟨?_, ?_⟩)); (try any_goals (with_reducible rfl))))
    simp [*]
theorem c_inU {h : List Ch} {K : KT} {i w v : Int} (H : K (.bool (inU 4294967296 v)) h) : Does Try.prog 28 [.agg [.int .i64 i, .int .i64 32, .bool false, .int .i64 w], .int .i64 v] h K :=
  frame_pure (b_inU i w v) (br_cons (br_agg (br_cons br_int (br_cons br_int (br_cons br_bool (br_cons br_int br_nil))))) (br_cons br_int br_nil)) (.inr rfl) (fun _ => rfl) H
abbrev i_inU := Ctr.mk (i := 3) (g := 28) @c_inU
attribute [instance] i_inU
theorem b_inV (i w v : Int) : DoesK Try.prog 0 28 [.agg [.int .i64 i, .int .i64 8, .bool false, .int .i64 w], .int .i64 v] [] (EndF 0 (.bool (inU 256 v)) []) := by
  refine DoesK.close ?_
  unfold inU
  have hw : IntKind.i64.wrap 256 = 256 := by decide
  refine w_body (rs := [.tmp 4]) (tm := [.agg [.int .i64 i, .int .i64 8, .bool false, .int .i64 w], .int .i64 v, .any, .any, .any, .any, .any, .any, .any, .any, .any, .any, .any, .any, .any, .any, .any, .any, .any, .any, .any, .any, .any, .any, .any, .any, .any, .any, .any, .any]) fn_28 rfl rfl rfl rfl fun R hR => ?_
  (have zx1 := @hw; all_goals (try ((with_reducible first | refine wp_id ?_ | refine does_id ?_ | refine ops_id ?_); refine walk ?_; (repeat' (first | exact trivial | with_reducible refine And.intro ?_ ?_)); all_goals (repeat with_reducible first | refine ImpB.mk fun hb => ?_ | refine ImpK.mk fun hK => ?_ | refine ImpF.mk fun hF => ?_ | refine ImpQ.mk fun hp => ?_ | refine AllE.mk fun p => ?_ | refine AllR.mk fun rest => ?_ | refine AllK.mk fun K => ?_))); repeat' (with_reducible refine And.intro ?_ ?_))
  all_goals
    (focus (refine ⟨_, _, Gh.refl, [], rfl, ?_⟩; (refine fitq ?_ ?_ ?_ <;> try exact trivial); (try any_goals (refine ⟨?_, ?_⟩)); (try any_goals (with_reducible rfl))))
    simp [*]
theorem c_inV {h : List Ch} {K : KT} {i w v : Int} (H : K (.bool (inU 256 v)) h) : Does Try.prog 28 [.agg [.int .i64 i, .int .i64 8, .bool false, .int .i64 w], .int .i64 v] h K :=
  frame_pure (b_inV i w v) (br_cons (br_agg (br_cons br_int (br_cons br_int (br_cons br_bool (br_cons br_int br_nil))))) (br_cons br_int br_nil)) (.inr rfl) (fun _ => rfl) H
abbrev i_inV := Ctr.mk (i := 4) (g := 28) @c_inV
attribute [instance] i_inV
theorem k_defN {n0 : Nat} {h : List Ch} {K : KT} {u a b n n2 : Nat} {xs : List Int} {t : Int} {i : Nat} (o : hth h u = .cells [.bool true, .sl a .int 0 n, .sl b .pdf 0 n2]) (o1 : hth h a = .rows .int xs) (e : (bnI xs t, bnB xs t) = (i, false)) (s1 : n = xs.length) (s2 : xs.length ≤ 1000000) (s3 : xs.Pairwise (· < ·)) (H : K (.tup [.lit (.pointer none), .int .i64 8]) h) : DoesK Try.prog n0 27 [.ptr u 0, .int .i64 t] h K := by
  refine w_body (rs := [.tmp 4, .tmp 5]) (tm := [.ptr u 0, .int .i64 t, .any, .any, .any, .any, .any, .any, .any, .any, .any, .any, .any, .any, .any, .any, .any, .any, .any, .any, .any, .any, .any, .any, .any, .any, .any, .any]) fn_27 rfl rfl rfl rfl fun R hR => ?_
  (have zx1 := @o; have zx2 := @o1; all_goals (try ((with_reducible first | refine wp_id ?_ | refine does_id ?_ | refine ops_id ?_); refine walk ?_; (repeat' (first | exact trivial | with_reducible refine And.intro ?_ ?_)); all_goals (repeat with_reducible first | refine ImpB.mk fun hb => ?_ | refine ImpK.mk fun hK => ?_ | refine ImpF.mk fun hF => ?_ | refine ImpQ.mk fun hp => ?_ | refine AllE.mk fun p => ?_ | refine AllR.mk fun rest => ?_ | refine AllK.mk fun K => ?_))); repeat' (with_reducible refine And.intro ?_ ?_))
  exact H
theorem c_defN {h : List Ch} {K : KT} {u a b n n2 : Nat} {xs : List Int} {t : Int} {i : Nat} (H : K (.tup [.lit (.pointer none), .int .i64 8]) h) (o : hth h u = .cells [.bool true, .sl a .int 0 n, .sl b .pdf 0 n2]) (o1 : hth h a = .rows .int xs) (e : (bnI xs t, bnB xs t) = (i, false)) (s1 : n = xs.length) (s2 : xs.length ≤ 1000000) (s3 : xs.Pairwise (· < ·)) : Does Try.prog 27 [.ptr u 0, .int .i64 t] h K :=
  Does.of_K (k_defN o o1 e s1 s2 s3 H)
abbrev i_defN := Ctr.mk (i := 1) (g := 27) @c_defN
attribute [instance] i_defN
theorem bnP_none {t : Int} (h : ¬ (t = 0 ∨ t = 1 ∨ t = 2 ∨ t = 3)) : ∃ i, (bnI idP t, bnB idP t) = (i, false) := by
  refine ⟨_, Prod.ext rfl ?_⟩
  show bnB idP t = false
  unfold bnB
  rw [Bool.and_eq_false_iff]
  by_cases c : bnI idP t < idP.length
  · right
    refine decide_eq_false fun q => h ?_
    have c4 : bnI idP t < 4 := c
    have : bnI idP t = 0 ∨ bnI idP t = 1 ∨ bnI idP t = 2 ∨ bnI idP t = 3 := by omega
    rcases this with e | e | e | e <;> rw [e] at q <;> (have q2 := q.symm; simp [idP] at q2; omega)
  · left
    exact decide_eq_false c
theorem b_getN (V : Pv) (t : Int) (hn : ¬ (t = 0 ∨ t = 1 ∨ t = 2 ∨ t = 3)) : DoesK Try.prog 1 29 [.ptr 0 0, .int .i64 t] [.pack (PW V)] (EndF 1 (.tup [.int .i64 0, .int .i64 8]) ([.pack (PW V)] ++ [])) := by
  refine DoesK.close ?_
  obtain ⟨i, e⟩ := bnP_none hn
  have s2 : idP.length ≤ 1000000 := by decide
  have s3 := idP_srt
  have hz : decide (¬ (8 : Int) = 0) = true := by decide
  refine w_body (rs := [.tmp 4, .tmp 5]) (tm := [.ptr 0 0, .int .i64 t, .any, .any, .any, .any, .any, .any, .any, .any, .any, .any, .any, .any, .any, .any, .any, .any, .any, .any, .any]) fn_29 rfl rfl rfl rfl fun R hR => ?_
  unfold PW PL
  refine w_open 0 rfl rfl ?_
  simp only [go_sem, decide_true, decide_false, Int.reduceToNat, Nat.min_eq_left, Nat.min_eq_right, Int.reducePow, Nat.reducePow, Int.reduceLE, Int.reduceLT, Int.reduceMul, Int.reduceAdd, Int.reduceSub, Int.reduceNeg, Bool.not_true, Bool.not_false, Bool.not_not, ↓reduceIte, Nat.reduceAdd, Nat.reduceSub, Nat.reduceMul, Nat.reduceEqDiff, reduceCtorEq, Nat.reduceLT, Nat.reduceLeDiff, Nat.reduceGT]
  (have zx1 := @hz; all_goals (try ((with_reducible first | refine wp_id ?_ | refine does_id ?_ | refine ops_id ?_); refine walk ?_; (repeat' (first | exact trivial | with_reducible refine And.intro ?_ ?_)); all_goals (repeat with_reducible first | refine ImpB.mk fun hb => ?_ | refine ImpK.mk fun hK => ?_ | refine ImpF.mk fun hF => ?_ | refine ImpQ.mk fun hp => ?_ | refine AllE.mk fun p => ?_ | refine AllR.mk fun rest => ?_ | refine AllK.mk fun K => ?_))); repeat' (with_reducible refine And.intro ?_ ?_))
  (focus (refine ⟨_, _, gh_close (t := 0) (ts := [1, 2]) (l := PL idP V.l) ⟨⟨_, _, rfl⟩, ?_, by simp⟩, [0], rfl, ?_⟩; all_goals (refine fitq ?_ ?_ ?_ <;> try exact trivial); (try any_goals (refine ⟨?_, ?_⟩)); (try any_goals (with_reducible rfl))))
  all_goals (repeat' (first | (refine And.intro ?_ ?_) | rfl))
theorem b_setN (V : Pv) (t v : Int) (hn : ¬ (t = 0 ∨ t = 1 ∨ t = 2 ∨ t = 3)) : DoesK Try.prog 1 11 [.ptr 0 0, .int .i64 t, .int .i64 v] [.pack (PW V)] (EndF 1 (.int .i64 8) ([.pack (PW V)] ++ [])) := by
  refine DoesK.close ?_
  obtain ⟨i, e⟩ := bnP_none hn
  have s2 : idP.length ≤ 1000000 := by decide
  have s3 := idP_srt
  have hz : decide (¬ (8 : Int) = 0) = true := by decide
  refine w_body (rs := [.tmp 6]) (tm := [.ptr 0 0, .int .i64 t, .int .i64 v, .any, .any, .any, .any, .any, .any, .any, .any, .any, .any, .any, .any, .any, .any, .any, .any, .any, .any, .any, .any, .any, .any, .any, .any, .any]) fn_11 rfl rfl rfl rfl fun R hR => ?_
  unfold PW PL
  refine w_open 0 rfl rfl ?_
  simp only [go_sem, decide_true, decide_false, Int.reduceToNat, Nat.min_eq_left, Nat.min_eq_right, Int.reducePow, Nat.reducePow, Int.reduceLE, Int.reduceLT, Int.reduceMul, Int.reduceAdd, Int.reduceSub, Int.reduceNeg, Bool.not_true, Bool.not_false, Bool.not_not, ↓reduceIte, Nat.reduceAdd, Nat.reduceSub, Nat.reduceMul, Nat.reduceEqDiff, reduceCtorEq, Nat.reduceLT, Nat.reduceLeDiff, Nat.reduceGT]
  (have zx1 := @hz; all_goals (try ((with_reducible first | refine wp_id ?_ | refine does_id ?_ | refine ops_id ?_); refine walk ?_; (repeat' (first | exact trivial | with_reducible refine And.intro ?_ ?_)); all_goals (repeat with_reducible first | refine ImpB.mk fun hb => ?_ | refine ImpK.mk fun hK => ?_ | refine ImpF.mk fun hF => ?_ | refine ImpQ.mk fun hp => ?_ | refine AllE.mk fun p => ?_ | refine AllR.mk fun rest => ?_ | refine AllK.mk fun K => ?_))); repeat' (with_reducible refine And.intro ?_ ?_))
  (focus (refine ⟨_, _, gh_close (t := 0) (ts := [1, 2]) (l := PL idP V.l) ⟨⟨_, _, rfl⟩, ?_, by simp⟩, [0], rfl, ?_⟩; all_goals (refine fitq ?_ ?_ ?_ <;> try exact trivial); (try any_goals (refine ⟨?_, ?_⟩)); (try any_goals (with_reducible rfl))))
  all_goals (repeat' (first | (refine And.intro ?_ ?_) | rfl))
theorem b_setT0 (V : Pv) (v : Int) (hv : (inS v) = true) : DoesK Try.prog 1 11 [.ptr 0 0, .int .i64 0, .int .i64 v] [.pack (PW V)] (EndF 1 (.int .i64 0) ([.pack (PW ⟨v, V.b, V.c, V.d⟩)] ++ [])) := by
  have e : (bnI idP 0, bnB idP 0) = (0, true) := by decide
  have s2 : idP.length ≤ 1000000 := by decide
  have s3 := idP_srt
  have s5 : 0 < V.l.length := by show 0 < 4; omega
  have hx : V.l.getD 0 Pdf.zero = ⟨0, 32, true, V.a⟩ := rfl
  have hz : decide (¬ (0 : Int) = 0) = false := by decide
  have hlst : V.l.set 0 ⟨0, 32, true, v⟩ = Pv.l ⟨v, V.b, V.c, V.d⟩ := rfl
  obtain ⟨vs, hvs⟩ : ∃ vs, V.l = vs := ⟨_, rfl⟩
  have hvl : vs.length = 4 := by rw [← hvs]; rfl
  unfold PW
  rw [← hlst, hvs]
  rw [hvs] at s5 hx
  refine DoesK.close ?_
  refine w_body (rs := [.tmp 6]) (tm := [.ptr 0 0, .int .i64 0, .int .i64 v, .any, .any, .any, .any, .any, .any, .any, .any, .any, .any, .any, .any, .any, .any, .any, .any, .any, .any, .any, .any, .any, .any, .any, .any, .any]) fn_11 rfl rfl rfl rfl fun R hR => ?_
  unfold PL
  refine w_open 0 rfl rfl ?_
  simp only [go_sem, decide_true, decide_false, Int.reduceToNat, Nat.min_eq_left, Nat.min_eq_right, Int.reducePow, Nat.reducePow, Int.reduceLE, Int.reduceLT, Int.reduceMul, Int.reduceAdd, Int.reduceSub, Int.reduceNeg, Bool.not_true, Bool.not_false, Bool.not_not, ↓reduceIte, Nat.reduceAdd, Nat.reduceSub, Nat.reduceMul, Nat.reduceEqDiff, reduceCtorEq, Nat.reduceLT, Nat.reduceLeDiff, Nat.reduceGT]
  (have zx1 := @hz; have zx2 := @hx; have zx3 := @hv; all_goals (try ((with_reducible first | refine wp_id ?_ | refine does_id ?_ | refine ops_id ?_); refine walk ?_; (repeat' (first | exact trivial | with_reducible refine And.intro ?_ ?_)); all_goals (repeat with_reducible first | refine ImpB.mk fun hb => ?_ | refine ImpK.mk fun hK => ?_ | refine ImpF.mk fun hF => ?_ | refine ImpQ.mk fun hp => ?_ | refine AllE.mk fun p => ?_ | refine AllR.mk fun rest => ?_ | refine AllK.mk fun K => ?_))); repeat' (with_reducible refine And.intro ?_ ?_))
  · exact s5
  · (focus (refine ⟨_, _, gh_close (t := 0) (ts := [1, 2]) (l := PL idP (vs.set 0 ⟨0, 32, true, v⟩)) ⟨⟨_, _, rfl⟩, ?_, by simp⟩, [0], rfl, ?_⟩; all_goals (refine fitq ?_ ?_ ?_ <;> try exact trivial); (try any_goals (refine ⟨?_, ?_⟩)); (try any_goals (with_reducible rfl))))
    all_goals (repeat' (first | (refine And.intro ?_ ?_) | rfl | (rw [List.length_set])))
theorem b_setF0 (V : Pv) (v : Int) (hv : (inS v) = false) : DoesK Try.prog 1 11 [.ptr 0 0, .int .i64 0, .int .i64 v] [.pack (PW V)] (EndF 1 (.int .i64 1) ([.pack (PW V)] ++ [])) := by
  have e : (bnI idP 0, bnB idP 0) = (0, true) := by decide
  have s2 : idP.length ≤ 1000000 := by decide
  have s3 := idP_srt
  have s5 : 0 < V.l.length := by show 0 < 4; omega
  have hx : V.l.getD 0 Pdf.zero = ⟨0, 32, true, V.a⟩ := rfl
  have hz : decide (¬ (0 : Int) = 0) = false := by decide
  obtain ⟨vs, hvs⟩ : ∃ vs, V.l = vs := ⟨_, rfl⟩
  unfold PW
  rw [hvs]
  rw [hvs] at s5 hx
  refine DoesK.close ?_
  refine w_body (rs := [.tmp 6]) (tm := [.ptr 0 0, .int .i64 0, .int .i64 v, .any, .any, .any, .any, .any, .any, .any, .any, .any, .any, .any, .any, .any, .any, .any, .any, .any, .any, .any, .any, .any, .any, .any, .any, .any]) fn_11 rfl rfl rfl rfl fun R hR => ?_
  unfold PL
  refine w_open 0 rfl rfl ?_
  simp only [go_sem, decide_true, decide_false, Int.reduceToNat, Nat.min_eq_left, Nat.min_eq_right, Int.reducePow, Nat.reducePow, Int.reduceLE, Int.reduceLT, Int.reduceMul, Int.reduceAdd, Int.reduceSub, Int.reduceNeg, Bool.not_true, Bool.not_false, Bool.not_not, ↓reduceIte, Nat.reduceAdd, Nat.reduceSub, Nat.reduceMul, Nat.reduceEqDiff, reduceCtorEq, Nat.reduceLT, Nat.reduceLeDiff, Nat.reduceGT]
  (have zx1 := @hz; have zx2 := @hx; have zx3 := @hv; all_goals (try ((with_reducible first | refine wp_id ?_ | refine does_id ?_ | refine ops_id ?_); refine walk ?_; (repeat' (first | exact trivial | with_reducible refine And.intro ?_ ?_)); all_goals (repeat with_reducible first | refine ImpB.mk fun hb => ?_ | refine ImpK.mk fun hK => ?_ | refine ImpF.mk fun hF => ?_ | refine ImpQ.mk fun hp => ?_ | refine AllE.mk fun p => ?_ | refine AllR.mk fun rest => ?_ | refine AllK.mk fun K => ?_))); repeat' (with_reducible refine And.intro ?_ ?_))
  · exact s5
  · (focus (refine ⟨_, _, gh_close (t := 0) (ts := [1, 2]) (l := PL idP vs) ⟨⟨_, _, rfl⟩, ?_, by simp⟩, [0], rfl, ?_⟩; all_goals (refine fitq ?_ ?_ ?_ <;> try exact trivial); (try any_goals (refine ⟨?_, ?_⟩)); (try any_goals (with_reducible rfl))))
    all_goals (repeat' (first | (refine And.intro ?_ ?_) | rfl))
theorem b_setT1 (V : Pv) (v : Int) (hv : (inS v) = true) : DoesK Try.prog 1 11 [.ptr 0 0, .int .i64 1, .int .i64 v] [.pack (PW V)] (EndF 1 (.int .i64 0) ([.pack (PW ⟨V.a, v, V.c, V.d⟩)] ++ [])) := by
  have e : (bnI idP 1, bnB idP 1) = (1, true) := by decide
  have s2 : idP.length ≤ 1000000 := by decide
  have s3 := idP_srt
  have s5 : 1 < V.l.length := by show 1 < 4; omega
  have hx : V.l.getD 1 Pdf.zero = ⟨1, 32, true, V.b⟩ := rfl
  have hz : decide (¬ (0 : Int) = 0) = false := by decide
  have hlst : V.l.set 1 ⟨1, 32, true, v⟩ = Pv.l ⟨V.a, v, V.c, V.d⟩ := rfl
  obtain ⟨vs, hvs⟩ : ∃ vs, V.l = vs := ⟨_, rfl⟩
  have hvl : vs.length = 4 := by rw [← hvs]; rfl
  unfold PW
  rw [← hlst, hvs]
  rw [hvs] at s5 hx
  refine DoesK.close ?_
  refine w_body (rs := [.tmp 6]) (tm := [.ptr 0 0, .int .i64 1, .int .i64 v, .any, .any, .any, .any, .any, .any, .any, .any, .any, .any, .any, .any, .any, .any, .any, .any, .any, .any, .any, .any, .any, .any, .any, .any, .any]) fn_11 rfl rfl rfl rfl fun R hR => ?_
  unfold PL
  refine w_open 0 rfl rfl ?_
  simp only [go_sem, decide_true, decide_false, Int.reduceToNat, Nat.min_eq_left, Nat.min_eq_right, Int.reducePow, Nat.reducePow, Int.reduceLE, Int.reduceLT, Int.reduceMul, Int.reduceAdd, Int.reduceSub, Int.reduceNeg, Bool.not_true, Bool.not_false, Bool.not_not, ↓reduceIte, Nat.reduceAdd, Nat.reduceSub, Nat.reduceMul, Nat.reduceEqDiff, reduceCtorEq, Nat.reduceLT, Nat.reduceLeDiff, Nat.reduceGT]
  (have zx1 := @hz; have zx2 := @hx; have zx3 := @hv; all_goals (try ((with_reducible first | refine wp_id ?_ | refine does_id ?_ | refine ops_id ?_); refine walk ?_; (repeat' (first | exact trivial | with_reducible refine And.intro ?_ ?_)); all_goals (repeat with_reducible first | refine ImpB.mk fun hb => ?_ | refine ImpK.mk fun hK => ?_ | refine ImpF.mk fun hF => ?_ | refine ImpQ.mk fun hp => ?_ | refine AllE.mk fun p => ?_ | refine AllR.mk fun rest => ?_ | refine AllK.mk fun K => ?_))); repeat' (with_reducible refine And.intro ?_ ?_))
  · exact s5
  · (focus (refine ⟨_, _, gh_close (t := 0) (ts := [1, 2]) (l := PL idP (vs.set 1 ⟨1, 32, true, v⟩)) ⟨⟨_, _, rfl⟩, ?_, by simp⟩, [0], rfl, ?_⟩; all_goals (refine fitq ?_ ?_ ?_ <;> try exact trivial); (try any_goals (refine ⟨?_, ?_⟩)); (try any_goals (with_reducible rfl))))
    all_goals (repeat' (first | (refine And.intro ?_ ?_) | rfl | (rw [List.length_set])))
theorem b_setF1 (V : Pv) (v : Int) (hv : (inS v) = false) : DoesK Try.prog 1 11 [.ptr 0 0, .int .i64 1, .int .i64 v] [.pack (PW V)] (EndF 1 (.int .i64 1) ([.pack (PW V)] ++ [])) := by
  have e : (bnI idP 1, bnB idP 1) = (1, true) := by decide
  have s2 : idP.length ≤ 1000000 := by decide
  have s3 := idP_srt
  have s5 : 1 < V.l.length := by show 1 < 4; omega
  have hx : V.l.getD 1 Pdf.zero = ⟨1, 32, true, V.b⟩ := rfl
  have hz : decide (¬ (0 : Int) = 0) = false := by decide
  obtain ⟨vs, hvs⟩ : ∃ vs, V.l = vs := ⟨_, rfl⟩
  unfold PW
  rw [hvs]
  rw [hvs] at s5 hx
  refine DoesK.close ?_
  refine w_body (rs := [.tmp 6]) (tm := [.ptr 0 0, .int .i64 1, .int .i64 v, .any, .any, .any, .any, .any, .any, .any, .any, .any, .any, .any, .any, .any, .any, .any, .any, .any, .any, .any, .any, .any, .any, .any, .any, .any]) fn_11 rfl rfl rfl rfl fun R hR => ?_
  unfold PL
  refine w_open 0 rfl rfl ?_
  simp only [go_sem, decide_true, decide_false, Int.reduceToNat, Nat.min_eq_left, Nat.min_eq_right, Int.reducePow, Nat.reducePow, Int.reduceLE, Int.reduceLT, Int.reduceMul, Int.reduceAdd, Int.reduceSub, Int.reduceNeg, Bool.not_true, Bool.not_false, Bool.not_not, ↓reduceIte, Nat.reduceAdd, Nat.reduceSub, Nat.reduceMul, Nat.reduceEqDiff, reduceCtorEq, Nat.reduceLT, Nat.reduceLeDiff, Nat.reduceGT]
  (have zx1 := @hz; have zx2 := @hx; have zx3 := @hv; all_goals (try ((with_reducible first | refine wp_id ?_ | refine does_id ?_ | refine ops_id ?_); refine walk ?_; (repeat' (first | exact trivial | with_reducible refine And.intro ?_ ?_)); all_goals (repeat with_reducible first | refine ImpB.mk fun hb => ?_ | refine ImpK.mk fun hK => ?_ | refine ImpF.mk fun hF => ?_ | refine ImpQ.mk fun hp => ?_ | refine AllE.mk fun p => ?_ | refine AllR.mk fun rest => ?_ | refine AllK.mk fun K => ?_))); repeat' (with_reducible refine And.intro ?_ ?_))
  · exact s5
  · (focus (refine ⟨_, _, gh_close (t := 0) (ts := [1, 2]) (l := PL idP vs) ⟨⟨_, _, rfl⟩, ?_, by simp⟩, [0], rfl, ?_⟩; all_goals (refine fitq ?_ ?_ ?_ <;> try exact trivial); (try any_goals (refine ⟨?_, ?_⟩)); (try any_goals (with_reducible rfl))))
    all_goals (repeat' (first | (refine And.intro ?_ ?_) | rfl))
theorem b_setT2 (V : Pv) (v : Int) (hv : (inU 4294967296 v) = true) : DoesK Try.prog 1 11 [.ptr 0 0, .int .i64 2, .int .i64 v] [.pack (PW V)] (EndF 1 (.int .i64 0) ([.pack (PW ⟨V.a, V.b, v, V.d⟩)] ++ [])) := by
  have e : (bnI idP 2, bnB idP 2) = (2, true) := by decide
  have s2 : idP.length ≤ 1000000 := by decide
  have s3 := idP_srt
  have s5 : 2 < V.l.length := by show 2 < 4; omega
  have hx : V.l.getD 2 Pdf.zero = ⟨2, 32, false, V.c⟩ := rfl
  have hz : decide (¬ (0 : Int) = 0) = false := by decide
  have hlst : V.l.set 2 ⟨2, 32, false, v⟩ = Pv.l ⟨V.a, V.b, v, V.d⟩ := rfl
  obtain ⟨vs, hvs⟩ : ∃ vs, V.l = vs := ⟨_, rfl⟩
  have hvl : vs.length = 4 := by rw [← hvs]; rfl
  unfold PW
  rw [← hlst, hvs]
  rw [hvs] at s5 hx
  refine DoesK.close ?_
  refine w_body (rs := [.tmp 6]) (tm := [.ptr 0 0, .int .i64 2, .int .i64 v, .any, .any, .any, .any, .any, .any, .any, .any, .any, .any, .any, .any, .any, .any, .any, .any, .any, .any, .any, .any, .any, .any, .any, .any, .any]) fn_11 rfl rfl rfl rfl fun R hR => ?_
  unfold PL
  refine w_open 0 rfl rfl ?_
  simp only [go_sem, decide_true, decide_false, Int.reduceToNat, Nat.min_eq_left, Nat.min_eq_right, Int.reducePow, Nat.reducePow, Int.reduceLE, Int.reduceLT, Int.reduceMul, Int.reduceAdd, Int.reduceSub, Int.reduceNeg, Bool.not_true, Bool.not_false, Bool.not_not, ↓reduceIte, Nat.reduceAdd, Nat.reduceSub, Nat.reduceMul, Nat.reduceEqDiff, reduceCtorEq, Nat.reduceLT, Nat.reduceLeDiff, Nat.reduceGT]
  (have zx1 := @hz; have zx2 := @hx; have zx3 := @hv; all_goals (try ((with_reducible first | refine wp_id ?_ | refine does_id ?_ | refine ops_id ?_); refine walk ?_; (repeat' (first | exact trivial | with_reducible refine And.intro ?_ ?_)); all_goals (repeat with_reducible first | refine ImpB.mk fun hb => ?_ | refine ImpK.mk fun hK => ?_ | refine ImpF.mk fun hF => ?_ | refine ImpQ.mk fun hp => ?_ | refine AllE.mk fun p => ?_ | refine AllR.mk fun rest => ?_ | refine AllK.mk fun K => ?_))); repeat' (with_reducible refine And.intro ?_ ?_))
  · exact s5
  · (focus (refine ⟨_, _, gh_close (t := 0) (ts := [1, 2]) (l := PL idP (vs.set 2 ⟨2, 32, false, v⟩)) ⟨⟨_, _, rfl⟩, ?_, by simp⟩, [0], rfl, ?_⟩; all_goals (refine fitq ?_ ?_ ?_ <;> try exact trivial); (try any_goals (refine ⟨?_, ?_⟩)); (try any_goals (with_reducible rfl))))
    all_goals (repeat' (first | (refine And.intro ?_ ?_) | rfl | (rw [List.length_set])))
theorem b_setF2 (V : Pv) (v : Int) (hv : (inU 4294967296 v) = false) : DoesK Try.prog 1 11 [.ptr 0 0, .int .i64 2, .int .i64 v] [.pack (PW V)] (EndF 1 (.int .i64 1) ([.pack (PW V)] ++ [])) := by
  have e : (bnI idP 2, bnB idP 2) = (2, true) := by decide
  have s2 : idP.length ≤ 1000000 := by decide
  have s3 := idP_srt
  have s5 : 2 < V.l.length := by show 2 < 4; omega
  have hx : V.l.getD 2 Pdf.zero = ⟨2, 32, false, V.c⟩ := rfl
  have hz : decide (¬ (0 : Int) = 0) = false := by decide
  obtain ⟨vs, hvs⟩ : ∃ vs, V.l = vs := ⟨_, rfl⟩
  unfold PW
  rw [hvs]
  rw [hvs] at s5 hx
  refine DoesK.close ?_
  refine w_body (rs := [.tmp 6]) (tm := [.ptr 0 0, .int .i64 2, .int .i64 v, .any, .any, .any, .any, .any, .any, .any, .any, .any, .any, .any, .any, .any, .any, .any, .any, .any, .any, .any, .any, .any, .any, .any, .any, .any]) fn_11 rfl rfl rfl rfl fun R hR => ?_
  unfold PL
  refine w_open 0 rfl rfl ?_
  simp only [go_sem, decide_true, decide_false, Int.reduceToNat, Nat.min_eq_left, Nat.min_eq_right, Int.reducePow, Nat.reducePow, Int.reduceLE, Int.reduceLT, Int.reduceMul, Int.reduceAdd, Int.reduceSub, Int.reduceNeg, Bool.not_true, Bool.not_false, Bool.not_not, ↓reduceIte, Nat.reduceAdd, Nat.reduceSub, Nat.reduceMul, Nat.reduceEqDiff, reduceCtorEq, Nat.reduceLT, Nat.reduceLeDiff, Nat.reduceGT]
  (have zx1 := @hz; have zx2 := @hx; have zx3 := @hv; all_goals (try ((with_reducible first | refine wp_id ?_ | refine does_id ?_ | refine ops_id ?_); refine walk ?_; (repeat' (first | exact trivial | with_reducible refine And.intro ?_ ?_)); all_goals (repeat with_reducible first | refine ImpB.mk fun hb => ?_ | refine ImpK.mk fun hK => ?_ | refine ImpF.mk fun hF => ?_ | refine ImpQ.mk fun hp => ?_ | refine AllE.mk fun p => ?_ | refine AllR.mk fun rest => ?_ | refine AllK.mk fun K => ?_))); repeat' (with_reducible refine And.intro ?_ ?_))
  · exact s5
  · (focus (refine ⟨_, _, gh_close (t := 0) (ts := [1, 2]) (l := PL idP vs) ⟨⟨_, _, rfl⟩, ?_, by simp⟩, [0], rfl, ?_⟩; all_goals (refine fitq ?_ ?_ ?_ <;> try exact trivial); (try any_goals (refine ⟨?_, ?_⟩)); (try any_goals (with_reducible rfl))))
    all_goals (repeat' (first | (refine And.intro ?_ ?_) | rfl))
theorem b_setT3 (V : Pv) (v : Int) (hv : (inU 256 v) = true) : DoesK Try.prog 1 11 [.ptr 0 0, .int .i64 3, .int .i64 v] [.pack (PW V)] (EndF 1 (.int .i64 0) ([.pack (PW ⟨V.a, V.b, V.c, v⟩)] ++ [])) := by
  have e : (bnI idP 3, bnB idP 3) = (3, true) := by decide
  have s2 : idP.length ≤ 1000000 := by decide
  have s3 := idP_srt
  have s5 : 3 < V.l.length := by show 3 < 4; omega
  have hx : V.l.getD 3 Pdf.zero = ⟨3, 8, false, V.d⟩ := rfl
  have hz : decide (¬ (0 : Int) = 0) = false := by decide
  have hlst : V.l.set 3 ⟨3, 8, false, v⟩ = Pv.l ⟨V.a, V.b, V.c, v⟩ := rfl
  obtain ⟨vs, hvs⟩ : ∃ vs, V.l = vs := ⟨_, rfl⟩
  have hvl : vs.length = 4 := by rw [← hvs]; rfl
  unfold PW
  rw [← hlst, hvs]
  rw [hvs] at s5 hx
  refine DoesK.close ?_
  refine w_body (rs := [.tmp 6]) (tm := [.ptr 0 0, .int .i64 3, .int .i64 v, .any, .any, .any, .any, .any, .any, .any, .any, .any, .any, .any, .any, .any, .any, .any, .any, .any, .any, .any, .any, .any, .any, .any, .any, .any]) fn_11 rfl rfl rfl rfl fun R hR => ?_
  unfold PL
  refine w_open 0 rfl rfl ?_
  simp only [go_sem, decide_true, decide_false, Int.reduceToNat, Nat.min_eq_left, Nat.min_eq_right, Int.reducePow, Nat.reducePow, Int.reduceLE, Int.reduceLT, Int.reduceMul, Int.reduceAdd, Int.reduceSub, Int.reduceNeg, Bool.not_true, Bool.not_false, Bool.not_not, ↓reduceIte, Nat.reduceAdd, Nat.reduceSub, Nat.reduceMul, Nat.reduceEqDiff, reduceCtorEq, Nat.reduceLT, Nat.reduceLeDiff, Nat.reduceGT]
  (have zx1 := @hz; have zx2 := @hx; have zx3 := @hv; all_goals (try ((with_reducible first | refine wp_id ?_ | refine does_id ?_ | refine ops_id ?_); refine walk ?_; (repeat' (first | exact trivial | with_reducible refine And.intro ?_ ?_)); all_goals (repeat with_reducible first | refine ImpB.mk fun hb => ?_ | refine ImpK.mk fun hK => ?_ | refine ImpF.mk fun hF => ?_ | refine ImpQ.mk fun hp => ?_ | refine AllE.mk fun p => ?_ | refine AllR.mk fun rest => ?_ | refine AllK.mk fun K => ?_))); repeat' (with_reducible refine And.intro ?_ ?_))
  · exact s5
  · (focus (refine ⟨_, _, gh_close (t := 0) (ts := [1, 2]) (l := PL idP (vs.set 3 ⟨3, 8, false, v⟩)) ⟨⟨_, _, rfl⟩, ?_, by simp⟩, [0], rfl, ?_⟩; all_goals (refine fitq ?_ ?_ ?_ <;> try exact trivial); (try any_goals (refine ⟨?_, ?_⟩)); (try any_goals (with_reducible rfl))))
    all_goals (repeat' (first | (refine And.intro ?_ ?_) | rfl | (rw [List.length_set])))
theorem b_setF3 (V : Pv) (v : Int) (hv : (inU 256 v) = false) : DoesK Try.prog 1 11 [.ptr 0 0, .int .i64 3, .int .i64 v] [.pack (PW V)] (EndF 1 (.int .i64 1) ([.pack (PW V)] ++ [])) := by
  have e : (bnI idP 3, bnB idP 3) = (3, true) := by decide
  have s2 : idP.length ≤ 1000000 := by decide
  have s3 := idP_srt
  have s5 : 3 < V.l.length := by show 3 < 4; omega
  have hx : V.l.getD 3 Pdf.zero = ⟨3, 8, false, V.d⟩ := rfl
  have hz : decide (¬ (0 : Int) = 0) = false := by decide
  obtain ⟨vs, hvs⟩ : ∃ vs, V.l = vs := ⟨_, rfl⟩
  unfold PW
  rw [hvs]
  rw [hvs] at s5 hx
  refine DoesK.close ?_
  refine w_body (rs := [.tmp 6]) (tm := [.ptr 0 0, .int .i64 3, .int .i64 v, .any, .any, .any, .any, .any, .any, .any, .any, .any, .any, .any, .any, .any, .any, .any, .any, .any, .any, .any, .any, .any, .any, .any, .any, .any]) fn_11 rfl rfl rfl rfl fun R hR => ?_
  unfold PL
  refine w_open 0 rfl rfl ?_
  simp only [go_sem, decide_true, decide_false, Int.reduceToNat, Nat.min_eq_left, Nat.min_eq_right, Int.reducePow, Nat.reducePow, Int.reduceLE, Int.reduceLT, Int.reduceMul, Int.reduceAdd, Int.reduceSub, Int.reduceNeg, Bool.not_true, Bool.not_false, Bool.not_not, ↓reduceIte, Nat.reduceAdd, Nat.reduceSub, Nat.reduceMul, Nat.reduceEqDiff, reduceCtorEq, Nat.reduceLT, Nat.reduceLeDiff, Nat.reduceGT]
  (have zx1 := @hz; have zx2 := @hx; have zx3 := @hv; all_goals (try ((with_reducible first | refine wp_id ?_ | refine does_id ?_ | refine ops_id ?_); refine walk ?_; (repeat' (first | exact trivial | with_reducible refine And.intro ?_ ?_)); all_goals (repeat with_reducible first | refine ImpB.mk fun hb => ?_ | refine ImpK.mk fun hK => ?_ | refine ImpF.mk fun hF => ?_ | refine ImpQ.mk fun hp => ?_ | refine AllE.mk fun p => ?_ | refine AllR.mk fun rest => ?_ | refine AllK.mk fun K => ?_))); repeat' (with_reducible refine And.intro ?_ ?_))
  · exact s5
  · (focus (refine ⟨_, _, gh_close (t := 0) (ts := [1, 2]) (l := PL idP vs) ⟨⟨_, _, rfl⟩, ?_, by simp⟩, [0], rfl, ?_⟩; all_goals (refine fitq ?_ ?_ ?_ <;> try exact trivial); (try any_goals (refine ⟨?_, ?_⟩)); (try any_goals (with_reducible rfl))))
    all_goals (repeat' (first | (refine And.intro ?_ ?_) | rfl))
theorem b_setW (V : Pv) (t v : Int) : DoesK Try.prog 1 11 [.ptr 0 0, .int .i64 t, .int .i64 v] [.pack (PW V)] (EndF 1 (.int .i64 (setE t v)) ([.pack (PW (V.set t v))] ++ [])) := by
  by_cases hn : t = 0 ∨ t = 1 ∨ t = 2 ∨ t = 3
  · rcases hn with rfl | rfl | rfl | rfl
    · cases hv : inS v with
      | true => have h := b_setT0 V v hv; have e1 : setE 0 v = 0 := by simp [setE, inP, hv]
                have e2 : V.set 0 v = ⟨v, V.b, V.c, V.d⟩ := by simp [Pv.set, inP, hv]
                rw [e1, e2]; exact h
      | false => have h := b_setF0 V v hv; have e1 : setE 0 v = 1 := by simp [setE, inP, hv]
                 have e2 : V.set 0 v = V := by simp [Pv.set, inP, hv]
                 rw [e1, e2]; exact h
    · cases hv : inS v with
      | true => have h := b_setT1 V v hv; have e1 : setE 1 v = 0 := by simp [setE, inP, hv]
                have e2 : V.set 1 v = ⟨V.a, v, V.c, V.d⟩ := by simp [Pv.set, inP, hv]
                rw [e1, e2]; exact h
      | false => have h := b_setF1 V v hv; have e1 : setE 1 v = 1 := by simp [setE, inP, hv]
                 have e2 : V.set 1 v = V := by simp [Pv.set, inP, hv]
                 rw [e1, e2]; exact h
    · cases hv : inU 4294967296 v with
      | true => have h := b_setT2 V v hv; have e1 : setE 2 v = 0 := by simp [setE, inP, hv]
                have e2 : V.set 2 v = ⟨V.a, V.b, v, V.d⟩ := by simp [Pv.set, inP, hv]
                rw [e1, e2]; exact h
      | false => have h := b_setF2 V v hv; have e1 : setE 2 v = 1 := by simp [setE, inP, hv]
                 have e2 : V.set 2 v = V := by simp [Pv.set, inP, hv]
                 rw [e1, e2]; exact h
    · cases hv : inU 256 v with
      | true => have h := b_setT3 V v hv; have e1 : setE 3 v = 0 := by simp [setE, inP, hv]
                have e2 : V.set 3 v = ⟨V.a, V.b, V.c, v⟩ := by simp [Pv.set, inP, hv]
                rw [e1, e2]; exact h
      | false => have h := b_setF3 V v hv; have e1 : setE 3 v = 1 := by simp [setE, inP, hv]
                 have e2 : V.set 3 v = V := by simp [Pv.set, inP, hv]
                 rw [e1, e2]; exact h
  · have hi : inP t v = false := by
      unfold inP
      rw [if_neg (by omega), if_neg (by omega), if_neg (by omega)]
    have h := b_setN V t v hn
    have e1 : setE t v = 8 := by unfold setE; rw [if_neg (by rw [hi]; decide), if_neg hn]
    have e2 : V.set t v = V := by unfold Pv.set; rw [if_neg (by rw [hi]; decide)]
    rw [e1, e2]; exact h
theorem c_setW {h : List Ch} {K : KT} {u : Nat} {V : Pv} {t v : Int} (H : K (.int .i64 (setE t v)) (h.set u (.pack (PW (V.set t v))))) (o : hth h u = .pack (PW V)) : Does Try.prog 11 [.ptr u 0, .int .i64 t, .int .i64 v] h K :=
  frame_obj0 (b_setW V t v) o (by simp) (fitC_pack _) (br_cons (br_ptr rfl) (br_cons br_int (br_cons br_int br_nil))) (.inl rfl) (fun _ => rfl) rfl H
abbrev i_setW := Ctr.mk (i := 1) (g := 11) @c_setW
attribute [instance] i_setW
theorem b_getS (V : Pv) (t v : Int) (hg : V.get t = some v) : DoesK Try.prog 1 29 [.ptr 0 0, .int .i64 t] [.pack (PW V)] (EndF 1 (.tup [.int .i64 v, .int .i64 0]) ([.pack (PW V)] ++ [])) := by
  unfold Pv.get at hg
  by_cases h0 : t = 0
  · subst h0
    cases hg
    exact b_get idP V.l 0 0 (by decide) (by decide) idP_srt (by show 0 < 4; omega)
  rw [if_neg h0] at hg
  by_cases h1 : t = 1
  · subst h1
    cases hg
    exact b_get idP V.l 1 1 (by decide) (by decide) idP_srt (by show 1 < 4; omega)
  rw [if_neg h1] at hg
  by_cases h2 : t = 2
  · subst h2
    cases hg
    exact b_get idP V.l 2 2 (by decide) (by decide) idP_srt (by show 2 < 4; omega)
  rw [if_neg h2] at hg
  by_cases h3 : t = 3
  · subst h3
    cases hg
    exact b_get idP V.l 3 3 (by decide) (by decide) idP_srt (by show 3 < 4; omega)
  rw [if_neg h3] at hg
  cases hg
theorem c_getS {h : List Ch} {K : KT} {u : Nat} {V : Pv} {t v : Int} (H : K (.tup [.int .i64 v, .int .i64 0]) h) (o : hth h u = .pack (PW V)) (e1 : V.get t = some v) : Does Try.prog 29 [.ptr u 0, .int .i64 t] h K :=
  frame_look (b_getS V t v e1) o (by simp) (fitC_pack _) (br_cons (br_ptr rfl) (br_cons br_int br_nil)) (.inl rfl) (fun _ => rfl) rfl H
abbrev i_getS := Ctr.mk (i := 1) (g := 29) @c_getS
attribute [instance] i_getS
theorem c_getN {h : List Ch} {K : KT} {u : Nat} {V : Pv} {t : Int} (H : K (.tup [.int .i64 0, .int .i64 8]) h) (o : hth h u = .pack (PW V)) (e1 : V.get t = none) : Does Try.prog 29 [.ptr u 0, .int .i64 t] h K := by
  have hn : ¬ (t = 0 ∨ t = 1 ∨ t = 2 ∨ t = 3) := by
    rintro (rfl | rfl | rfl | rfl) <;> simp [Pv.get] at e1
  exact frame_look (b_getN V t hn) o (by simp) (fitC_pack _) (br_cons (br_ptr rfl) (br_cons br_int br_nil)) (.inl rfl) (fun _ => rfl) rfl H
abbrev i_getN := Ctr.mk (i := 2) (g := 29) @c_getN
attribute [instance] i_getN
end Go.V
