/-
  monitor: Clone of a service of any size.
  params, the reference: find, Get, Set over the pool of the laws.
-/
import Derived.Test.YtifighagbpjogaaPart20
set_option linter.unusedVariables false
set_option linter.unusedSimpArgs false
set_option maxRecDepth 100000
set_option maxHeartbeats 8000000
namespace Go.V
open Go.Proofs
attribute [-go_sem] SL PL
/-- a chunk that lies right in a memory of n chunks -/
structure goodC (n : Nat) (c : Ch) : Prop where
  fit : ∀ σ : List Nat, (∀ i, i < n → σ[i]? = some i) → fitC σ c c
  ns : nsC c
theorem Okm.upd {g g' : List Ch} (a : Okm g) (hl : g.length ≤ g'.length) (H : ∀ i, i < g'.length → (i < g.length ∧ hth g' i = hth g i) ∨ goodC g'.length (hth g' i)) : Okm g' := by
  refine ⟨fun σ hσ i hi => ?_, fun i hi => ?_⟩
  · rcases H i hi with ⟨q1, q2⟩ | q
    · rw [q2]; exact a.self σ (fun j hj => hσ j (by omega)) i q1
    · exact q.fit σ hσ
  · rcases H i hi with ⟨q1, q2⟩ | q
    · rw [q2]; exact a.ns i q1
    · exact q.ns
theorem okm_grow {g L : List Ch} {u v : Nat} {c : Ch} (a : Okm g) (hu : u < g.length) (hc : goodC (g.length + L.length) c) (hL : ∀ x ∈ L, goodC (g.length + L.length) x) : Okm ((g.set v .gone).set u c ++ L) := by
  have e0 : ((g.set v .gone).set u c).length = g.length := by simp
  have e1 : ((g.set v .gone).set u c ++ L).length = g.length + L.length := by rw [List.length_append, e0]
  refine a.upd (by omega) fun i hi => ?_
  rw [e1] at hi ⊢
  by_cases c1 : i < g.length
  · rw [hth_app (by rw [e0]; exact c1)]
    by_cases c2 : u = i
    · subst c2; rw [hth_set_eq (by rw [List.length_set]; exact c1)]; exact .inr hc
    · rw [hth_set_ne c2]
      by_cases c3 : v = i
      · subst c3; rw [hth_set_eq c1]; exact .inr ⟨fun _ _ => trivial, ns_gone⟩
      · rw [hth_set_ne c3]; exact .inl ⟨c1, rfl⟩
  · obtain ⟨j, rfl⟩ : ∃ j, i = g.length + j := ⟨i - g.length, by omega⟩
    have e2 : hth ((g.set v .gone).set u c ++ L) (g.length + j) = hth L j := by
      conv => lhs; arg 2; rw [← e0]
      exact hth_app_r
    rw [e2, hth_get0 (by omega)]
    exact .inr (hL _ (List.getElem_mem _))
theorem okm_grow1 {g L : List Ch} {u : Nat} {c : Ch} (a : Okm g) (hu : u < g.length) (hc : goodC (g.length + L.length) c) (hL : ∀ x ∈ L, goodC (g.length + L.length) x) : Okm (g.set u c ++ L) := by
  have := okm_grow (v := g.length) (L := L) a hu hc hL
  rwa [List.set_eq_of_length_le (Nat.le_refl _)] at this
theorem good_main {now : Int} {v n k : Nat} (h : v < n) : goodC n (.cells [.bool true, .int .i64 now, .csl v k 1]) := ⟨fun _ hσ => ⟨rfl, ⟨rfl, rfl⟩, ⟨hσ _ h, rfl, rfl⟩, trivial⟩, ns_main _ _ _⟩
theorem good_enC {e : Sm} {d n : Nat} (h : d < n) : goodC n (.cells (enC e d)) := ⟨fun _ hσ => enC_fit (hσ _ h), ns_enC _ _⟩
theorem good_dlV {e : Sm} {n : Nat} : goodC n (.cells (dlV e)) := ⟨fun σ _ => dlV_fit σ e, ns_dlV e⟩
theorem good_ptA {ts : List (Nat × Nat)} {n : Nat} (h : ∀ i, i < ts.length → (ts.getD i (0, 0)).1 < n) : goodC n (.crow (ptA ts)) := ⟨fun _ hσ => ⟨rfl, ptA_fit2 fun i hi => hσ _ (h i hi)⟩, ns_ptA _⟩
/-- places that do not change -/
theorem Srv.other {h h' : List Ch} {u v : Nat} {ts : List (Nat × Nat)} {now : Int} {es : List Sm} (A : Srv h u v ts now es) (hl : h.length ≤ h'.length) (hs : ∀ t ∈ u :: v :: ilv ts, hth h' t = hth h t) : Srv h' u v ts now es := by
  refine ⟨A.pos, by rw [hs u (by simp)]; exact A.o, by rw [hs v (by simp)]; exact A.o1, A.len, fun i hi => ?_, fun i hi => ?_, A.nd⟩
  · have := ilv_mem (ts := ts) (i := i) (by rw [A.len]; exact hi)
    rw [hs _ (List.mem_cons_of_mem _ (List.mem_cons_of_mem _ this.1))]; exact A.ent i hi
  · have := ilv_mem (ts := ts) (i := i) (by rw [A.len]; exact hi)
    rw [hs _ (List.mem_cons_of_mem _ (List.mem_cons_of_mem _ this.2))]
    exact ⟨by have := (A.dl i hi).1; omega, (A.dl i hi).2⟩
theorem growL {g L : List Ch} {u v t : Nat} {c : Ch} (hu : t ≠ u) (hv : t ≠ v) (ht : t < g.length) : hth ((g.set v .gone).set u c ++ L) t = hth g t := by
  rw [hth_app (by simpa using ht), hth_set_ne (Ne.symm hu), hth_set_ne (Ne.symm hv)]
theorem growR {g L : List Ch} {u v q : Nat} {c : Ch} : hth ((g.set v .gone).set u c ++ L) (g.length + q) = hth L q := by
  have e0 : ((g.set v .gone).set u c).length = g.length := by simp
  conv => lhs; arg 2; rw [← e0]
  exact hth_app_r
theorem Srv.grow2 {h L : List Ch} {u v i d j : Nat} {ts : List (Nat × Nat)} {now : Int} {es : List Sm} {e : Sm} (A : Srv h u v ts now es) (x : hth L j = .crow (ptA ts ++ [.ptr (h.length + i) 0])) (y : hth L i = .cells (enC e (h.length + d))) (z : d < L.length) (z3 : e.m.kind = 3 → hth L d = .cells (dlV e)) (n : i ≠ d ∧ i ≠ j ∧ d ≠ j) :
    Srv ((h.set v .gone).set u (.cells [.bool true, .int .i64 now, .csl (h.length + j) (es.length + 1) 1]) ++ L) u (h.length + j) (ts ++ [(h.length + i, h.length + d)]) now (es ++ [e]) := by
  have hlt := A.lt
  have hlu : u < h.length := hlt u (by simp)
  obtain ⟨m1, m2⟩ := List.nodup_cons.1 A.nd
  obtain ⟨m3, m4⟩ := List.nodup_cons.1 m2
  have e0 : ((h.set v .gone).set u (.cells [.bool true, .int .i64 now, .csl (h.length + j) (es.length + 1) 1])).length = h.length := by simp
  refine A.push ?_ ?_ (by rw [List.length_append, e0]; omega) (fun t ht => ?_) ?_ ⟨by rw [List.length_append, e0]; omega, fun q => by rw [growR]; exact z3 q⟩ ⟨by omega, by omega, by omega⟩ ⟨by omega, by omega, by omega⟩
  · rw [hth_app (by rw [e0]; exact hlu)]
    exact hth_set_eq (by rw [List.length_set]; exact hlu)
  · rw [growR, x]
  · exact growL (fun q => m1 (by rw [← q]; exact List.mem_cons_of_mem _ ht)) (fun q => m3 (by rw [← q]; exact ht)) (hlt t (by simp [ht]))
  · rw [growR, y]
theorem Srv.one2 {h : List Ch} {u v p d : Nat} {now : Int} {e : Sm} (o : hth h u = .cells [.bool true, .int .i64 now, .csl v 1 1]) (o1 : hth h v = .crow [.ptr p 0]) (y : hth h p = .cells (enC e d)) (z : d < h.length) (z3 : e.m.kind = 3 → hth h d = .cells (dlV e)) (n : [u, v, p, d].Nodup) : Srv h u v [(p, d)] now [e] := by
  refine ⟨by simp, o, o1, rfl, fun i hi => ?_, fun i hi => ?_, n⟩
  · have : i = 0 := by simp at hi; exact hi
    subst this; exact y
  · have : i = 0 := by simp at hi; exact hi
    subst this; exact ⟨z, z3⟩
theorem end_twoS {h : List Ch} {u v w : Nat} {ts ss : List (Nat × Nat)} {now : Int} {es : List Sm} (a : Srv h 0 v ts now es) (b : Srv h u w ss now es) (hd : ∀ t ∈ u :: w :: ilv ss, t ∉ 0 :: v :: ilv ts) : ∃ v' h2, Gh [.ptr u 0] h [v'] h2 ∧ EndF 1 (.ptr 1 0) ([.pack (SV now es)] ++ [.pack (SV now es)]) v' h2 := by
  have hq : ∀ t ∈ u :: w :: ilv ss, hth (closeH h 0 (v :: ilv ts) (SV now es)) t = hth h t := fun t ht => by
    have := hd t ht
    exact closeH_ne (fun q => this (by rw [q]; simp)) (fun q => this (List.mem_cons_of_mem _ q))
  have hu0 : u ≠ 0 := fun q => hd u (by simp) (by rw [q]; simp)
  have b2 : Srv (closeH h 0 (v :: ilv ts) (SV now es)) u w ss now es := b.other (by rw [closeH_len]; exact Nat.le_refl _) hq
  have h0 : 0 < h.length := hth_lt (by rw [a.o]; simp)
  have hul : u < h.length := hth_lt (by rw [b.o]; simp)
  have hc : hth (closeH (closeH h 0 (v :: ilv ts) (SV now es)) u (w :: ilv ss) (SV now es)) 0 = .pack (SV now es) := by
    rw [closeH_ne (Ne.symm hu0) (fun q => hd 0 (List.mem_cons_of_mem _ q) (by simp))]
    unfold closeH
    exact hth_set_eq (by rw [goneH_len]; exact h0)
  have hc2 : hth (closeH (closeH h 0 (v :: ilv ts) (SV now es)) u (w :: ilv ss) (SV now es)) u = .pack (SV now es) := by
    show hth ((goneH _ _).set u _) u = _
    exact hth_set_eq (by rw [goneH_len, closeH_len]; exact hul)
  refine ⟨_, _, Gh.trans (gh_close a.shut) (gh_close b2.shut), [0, u], rfl, ⟨⟨rfl, rfl⟩, trivial⟩, ⟨hth_lt (by rw [hc]; simp), by rw [hc]; exact rfl, hth_lt (by rw [hc2]; simp), by rw [hc2]; exact rfl, trivial⟩, ?_⟩
  simp [Ne.symm hu0]
theorem take_at {es : List Sm} {k : Nat} (hk : k < es.length) : es.take (k + 1) = es.take k ++ [eAtS es k] := by
  have e0 : eAtS es k = es[k] := by show es.getD k Sm.zero = _; rw [List.getD_eq_getElem?_getD, List.getElem?_eq_getElem hk]; rfl
  rw [e0]; exact List.take_succ_eq_append_getElem hk
/-- the round's state -/
structure ClI (L0 : Nat) (ts : List (Nat × Nat)) (now : Int) (es : List Sm) (x : Nat × List Ch × Nat × List (Nat × Nat)) : Prop where
  le : x.1 ≤ es.length
  srv : Srv x.2.1 0 1 ts now es
  ok : Okm x.2.1
  fst : x.1 = 0 → hth x.2.1 L0 = .cells [.bool true, .int .i64 now, .lit (.slice none 0 0)]
  two : 0 < x.1 → Srv x.2.1 L0 x.2.2.1 x.2.2.2 now (es.take x.1)
  new : 0 < x.1 → ∀ t ∈ L0 :: x.2.2.1 :: ilv x.2.2.2, L0 ≤ t
  len : L0 < x.2.1.length
theorem cl_step {L0 : Nat} {ts ts2 : List (Nat × Nat)} {now : Int} {es : List Sm} {k v2 : Nat} {g L : List Ch} {i d j : Nat} {e : Sm} (A : Srv g 0 1 ts now es) (O : Okm g) (T : Srv g L0 v2 ts2 now (es.take k)) (hN : ∀ t ∈ L0 :: v2 :: ilv ts2, L0 ≤ t) (hlt : ∀ t ∈ 0 :: 1 :: ilv ts, t < L0) (hk0 : 0 < k) (hk : k < es.length) (htk : es.take (k + 1) = es.take k ++ [e])
    (x : hth L j = .crow (ptA ts2 ++ [.ptr (g.length + i) 0])) (y : hth L i = .cells (enC e (g.length + d))) (z : d < L.length) (z3 : e.m.kind = 3 → hth L d = .cells (dlV e)) (n : i ≠ d ∧ i ≠ j ∧ d ≠ j) (hL : ∀ x ∈ L, goodC (g.length + L.length) x) :
    ClI L0 ts now es (k + 1, (g.set v2 .gone).set L0 (.cells [.bool true, .int .i64 now, .csl (g.length + j) (k + 1) 1]) ++ L, g.length + j, ts2 ++ [(g.length + i, g.length + d)]) := by
  have tl : (es.take k).length = k := by rw [List.length_take]; omega
  have hT := T.lt
  have hLg : L0 < g.length := hT L0 (by simp)
  have hv : L0 ≤ v2 := hN v2 (by simp)
  have hj : j < L.length := hth_lt (by rw [x]; simp)
  have T2 := T.grow2 (L := L) (e := e) x y z z3 n
  rw [tl, ← htk] at T2
  have el : ((g.set v2 .gone).set L0 (.cells [.bool true, .int .i64 now, .csl (g.length + j) (k + 1) 1]) ++ L).length = g.length + L.length := by rw [List.length_append]; simp
  refine ⟨hk, A.other (by dsimp only; rw [el]; omega) (fun t ht => ?_), okm_grow O hLg (good_main (by omega)) hL, fun q => absurd q (by omega), fun _ => T2, fun _ t ht => ?_, by dsimp only; rw [el]; omega⟩
  · have := hlt t ht
    exact growL (by omega) (by omega) (by omega)
  · rcases List.mem_cons.1 ht with q | q
    · rw [q]; exact Nat.le_refl _
    rcases List.mem_cons.1 q with q | q
    · rw [q]; show L0 ≤ g.length + j; omega
    · have q2 : t ∈ ilv (ts2 ++ [(g.length + i, g.length + d)]) := q
      rw [ilv_app] at q2
      rcases List.mem_append.1 q2 with q | q
      · exact hN t (List.mem_cons_of_mem _ (List.mem_cons_of_mem _ q))
      · simp [ilv] at q; omega
theorem cl_step0 {L0 : Nat} {ts : List (Nat × Nat)} {now : Int} {es : List Sm} {g L : List Ch} {i d j : Nat} {e : Sm} (A : Srv g 0 1 ts now es) (O : Okm g) (hLg : L0 < g.length) (hlt : ∀ t ∈ 0 :: 1 :: ilv ts, t < L0) (hk : 0 < es.length) (htk : es.take 1 = [e])
    (x : hth L j = .crow [.ptr (g.length + i) 0]) (y : hth L i = .cells (enC e (g.length + d))) (z : d < L.length) (z3 : e.m.kind = 3 → hth L d = .cells (dlV e)) (n : i ≠ d ∧ i ≠ j ∧ d ≠ j) (hL : ∀ x ∈ L, goodC (g.length + L.length) x) :
    ClI L0 ts now es (1, g.set L0 (.cells [.bool true, .int .i64 now, .csl (g.length + j) 1 1]) ++ L, g.length + j, [(g.length + i, g.length + d)]) := by
  have hj : j < L.length := hth_lt (by rw [x]; simp)
  have hi : i < L.length := hth_lt (by rw [y]; simp)
  have e0 : (g.set L0 (.cells [.bool true, .int .i64 now, .csl (g.length + j) 1 1])).length = g.length := by simp
  have el : (g.set L0 (.cells [.bool true, .int .i64 now, .csl (g.length + j) 1 1]) ++ L).length = g.length + L.length := by rw [List.length_append, e0]
  have hR : ∀ q, hth (g.set L0 (.cells [.bool true, .int .i64 now, .csl (g.length + j) 1 1]) ++ L) (g.length + q) = hth L q := fun q => by
    conv => lhs; arg 2; rw [← e0]
    exact hth_app_r
  have T2 : Srv (g.set L0 (.cells [.bool true, .int .i64 now, .csl (g.length + j) 1 1]) ++ L) L0 (g.length + j) [(g.length + i, g.length + d)] now [e] := by
    refine Srv.one2 ?_ (by rw [hR, x]) (by rw [hR, y]) (by rw [el]; omega) (fun q => by rw [hR]; exact z3 q) ?_
    · rw [hth_app (by rw [e0]; exact hLg)]
      exact hth_set_eq hLg
    · simp; omega
  rw [← htk] at T2
  refine ⟨hk, A.other (by dsimp only; rw [el]; omega) (fun t ht => ?_), okm_grow1 O hLg (good_main (by omega)) hL, fun q => absurd q (by simp), fun _ => T2, fun _ t ht => ?_, by dsimp only; rw [el]; omega⟩
  · have := hlt t ht
    dsimp only
    rw [hth_app (by rw [e0]; omega), hth_set_ne (by omega)]
  · simp [ilv] at ht; omega
theorem crow_good {n : Nat} {l : List (Nat × Nat)} {a b : Nat} (h : ∀ i, i < l.length → (l.getD i (0, 0)).1 < n) (hp : a < n) (hb : b = 0) : goodC n (.crow (ptA l ++ [.ptr a b])) := by
  subst hb
  have e : ptA l ++ [.ptr a 0] = ptA (l ++ [(a, 0)]) := by rw [ptA_app]; rfl
  rw [e]
  refine good_ptA fun i hi => ?_
  rw [List.length_append] at hi
  by_cases c : i < l.length
  · rw [List.getD_eq_getElem?_getD, List.getElem?_append_left c, ← List.getD_eq_getElem?_getD]; exact h i c
  · have : i = l.length := by simp at hi; omega
    subst this
    rw [List.getD_eq_getElem?_getD, List.getElem?_concat_length]; exact hp
theorem LN_good {n : Nat} {e : Sm} {ts2 : List (Nat × Nat)} {c : AV} {h0 : Nat} (hc : ckA e.m (h0 + 1) = c) (h2 : ∀ i, i < ts2.length → (ts2.getD i (0, 0)).1 < n) (hn : h0 + 3 ≤ n) : ∀ x ∈ ([.cells (enX e.m c e.off e.st e.res e.run), .crow [.ptr h0 0], .crow (ptA ts2 ++ [.ptr h0 0])] : List Ch), goodC n x := fun x hx => by
  rcases List.mem_cons.1 hx with rfl | hx
  · have : enX e.m c e.off e.st e.res e.run = enC e (h0 + 1) := by rw [← hc]; rfl
    rw [this]; exact good_enC (by omega)
  rcases List.mem_cons.1 hx with rfl | hx
  · exact crow_good (l := []) (fun i hi => absurd hi (Nat.not_lt_zero i)) (by omega) rfl
  rw [List.mem_singleton.1 hx]
  exact crow_good h2 (by omega) rfl
theorem LD_good {n : Nat} {e : Sm} {ts2 : List (Nat × Nat)} {c : AV} {h0 : Nat} (hc : ckA e.m (h0 + 1) = c) (h2 : ∀ i, i < ts2.length → (ts2.getD i (0, 0)).1 < n) (hn : h0 + 4 ≤ n) : ∀ x ∈ ([.cells (enX e.m c e.off e.st e.res e.run), .cells (dlV e), .crow [.ptr h0 0], .crow (ptA ts2 ++ [.ptr h0 0])] : List Ch), goodC n x := fun x hx => by
  rcases List.mem_cons.1 hx with rfl | hx
  · have : enX e.m c e.off e.st e.res e.run = enC e (h0 + 1) := by rw [← hc]; rfl
    rw [this]; exact good_enC (by omega)
  rcases List.mem_cons.1 hx with rfl | hx
  · exact good_dlV
  rcases List.mem_cons.1 hx with rfl | hx
  · exact crow_good (l := []) (fun i hi => absurd hi (Nat.not_lt_zero i)) (by omega) rfl
  rw [List.mem_singleton.1 hx]
  exact crow_good h2 (by omega) rfl
theorem b_cloneE (now : Int) (es : List Sm) (hp : 0 < es.length) (hl : es.length ≤ 256) (hck : ∀ k, k < es.length → okE (eAtS es k).m) :
    DoesK Try.prog 1 20 [.ptr 0 0] [.pack (SV now es)] (EndF 1 (.ptr 1 0) ([.pack (SV now es)] ++ [.pack (SV now es)])) := by
  refine DoesK.close ?_
  refine w_body (rs := [.tmp 2]) (tm := [.ptr 0 0, .any, .any, .any, .any, .any, .any, .any, .any, .any, .any, .any, .any, .any, .any, .any, .any, .any, .any, .any, .any, .any, .any, .any, .any, .any, .any, .any, .any, .any, .any, .any, .any, .any, .any, .any, .any, .any, .any, .any, .any, .any, .any, .any, .any, .any, .any, .any, .any, .any, .any, .any, .any, .any, .any, .any, .any, .any, .any, .any, .any, .any]) fn_20 rfl rfl rfl rfl fun R hR => ?_
  refine w_openSo (mid := []) hp ?_
  have A0 : Srv _ 0 1 _ now es := SVo_srv (now := now) (mid := []) hp
  have O0 := SVo_ok (now := now) (es := es) (mid := []) (fun c hc => by cases hc)
  change Srv _ 0 1 (plc 2 es.length) now es at A0
  generalize plc 2 es.length = ts at A0
  generalize SVo now es [] = h at A0 O0 ⊢
  have hlt := A0.lt
  obtain ⟨L0, hL0⟩ : ∃ L, h.length = L := ⟨_, rfl⟩
  rw [hL0] at hlt
  have oo : hth h 0 = .cells [.bool true, .int .i64 now, .csl 1 es.length 1] := A0.o
  have oo2 : ∀ l, hth (h ++ l) 0 = .cells [.bool true, .int .i64 now, .csl 1 es.length 1] := fun l => (A0.app l).o
  (have zx1 := @oo; have zx2 := @oo2; have zx3 := @hL0; all_goals (try ((with_reducible first | refine wp_id ?_ | refine does_id ?_ | refine ops_id ?_ | refine dw_id ?_); refine walk ?_; (repeat' (first | exact trivial | with_reducible refine And.intro ?_ ?_)); all_goals (repeat with_reducible first | refine ImpB.mk fun hb => ?_ | refine ImpK.mk fun hK => ?_ | refine ImpF.mk fun hF => ?_ | refine ImpQ.mk fun hp => ?_ | refine AllE.mk fun p => ?_ | refine AllR.mk fun rest => ?_ | refine AllK.mk fun K => ?_))); repeat' (with_reducible refine And.intro ?_ ?_))
  any_goals ((try (refine w_seq fun K hK => ?_)); (try (refine w_block ?_)); refine w_loopG (A := Nat × List Ch × Nat × List (Nat × Nat)) (ClI L0 ts now es) (fun x => es.length - x.1) (fun x => [(30, .int .i64 x.1)]) (fun x => x.2.1) ((0, h ++ [.cells [.bool true, .int .i64 now, .lit (.slice none 0 0)]], 0, [])) (ws := ?ws1) (tk := ?tk1) ?hw1 ?ht1 ?hi ?h0 ?LH1; (case hw1 => simp only [go_sem, decide_true, decide_false, Int.reduceToNat, Nat.min_eq_left, Nat.min_eq_right, Int.reducePow, Nat.reducePow, Int.reduceLE, Int.reduceLT, Int.reduceMul, Int.reduceAdd, Int.reduceSub, Int.reduceNeg, Bool.not_true, Bool.not_false, Bool.not_not, ↓reduceIte, Nat.reduceAdd, Nat.reduceSub, Nat.reduceMul, Nat.reduceEqDiff, reduceCtorEq, Nat.reduceLT, Nat.reduceLeDiff, Nat.reduceGT]; exact rfl); (case ht1 => simp only [go_sem, decide_true, decide_false, Int.reduceToNat, Nat.min_eq_left, Nat.min_eq_right, Int.reducePow, Nat.reducePow, Int.reduceLE, Int.reduceLT, Int.reduceMul, Int.reduceAdd, Int.reduceSub, Int.reduceNeg, Bool.not_true, Bool.not_false, Bool.not_not, ↓reduceIte, Nat.reduceAdd, Nat.reduceSub, Nat.reduceMul, Nat.reduceEqDiff, reduceCtorEq, Nat.reduceLT, Nat.reduceLeDiff, Nat.reduceGT]; exact rfl); (case' LH1 => rintro x E t hx hE ht; simp only [go_sem] at ht; subst ht; simp only [go_sem]; try dsimp only at hx))
  case hi => exact ⟨Nat.zero_le _, A0.app _, O0.app (fun c hc σ _ => by rw [List.mem_singleton.1 hc]; exact ⟨rfl, ⟨rfl, rfl⟩, rfl, trivial⟩) (fun c hc => by rw [List.mem_singleton.1 hc]; exact fun _ _ _ => ⟨rfl, fun _ => ⟨trivial, trivial, trivial, trivial⟩⟩), fun _ => by show hth (h ++ _) L0 = _; rw [← hL0]; exact hth_app_r (j := 0), fun q => absurd q (Nat.lt_irrefl _), fun q => absurd q (Nat.lt_irrefl _), by show L0 < (h ++ _).length; simp [hL0]⟩
  case h0 =>
    have h1l : 1 < L0 := hlt 1 (by simp)
    have O1 : Okm (h ++ [Ch.cells [.bool true, .int .i64 now, .lit (.slice none 0 0)]]) := O0.app (fun c hc σ _ => by rw [List.mem_singleton.1 hc]; exact ⟨rfl, ⟨rfl, rfl⟩, rfl, trivial⟩) (fun c hc => by rw [List.mem_singleton.1 hc]; exact fun _ _ _ => ⟨rfl, fun _ => ⟨trivial, trivial, trivial, trivial⟩⟩)
    have hM : (h ++ [Ch.cells [.bool true, .int .i64 now, .lit (.slice none 0 0)]]).length = L0 + 1 := by rw [List.length_append, hL0]; rfl
    refine at_sameS (show 1 ≤ (h ++ [Ch.cells [.bool true, .int .i64 now, .lit (.slice none 0 0)]]).length by omega) O1.self fun σ hσ => ?_
    have hσ2 : ∀ t, t ≤ L0 → σ[t]? = some t := fun z hz => hσ z (show z < (h ++ [Ch.cells [.bool true, .int .i64 now, .lit (.slice none 0 0)]]).length by omega)
    simp only [go_sem]
    (repeat' (first | (refine And.intro ?_ ?_) | (with_reducible rfl) | exact hσ2 _ (by omega) | exact trivial))
  case LH1 =>
    obtain ⟨k, g, v2, ts2⟩ := x
    obtain ⟨hk0, A, O, hfst, htwo, hnew, hLg⟩ := hx
    dsimp only at hk0 A O hfst htwo hnew hLg ⊢
    by_cases hk : k < es.length
    · have hkd : decide ((k : Int) < (es.length : Int)) = true := decide_eq_true (by omega)
      have hkw : IntKind.i64.wrap ((k : Int) + 1) = ((k + 1 : Nat) : Int) := by rw [wrap_i64 _ (by omega) (by omega)]; omega
      have hpk := ptA_at (l := ts) (i := k) (by rw [A.len]; exact hk)
      have hpl : (ptA ts).length = es.length := by rw [ptA_len, A.len]
      have hent := A.ent k hk
      have hdl := A.dl k hk
      have hm := hck k hk
      have hmem := ilv_mem (ts := ts) (i := k) (by rw [A.len]; exact hk)
      obtain ⟨p, hpe⟩ : ∃ p, (ts.getD k (0, 0)).1 = p := ⟨_, rfl⟩
      obtain ⟨d, hde⟩ : ∃ d, (ts.getD k (0, 0)).2 = d := ⟨_, rfl⟩
      rw [hpe, hde] at hent hmem
      rw [hde] at hdl
      rw [hpe] at hpk
      have hpg : p < g.length := hth_lt (by rw [hent]; simp)
      have htk := take_at hk
      obtain ⟨e, hee⟩ : ∃ e, eAtS es k = e := ⟨_, rfl⟩
      rw [hee] at hent hdl hm htk
      have fA : ∀ l, hth (g ++ l) 1 = .crow (ptA ts) := fun l => (A.app l).o1
      have fP : ∀ l, hth (g ++ l) p = .cells (enC e d) := fun l => by rw [hth_app hpg, hent]
      unfold enC at fP
      have fP0 := hent
      unfold enC at fP0
      have o := And.intro fA (And.intro A.o1 (And.intro fP fP0))
      have t2 := symH g
      have h1l : 1 < L0 := hlt 1 (by simp)
      rcases hm with hm | hm | hm
      · have hc := ckA_lim hm d
        have hc1 := ckA_lim hm (g.length + 1)
        rw [hc] at fP fP0 o
        by_cases hz : k = 0
        · subst hz
          have fm := hfst rfl
          have fM : ∀ l, hth (g ++ l) L0 = _ := fun l => (hth_app hLg).trans fm
          have t3 := symP hLg
          have hkd0 : decide ((0 : Int) < (es.length : Int)) = true := hkd
          have hkw0 : IntKind.i64.wrap 1 = ((1 : Nat) : Int) := by decide
          have oD := o
          have hC := cl_step0 (e := e) (L := [.cells (enX e.m _ e.off e.st e.res e.run), .crow [.ptr g.length 0], .crow ([.ptr g.length 0])]) (i := 0) (d := 1) (j := 2) A O hLg hlt hk htk rfl (by rw [show g.length + 1 = g.length + 1 from rfl]; show Ch.cells _ = Ch.cells (enC e (g.length + 1)); unfold enC; rw [hc1]) (by simp) (fun q => by have := hm.kind; omega) ⟨by decide, by decide, by decide⟩ (LN_good (ts2 := []) hc1 (fun i hi => absurd hi (Nat.not_lt_zero i)) (by simp))
          (have zx1 := @hkd0; have zx2 := @hkw0; have zx3 := @hpk; have zx4 := @hpl; have zx5 := @oD; have zx6 := @t2; have zx7 := @t3; have zx8 := @fM; all_goals (try ((with_reducible first | refine wp_id ?_ | refine does_id ?_ | refine ops_id ?_ | refine dw_id ?_); refine walk ?_; (repeat' (first | exact trivial | with_reducible refine And.intro ?_ ?_)); all_goals (repeat with_reducible first | refine ImpB.mk fun hb => ?_ | refine ImpK.mk fun hK => ?_ | refine ImpF.mk fun hF => ?_ | refine ImpQ.mk fun hp => ?_ | refine AllE.mk fun p => ?_ | refine AllR.mk fun rest => ?_ | refine AllK.mk fun K => ?_))); repeat' (with_reducible refine And.intro ?_ ?_))
          all_goals first | (show _ ≤ (_ : Int); omega) | (show _ < (_ : Int); omega) | (show _ ≤ (_ : Nat); omega) | (show _ < (_ : Nat); omega) | (exfalso; omega) | skip
          refine ⟨(1, _, _, _), ⟨hC, (by show es.length - (0 + 1) < es.length - 0; omega)⟩, ?_⟩
          dsimp only
          have hM := hC.len
          dsimp only at hM
          refine at_sameS (by omega) hC.ok.self fun σ hσ => ?_
          have hσ2 : ∀ t, t ≤ L0 → σ[t]? = some t := fun z hz => hσ z (by omega)
          simp only [go_sem]
          (repeat' (first | (refine And.intro ?_ ?_) | (with_reducible rfl) | exact hσ2 _ (by omega) | exact trivial))
        · have T := htwo (by omega)
          have hN := hnew (by omega)
          have tl : (es.take k).length = k := by rw [List.length_take]; omega
          have fm := T.o
          rw [tl] at fm
          have fr := T.o1
          have hlt2 := T.lt
          have hv2 : v2 < g.length := hlt2 v2 (by simp)
          have hne : L0 ≠ v2 := fun q => by have := (List.nodup_cons.1 T.nd).1; exact this (by rw [q]; simp)
          have fM : ∀ l, hth (g ++ l) L0 = _ := fun l => (hth_app hLg).trans fm
          have fR : ∀ l, hth (g ++ l) v2 = _ := fun l => (hth_app hv2).trans fr
          have fG : ∀ l, hth (g.set v2 .gone ++ l) L0 = _ := fun l => (hth_app (by rw [List.length_set]; exact hLg)).trans ((hth_set_ne (Ne.symm hne)).trans fm)
          have t3 : ∀ l c, (g.set v2 .gone ++ l).set L0 c = (g.set v2 .gone).set L0 c ++ l := fun l c => List.set_append_left _ _ (by rw [List.length_set]; exact hLg)
          have t4 := And.intro t3 (symS hv2 .gone)
          have hpo : (ptA ts2).length = k ∧ okCells (ptA ts2) := ⟨by rw [ptA_len, T.len, tl], ptA_cells ts2⟩
          have htk2 : List.take k (ptA ts2) = ptA ts2 := List.take_of_length_le (by omega)
          have oM := And.intro fM (And.intro fR fG)
          have oD := o
          have hC := cl_step (e := e) (L := [.cells (enX e.m _ e.off e.st e.res e.run), .crow [.ptr g.length 0], .crow (ptA ts2 ++ [.ptr g.length 0])]) (i := 0) (d := 1) (j := 2) A O T hN hlt (by omega) hk htk rfl (by show Ch.cells _ = Ch.cells (enC e (g.length + 1)); unfold enC; rw [hc1]) (by simp) (fun q => by have := hm.kind; omega) ⟨by decide, by decide, by decide⟩ (LN_good hc1 (fun i hi => by have := hlt2 _ (List.mem_cons_of_mem _ (List.mem_cons_of_mem _ (ilv_mem hi).1)); omega) (by simp))
          (have zx1 := @hkd; have zx2 := @hkw; have zx3 := @hpk; have zx4 := @hpl; have zx5 := @oD; have zx6 := @t2; have zx7 := @t4; have zx8 := @hpo; have zx9 := @oM; have zx10 := @htk2; all_goals (try ((with_reducible first | refine wp_id ?_ | refine does_id ?_ | refine ops_id ?_ | refine dw_id ?_); refine walk ?_; (repeat' (first | exact trivial | with_reducible refine And.intro ?_ ?_)); all_goals (repeat with_reducible first | refine ImpB.mk fun hb => ?_ | refine ImpK.mk fun hK => ?_ | refine ImpF.mk fun hF => ?_ | refine ImpQ.mk fun hp => ?_ | refine AllE.mk fun p => ?_ | refine AllR.mk fun rest => ?_ | refine AllK.mk fun K => ?_))); repeat' (with_reducible refine And.intro ?_ ?_))
          all_goals first | (show _ ≤ (_ : Int); omega) | (show _ < (_ : Int); omega) | (show _ ≤ (_ : Nat); omega) | (show _ < (_ : Nat); omega) | (exfalso; omega) | skip
          refine ⟨(k + 1, _, _, _), ⟨hC, (by show es.length - (k + 1) < es.length - k; omega)⟩, ?_⟩
          dsimp only
          have hM := hC.len
          dsimp only at hM
          refine at_sameS (by omega) hC.ok.self fun σ hσ => ?_
          have hσ2 : ∀ t, t ≤ L0 → σ[t]? = some t := fun z hz => hσ z (by omega)
          simp only [go_sem]
          (repeat' (first | (refine And.intro ?_ ?_) | (with_reducible rfl) | exact hσ2 _ (by omega) | exact trivial))
      · have hc := ckA_exp hm d
        have hc1 := ckA_exp hm (g.length + 1)
        rw [hc] at fP fP0 o
        by_cases hz : k = 0
        · subst hz
          have fm := hfst rfl
          have fM : ∀ l, hth (g ++ l) L0 = _ := fun l => (hth_app hLg).trans fm
          have t3 := symP hLg
          have hkd0 : decide ((0 : Int) < (es.length : Int)) = true := hkd
          have hkw0 : IntKind.i64.wrap 1 = ((1 : Nat) : Int) := by decide
          have oD := o
          have hC := cl_step0 (e := e) (L := [.cells (enX e.m _ e.off e.st e.res e.run), .crow [.ptr g.length 0], .crow ([.ptr g.length 0])]) (i := 0) (d := 1) (j := 2) A O hLg hlt hk htk rfl (by rw [show g.length + 1 = g.length + 1 from rfl]; show Ch.cells _ = Ch.cells (enC e (g.length + 1)); unfold enC; rw [hc1]) (by simp) (fun q => by have := hm.kind; omega) ⟨by decide, by decide, by decide⟩ (LN_good (ts2 := []) hc1 (fun i hi => absurd hi (Nat.not_lt_zero i)) (by simp))
          (have zx1 := @hkd0; have zx2 := @hkw0; have zx3 := @hpk; have zx4 := @hpl; have zx5 := @oD; have zx6 := @t2; have zx7 := @t3; have zx8 := @fM; all_goals (try ((with_reducible first | refine wp_id ?_ | refine does_id ?_ | refine ops_id ?_ | refine dw_id ?_); refine walk ?_; (repeat' (first | exact trivial | with_reducible refine And.intro ?_ ?_)); all_goals (repeat with_reducible first | refine ImpB.mk fun hb => ?_ | refine ImpK.mk fun hK => ?_ | refine ImpF.mk fun hF => ?_ | refine ImpQ.mk fun hp => ?_ | refine AllE.mk fun p => ?_ | refine AllR.mk fun rest => ?_ | refine AllK.mk fun K => ?_))); repeat' (with_reducible refine And.intro ?_ ?_))
          all_goals first | (show _ ≤ (_ : Int); omega) | (show _ < (_ : Int); omega) | (show _ ≤ (_ : Nat); omega) | (show _ < (_ : Nat); omega) | (exfalso; omega) | skip
          refine ⟨(1, _, _, _), ⟨hC, (by show es.length - (0 + 1) < es.length - 0; omega)⟩, ?_⟩
          dsimp only
          have hM := hC.len
          dsimp only at hM
          refine at_sameS (by omega) hC.ok.self fun σ hσ => ?_
          have hσ2 : ∀ t, t ≤ L0 → σ[t]? = some t := fun z hz => hσ z (by omega)
          simp only [go_sem]
          (repeat' (first | (refine And.intro ?_ ?_) | (with_reducible rfl) | exact hσ2 _ (by omega) | exact trivial))
        · have T := htwo (by omega)
          have hN := hnew (by omega)
          have tl : (es.take k).length = k := by rw [List.length_take]; omega
          have fm := T.o
          rw [tl] at fm
          have fr := T.o1
          have hlt2 := T.lt
          have hv2 : v2 < g.length := hlt2 v2 (by simp)
          have hne : L0 ≠ v2 := fun q => by have := (List.nodup_cons.1 T.nd).1; exact this (by rw [q]; simp)
          have fM : ∀ l, hth (g ++ l) L0 = _ := fun l => (hth_app hLg).trans fm
          have fR : ∀ l, hth (g ++ l) v2 = _ := fun l => (hth_app hv2).trans fr
          have fG : ∀ l, hth (g.set v2 .gone ++ l) L0 = _ := fun l => (hth_app (by rw [List.length_set]; exact hLg)).trans ((hth_set_ne (Ne.symm hne)).trans fm)
          have t3 : ∀ l c, (g.set v2 .gone ++ l).set L0 c = (g.set v2 .gone).set L0 c ++ l := fun l c => List.set_append_left _ _ (by rw [List.length_set]; exact hLg)
          have t4 := And.intro t3 (symS hv2 .gone)
          have hpo : (ptA ts2).length = k ∧ okCells (ptA ts2) := ⟨by rw [ptA_len, T.len, tl], ptA_cells ts2⟩
          have htk2 : List.take k (ptA ts2) = ptA ts2 := List.take_of_length_le (by omega)
          have oM := And.intro fM (And.intro fR fG)
          have oD := o
          have hC := cl_step (e := e) (L := [.cells (enX e.m _ e.off e.st e.res e.run), .crow [.ptr g.length 0], .crow (ptA ts2 ++ [.ptr g.length 0])]) (i := 0) (d := 1) (j := 2) A O T hN hlt (by omega) hk htk rfl (by show Ch.cells _ = Ch.cells (enC e (g.length + 1)); unfold enC; rw [hc1]) (by simp) (fun q => by have := hm.kind; omega) ⟨by decide, by decide, by decide⟩ (LN_good hc1 (fun i hi => by have := hlt2 _ (List.mem_cons_of_mem _ (List.mem_cons_of_mem _ (ilv_mem hi).1)); omega) (by simp))
          (have zx1 := @hkd; have zx2 := @hkw; have zx3 := @hpk; have zx4 := @hpl; have zx5 := @oD; have zx6 := @t2; have zx7 := @t4; have zx8 := @hpo; have zx9 := @oM; have zx10 := @htk2; all_goals (try ((with_reducible first | refine wp_id ?_ | refine does_id ?_ | refine ops_id ?_ | refine dw_id ?_); refine walk ?_; (repeat' (first | exact trivial | with_reducible refine And.intro ?_ ?_)); all_goals (repeat with_reducible first | refine ImpB.mk fun hb => ?_ | refine ImpK.mk fun hK => ?_ | refine ImpF.mk fun hF => ?_ | refine ImpQ.mk fun hp => ?_ | refine AllE.mk fun p => ?_ | refine AllR.mk fun rest => ?_ | refine AllK.mk fun K => ?_))); repeat' (with_reducible refine And.intro ?_ ?_))
          all_goals first | (show _ ≤ (_ : Int); omega) | (show _ < (_ : Int); omega) | (show _ ≤ (_ : Nat); omega) | (show _ < (_ : Nat); omega) | (exfalso; omega) | skip
          refine ⟨(k + 1, _, _, _), ⟨hC, (by show es.length - (k + 1) < es.length - k; omega)⟩, ?_⟩
          dsimp only
          have hM := hC.len
          dsimp only at hM
          refine at_sameS (by omega) hC.ok.self fun σ hσ => ?_
          have hσ2 : ∀ t, t ≤ L0 → σ[t]? = some t := fun z hz => hσ z (by omega)
          simp only [go_sem]
          (repeat' (first | (refine And.intro ?_ ?_) | (with_reducible rfl) | exact hσ2 _ (by omega) | exact trivial))
      · have hc := ckA_del hm d
        have hc1 := ckA_del hm (g.length + 1)
        rw [hc] at fP fP0 o
        by_cases hz : k = 0
        · subst hz
          have fm := hfst rfl
          have fM : ∀ l, hth (g ++ l) L0 = _ := fun l => (hth_app hLg).trans fm
          have t3 := symP hLg
          have hkd0 : decide ((0 : Int) < (es.length : Int)) = true := hkd
          have hkw0 : IntKind.i64.wrap 1 = ((1 : Nat) : Int) := by decide
          have hd3 := hdl.2 hm.kind
          have fD : ∀ l, hth (g ++ l) d = .cells (dlV e) := fun l => by rw [hth_app hdl.1, hd3]
          unfold dlV at fD
          have oD := And.intro o fD
          have hC := cl_step0 (e := e) (L := [.cells (enX e.m _ e.off e.st e.res e.run), .cells (dlV e), .crow [.ptr g.length 0], .crow ([.ptr g.length 0])]) (i := 0) (d := 1) (j := 3) A O hLg hlt hk htk rfl (by rw [show g.length + 1 = g.length + 1 from rfl]; show Ch.cells _ = Ch.cells (enC e (g.length + 1)); unfold enC; rw [hc1]) (by simp) (fun _ => rfl) ⟨by decide, by decide, by decide⟩ (LD_good (ts2 := []) hc1 (fun i hi => absurd hi (Nat.not_lt_zero i)) (by simp))
          (have zx1 := @hkd0; have zx2 := @hkw0; have zx3 := @hpk; have zx4 := @hpl; have zx5 := @oD; have zx6 := @t2; have zx7 := @t3; have zx8 := @fM; all_goals (try ((with_reducible first | refine wp_id ?_ | refine does_id ?_ | refine ops_id ?_ | refine dw_id ?_); refine walk ?_; (repeat' (first | exact trivial | with_reducible refine And.intro ?_ ?_)); all_goals (repeat with_reducible first | refine ImpB.mk fun hb => ?_ | refine ImpK.mk fun hK => ?_ | refine ImpF.mk fun hF => ?_ | refine ImpQ.mk fun hp => ?_ | refine AllE.mk fun p => ?_ | refine AllR.mk fun rest => ?_ | refine AllK.mk fun K => ?_))); repeat' (with_reducible refine And.intro ?_ ?_))
          all_goals first | (show _ ≤ (_ : Int); omega) | (show _ < (_ : Int); omega) | (show _ ≤ (_ : Nat); omega) | (show _ < (_ : Nat); omega) | (exfalso; omega) | skip
          refine ⟨(1, _, _, _), ⟨hC, (by show es.length - (0 + 1) < es.length - 0; omega)⟩, ?_⟩
          dsimp only
          have hM := hC.len
          dsimp only at hM
          refine at_sameS (by omega) hC.ok.self fun σ hσ => ?_
          have hσ2 : ∀ t, t ≤ L0 → σ[t]? = some t := fun z hz => hσ z (by omega)
          simp only [go_sem]
          (repeat' (first | (refine And.intro ?_ ?_) | (with_reducible rfl) | exact hσ2 _ (by omega) | exact trivial))
        · have T := htwo (by omega)
          have hN := hnew (by omega)
          have tl : (es.take k).length = k := by rw [List.length_take]; omega
          have fm := T.o
          rw [tl] at fm
          have fr := T.o1
          have hlt2 := T.lt
          have hv2 : v2 < g.length := hlt2 v2 (by simp)
          have hne : L0 ≠ v2 := fun q => by have := (List.nodup_cons.1 T.nd).1; exact this (by rw [q]; simp)
          have fM : ∀ l, hth (g ++ l) L0 = _ := fun l => (hth_app hLg).trans fm
          have fR : ∀ l, hth (g ++ l) v2 = _ := fun l => (hth_app hv2).trans fr
          have fG : ∀ l, hth (g.set v2 .gone ++ l) L0 = _ := fun l => (hth_app (by rw [List.length_set]; exact hLg)).trans ((hth_set_ne (Ne.symm hne)).trans fm)
          have t3 : ∀ l c, (g.set v2 .gone ++ l).set L0 c = (g.set v2 .gone).set L0 c ++ l := fun l c => List.set_append_left _ _ (by rw [List.length_set]; exact hLg)
          have t4 := And.intro t3 (symS hv2 .gone)
          have hpo : (ptA ts2).length = k ∧ okCells (ptA ts2) := ⟨by rw [ptA_len, T.len, tl], ptA_cells ts2⟩
          have htk2 : List.take k (ptA ts2) = ptA ts2 := List.take_of_length_le (by omega)
          have oM := And.intro fM (And.intro fR fG)
          have hd3 := hdl.2 hm.kind
          have fD : ∀ l, hth (g ++ l) d = .cells (dlV e) := fun l => by rw [hth_app hdl.1, hd3]
          unfold dlV at fD
          have oD := And.intro o fD
          have hC := cl_step (e := e) (L := [.cells (enX e.m _ e.off e.st e.res e.run), .cells (dlV e), .crow [.ptr g.length 0], .crow (ptA ts2 ++ [.ptr g.length 0])]) (i := 0) (d := 1) (j := 3) A O T hN hlt (by omega) hk htk rfl (by show Ch.cells _ = Ch.cells (enC e (g.length + 1)); unfold enC; rw [hc1]) (by simp) (fun _ => rfl) ⟨by decide, by decide, by decide⟩ (LD_good hc1 (fun i hi => by have := hlt2 _ (List.mem_cons_of_mem _ (List.mem_cons_of_mem _ (ilv_mem hi).1)); omega) (by simp))
          (have zx1 := @hkd; have zx2 := @hkw; have zx3 := @hpk; have zx4 := @hpl; have zx5 := @oD; have zx6 := @t2; have zx7 := @t4; have zx8 := @hpo; have zx9 := @oM; have zx10 := @htk2; all_goals (try ((with_reducible first | refine wp_id ?_ | refine does_id ?_ | refine ops_id ?_ | refine dw_id ?_); refine walk ?_; (repeat' (first | exact trivial | with_reducible refine And.intro ?_ ?_)); all_goals (repeat with_reducible first | refine ImpB.mk fun hb => ?_ | refine ImpK.mk fun hK => ?_ | refine ImpF.mk fun hF => ?_ | refine ImpQ.mk fun hp => ?_ | refine AllE.mk fun p => ?_ | refine AllR.mk fun rest => ?_ | refine AllK.mk fun K => ?_))); repeat' (with_reducible refine And.intro ?_ ?_))
          all_goals first | (show _ ≤ (_ : Int); omega) | (show _ < (_ : Int); omega) | (show _ ≤ (_ : Nat); omega) | (show _ < (_ : Nat); omega) | (exfalso; omega) | skip
          refine ⟨(k + 1, _, _, _), ⟨hC, (by show es.length - (k + 1) < es.length - k; omega)⟩, ?_⟩
          dsimp only
          have hM := hC.len
          dsimp only at hM
          refine at_sameS (by omega) hC.ok.self fun σ hσ => ?_
          have hσ2 : ∀ t, t ≤ L0 → σ[t]? = some t := fun z hz => hσ z (by omega)
          simp only [go_sem]
          (repeat' (first | (refine And.intro ?_ ?_) | (with_reducible rfl) | exact hσ2 _ (by omega) | exact trivial))
    · have hkd : decide ((k : Int) < (es.length : Int)) = false := decide_eq_false (by omega)
      obtain rfl : k = es.length := by omega
      have T := htwo (by omega)
      have hN := hnew (by omega)
      rw [List.take_length] at T
      (have zx1 := @hkd; all_goals (try ((with_reducible first | refine wp_id ?_ | refine does_id ?_ | refine ops_id ?_ | refine dw_id ?_); refine walk ?_; (repeat' (first | exact trivial | with_reducible refine And.intro ?_ ?_)); all_goals (repeat with_reducible first | refine ImpB.mk fun hb => ?_ | refine ImpK.mk fun hK => ?_ | refine ImpF.mk fun hF => ?_ | refine ImpQ.mk fun hp => ?_ | refine AllE.mk fun p => ?_ | refine AllR.mk fun rest => ?_ | refine AllK.mk fun K => ?_))); repeat' (with_reducible refine And.intro ?_ ?_))
      exact end_twoS A T (fun t ht q => by have := hN t ht; have := hlt t q; omega)
theorem b_clone0 (now : Int) : DoesK Try.prog 1 20 [.ptr 0 0] [.pack (SV now [])] (EndF 1 (.ptr 1 0) ([.pack (SV now [])] ++ [.pack (SV now [])])) := by
  refine DoesK.close ?_
  refine w_body (rs := [.tmp 2]) (tm := [.ptr 0 0, .any, .any, .any, .any, .any, .any, .any, .any, .any, .any, .any, .any, .any, .any, .any, .any, .any, .any, .any, .any, .any, .any, .any, .any, .any, .any, .any, .any, .any, .any, .any, .any, .any, .any, .any, .any, .any, .any, .any, .any, .any, .any, .any, .any, .any, .any, .any, .any, .any, .any, .any, .any, .any, .any, .any, .any, .any, .any, .any, .any, .any]) fn_20 rfl rfl rfl rfl fun R hR => ?_
  rw [show SV now [] = [.cells [.bool true, .int .i64 now, .lit (.slice none 0 0)]] from rfl]
  refine w_open 0 rfl rfl ?_
  simp only [go_sem, decide_true, decide_false, Int.reduceToNat, Nat.min_eq_left, Nat.min_eq_right, Int.reducePow, Nat.reducePow, Int.reduceLE, Int.reduceLT, Int.reduceMul, Int.reduceAdd, Int.reduceSub, Int.reduceNeg, Bool.not_true, Bool.not_false, Bool.not_not, ↓reduceIte, Nat.reduceAdd, Nat.reduceSub, Nat.reduceMul, Nat.reduceEqDiff, reduceCtorEq, Nat.reduceLT, Nat.reduceLeDiff, Nat.reduceGT]
  (all_goals (try ((with_reducible first | refine wp_id ?_ | refine does_id ?_ | refine ops_id ?_ | refine dw_id ?_); refine walk ?_; (repeat' (first | exact trivial | with_reducible refine And.intro ?_ ?_)); all_goals (repeat with_reducible first | refine ImpB.mk fun hb => ?_ | refine ImpK.mk fun hK => ?_ | refine ImpF.mk fun hF => ?_ | refine ImpQ.mk fun hp => ?_ | refine AllE.mk fun p => ?_ | refine AllR.mk fun rest => ?_ | refine AllK.mk fun K => ?_))); repeat' (with_reducible refine And.intro ?_ ?_))
  any_goals ((try (refine w_seq fun K hK => ?_)); (try (refine w_block ?_)); refine w_loop (A := Nat) (fun k => k = 0) (fun k => 0) (fun k => [(30, .int .i64 k)]) (fun k => []) (0) (ws := ?ws2) (tk := ?tk2) ?hw2 ?ht2 ?hi ?h0 ?LH2; (case hw2 => simp only [go_sem, decide_true, decide_false, Int.reduceToNat, Nat.min_eq_left, Nat.min_eq_right, Int.reducePow, Nat.reducePow, Int.reduceLE, Int.reduceLT, Int.reduceMul, Int.reduceAdd, Int.reduceSub, Int.reduceNeg, Bool.not_true, Bool.not_false, Bool.not_not, ↓reduceIte, Nat.reduceAdd, Nat.reduceSub, Nat.reduceMul, Nat.reduceEqDiff, reduceCtorEq, Nat.reduceLT, Nat.reduceLeDiff, Nat.reduceGT]; exact rfl); (case ht2 => simp only [go_sem, decide_true, decide_false, Int.reduceToNat, Nat.min_eq_left, Nat.min_eq_right, Int.reducePow, Nat.reducePow, Int.reduceLE, Int.reduceLT, Int.reduceMul, Int.reduceAdd, Int.reduceSub, Int.reduceNeg, Bool.not_true, Bool.not_false, Bool.not_not, ↓reduceIte, Nat.reduceAdd, Nat.reduceSub, Nat.reduceMul, Nat.reduceEqDiff, reduceCtorEq, Nat.reduceLT, Nat.reduceLeDiff, Nat.reduceGT]; exact rfl); (case' LH2 => rintro k E t hx hE ht; simp only [go_sem] at ht; subst ht; simp only [go_sem]; try dsimp only at hx))
  case hi => exact rfl
  case h0 =>
    (focus (refine ⟨_, _, Gh.refl, [0, 1], rfl, ?_⟩; (refine fitq ?_ ?_ ?_ <;> try exact trivial); (try any_goals (refine ⟨?_, ?_⟩)); (try any_goals (with_reducible rfl))))
    all_goals (repeat' (first | (refine And.intro ?_ ?_) | rfl))
  case LH2 =>
    obtain rfl : k = 0 := hx
    have hkd : decide (((0 : Nat) : Int) < 0) = false := by decide
    (have zx1 := @hkd; all_goals (try ((with_reducible first | refine wp_id ?_ | refine does_id ?_ | refine ops_id ?_ | refine dw_id ?_); refine walk ?_; (repeat' (first | exact trivial | with_reducible refine And.intro ?_ ?_)); all_goals (repeat with_reducible first | refine ImpB.mk fun hb => ?_ | refine ImpK.mk fun hK => ?_ | refine ImpF.mk fun hF => ?_ | refine ImpQ.mk fun hp => ?_ | refine AllE.mk fun p => ?_ | refine AllR.mk fun rest => ?_ | refine AllK.mk fun K => ?_))); repeat' (with_reducible refine And.intro ?_ ?_))
    (focus (refine ⟨_, _, Gh.trans (gh_close (t := 0) (ts := []) (l := SV now []) ⟨⟨_, _, rfl⟩, ?_, by simp⟩) (gh_close (t := 1) (ts := []) (l := SV now []) ⟨⟨_, _, rfl⟩, ?_, by simp⟩), [0, 1], rfl, ?_⟩; all_goals (try (refine fitq ?_ ?_ ?_ <;> try exact trivial))))
    all_goals (repeat' (first | (refine And.intro ?_ ?_) | rfl | exact trivial | (simp; done)))
theorem c_cloneS {h : List Ch} {K : KT} {u : Nat} {now : Int} {es : List Sm} (H : K (.ptr h.length 0) (h ++ [.pack (SV now es)])) (o : hth h u = .pack (SV now es)) (e1 : OkS es) : Does Try.prog 20 [.ptr u 0] h K := by
  by_cases hn : es.length = 0
  · obtain rfl := List.eq_nil_of_length_eq_zero hn
    exact frame_obj (b_clone0 now) o (by simp) (fitC_pack _) (br_cons (br_ptr rfl) br_nil) (.inl rfl) (fun _ => rfl) (fun _ => rfl) rfl (by rw [set_hth o (by simp)]; exact H)
  · exact frame_obj (b_cloneE now es (by omega) e1.max e1.ck) o (by simp) (fitC_pack _) (br_cons (br_ptr rfl) br_nil) (.inl rfl) (fun _ => rfl) (fun _ => rfl) rfl (by rw [set_hth o (by simp)]; exact H)
abbrev i_cloneS := Ctr.mk (i := 0) (g := 20) @c_cloneS
attribute [instance] i_cloneS
end Go.V

set_option maxRecDepth 100000
set_option maxHeartbeats 8000000
namespace Go.V
open Go.Proofs
attribute [-go_sem] PL
/-- the index of the first with a number -/
def fixG {α : Type} (f : α → Int) : List α → Int → Nat
  | [], _ => 0
  | x :: l, id => if f x = id then 0 else fixG f l id + 1
theorem fixG_at {α : Type} {f : α → Int} {d : α} {id : Int} : ∀ {l : List α} {k : Nat}, k < l.length → (∀ j, j < k → ¬ f (l.getD j d) = id) → f (l.getD k d) = id → fixG f l id = k
  | [], _, h, _, _ => by simp at h
  | x :: l, 0, _, _, h => by unfold fixG; exact if_pos h
  | x :: l, k + 1, h, h1, h2 => by
    unfold fixG
    rw [if_neg (show ¬ f x = id from h1 0 (Nat.succ_pos _)), fixG_at (k := k) (d := d) (by simpa using h) (fun j hj => h1 (j + 1) (by omega)) h2]
theorem fixG_none {α : Type} {f : α → Int} {d : α} {id : Int} : ∀ {l : List α}, (∀ j, j < l.length → ¬ f (l.getD j d) = id) → fixG f l id = l.length
  | [], _ => rfl
  | x :: l, h => by
    unfold fixG
    rw [if_neg (show ¬ f x = id from h 0 (by simp)), fixG_none (l := l) (d := d) (fun j hj => h (j + 1) (by simpa using hj)), List.length_cons]
def ixG {α : Type} (f : α → Int) (l : List α) (id : Int) : Int := if fixG f l id < l.length then (fixG f l id : Int) else -1
theorem b_pfind (l : List Pdf) (id : Int) (hl : l.length ≤ 1000000) : DoesK Try.prog 0 36 [.ro .pdf l, .int .i64 id] [] (EndF 0 (.int .i64 (ixG (·.id) l id)) []) := by
  refine DoesK.close ?_
  refine w_body (rs := [.tmp 4]) (tm := [.ro .pdf l, .int .i64 id, .any, .any, .any, .any, .any, .any, .any, .any, .any, .any, .any, .any, .any, .any, .any, .any, .any, .any]) fn_36 rfl rfl rfl rfl fun R hR => ?_
  (all_goals (try ((with_reducible first | refine wp_id ?_ | refine does_id ?_ | refine ops_id ?_ | refine dw_id ?_); refine walk ?_; (repeat' (first | exact trivial | with_reducible refine And.intro ?_ ?_)); all_goals (repeat with_reducible first | refine ImpB.mk fun hb => ?_ | refine ImpK.mk fun hK => ?_ | refine ImpF.mk fun hF => ?_ | refine ImpQ.mk fun hp => ?_ | refine AllE.mk fun p => ?_ | refine AllR.mk fun rest => ?_ | refine AllK.mk fun K => ?_))); repeat' (with_reducible refine And.intro ?_ ?_))
  any_goals ((try (refine w_seq fun K hK => ?_)); (try (refine w_block ?_)); refine w_loop (A := Nat) (fun k => k ≤ l.length ∧ ∀ j, j < k → ¬ (l.getD j Pdf.zero).id = id) (fun k => l.length - k) (fun k => [(5, .int .i64 k)]) (fun _ => []) (0) (ws := ?ws1) (tk := ?tk1) ?hw1 ?ht1 ?hi ?h0 ?LH1; (case hw1 => simp only [go_sem, decide_true, decide_false, Int.reduceToNat, Nat.min_eq_left, Nat.min_eq_right, Int.reducePow, Nat.reducePow, Int.reduceLE, Int.reduceLT, Int.reduceMul, Int.reduceAdd, Int.reduceSub, Int.reduceNeg, Bool.not_true, Bool.not_false, Bool.not_not, ↓reduceIte, Nat.reduceAdd, Nat.reduceSub, Nat.reduceMul, Nat.reduceEqDiff, reduceCtorEq, Nat.reduceLT, Nat.reduceLeDiff, Nat.reduceGT]; exact rfl); (case ht1 => simp only [go_sem, decide_true, decide_false, Int.reduceToNat, Nat.min_eq_left, Nat.min_eq_right, Int.reducePow, Nat.reducePow, Int.reduceLE, Int.reduceLT, Int.reduceMul, Int.reduceAdd, Int.reduceSub, Int.reduceNeg, Bool.not_true, Bool.not_false, Bool.not_not, ↓reduceIte, Nat.reduceAdd, Nat.reduceSub, Nat.reduceMul, Nat.reduceEqDiff, reduceCtorEq, Nat.reduceLT, Nat.reduceLeDiff, Nat.reduceGT]; exact rfl); (case' LH1 => rintro k E t hx hE ht; simp only [go_sem] at ht; subst ht; simp only [go_sem]; try dsimp only at hx))
  case hi => exact ⟨Nat.zero_le _, fun j hj => absurd hj (Nat.not_lt_zero j)⟩
  case h0 =>
    (focus (refine ⟨_, _, Gh.refl, [], rfl, ?_⟩; (refine fitq ?_ ?_ ?_ <;> try exact trivial); (try any_goals (refine ⟨?_, ?_⟩)); (try any_goals (with_reducible rfl))))
    all_goals (repeat' (first | (refine And.intro ?_ ?_) | rfl))
  case LH1 =>
    obtain ⟨hk0, hne⟩ := hx
    have hk0 : k ≤ l.length := hk0
    by_cases hk : k < l.length
    · have hkd : decide ((k : Int) < (l.length : Int)) = true := decide_eq_true (by omega)
      have hw : IntKind.i64.wrap ((k : Int) + 1) = ((k + 1 : Nat) : Int) := by rw [wrap_i64 _ (by omega) (by omega)]; omega
      obtain ⟨x, hxe⟩ : ∃ x, l.getD k Pdf.zero = x := ⟨_, rfl⟩
      by_cases hc : x.id = id
      · have hcd : decide (x.id = id) = true := decide_eq_true hc
        have hf : fixG (·.id) l id = k := fixG_at (d := Pdf.zero) hk hne (by rw [hxe]; exact hc)
        have hi : ixG (·.id) l id = (k : Int) := by unfold ixG; rw [hf, if_pos hk]
        rw [hi] at hR
        (have zx1 := @hkd; have zx2 := @hw; have zx3 := @hxe; have zx4 := @hcd; all_goals (try ((with_reducible first | refine wp_id ?_ | refine does_id ?_ | refine ops_id ?_ | refine dw_id ?_); refine walk ?_; (repeat' (first | exact trivial | with_reducible refine And.intro ?_ ?_)); all_goals (repeat with_reducible first | refine ImpB.mk fun hb => ?_ | refine ImpK.mk fun hK => ?_ | refine ImpF.mk fun hF => ?_ | refine ImpQ.mk fun hp => ?_ | refine AllE.mk fun p => ?_ | refine AllR.mk fun rest => ?_ | refine AllK.mk fun K => ?_))); repeat' (with_reducible refine And.intro ?_ ?_))
        all_goals first | (show _ ≤ (_ : Int); omega) | (show _ < (_ : Int); omega) | (show _ ≤ (_ : Nat); omega) | (show _ < (_ : Nat); omega) | skip
        (focus (refine ⟨_, _, Gh.refl, [], rfl, ?_⟩; (refine fitq ?_ ?_ ?_ <;> try exact trivial); (try any_goals (refine ⟨?_, ?_⟩)); (try any_goals (with_reducible rfl))))
        all_goals (repeat' (first | (refine And.intro ?_ ?_) | rfl))
      · have hcd : decide (x.id = id) = false := decide_eq_false hc
        (have zx1 := @hkd; have zx2 := @hw; have zx3 := @hxe; have zx4 := @hcd; all_goals (try ((with_reducible first | refine wp_id ?_ | refine does_id ?_ | refine ops_id ?_ | refine dw_id ?_); refine walk ?_; (repeat' (first | exact trivial | with_reducible refine And.intro ?_ ?_)); all_goals (repeat with_reducible first | refine ImpB.mk fun hb => ?_ | refine ImpK.mk fun hK => ?_ | refine ImpF.mk fun hF => ?_ | refine ImpQ.mk fun hp => ?_ | refine AllE.mk fun p => ?_ | refine AllR.mk fun rest => ?_ | refine AllK.mk fun K => ?_))); repeat' (with_reducible refine And.intro ?_ ?_))
        all_goals first | (show _ ≤ (_ : Int); omega) | (show _ < (_ : Int); omega) | (show _ ≤ (_ : Nat); omega) | (show _ < (_ : Nat); omega) | skip
        refine ⟨k + 1, ⟨⟨(by omega : k + 1 ≤ l.length), fun j hj => ?_⟩, (by first | omega | (dsimp only; omega))⟩, ?_⟩
        · by_cases c : j = k
          · rw [c, hxe]; exact hc
          · exact hne j (by omega)
        (focus (refine ⟨_, _, Gh.refl, [], rfl, ?_⟩; (refine fitq ?_ ?_ ?_ <;> try exact trivial); (try any_goals (refine ⟨?_, ?_⟩)); (try any_goals (with_reducible rfl))))
        all_goals (repeat' (first | (refine And.intro ?_ ?_) | rfl))
    · have hkd : decide ((k : Int) < (l.length : Int)) = false := decide_eq_false (by omega)
      have hf : fixG (·.id) l id = l.length := fixG_none (d := Pdf.zero) fun j hj => hne j (by omega)
      have hi : ixG (·.id) l id = -1 := by unfold ixG; rw [hf, if_neg (Nat.lt_irrefl _)]
      rw [hi] at hR
      (have zx1 := @hkd; all_goals (try ((with_reducible first | refine wp_id ?_ | refine does_id ?_ | refine ops_id ?_ | refine dw_id ?_); refine walk ?_; (repeat' (first | exact trivial | with_reducible refine And.intro ?_ ?_)); all_goals (repeat with_reducible first | refine ImpB.mk fun hb => ?_ | refine ImpK.mk fun hK => ?_ | refine ImpF.mk fun hF => ?_ | refine ImpQ.mk fun hp => ?_ | refine AllE.mk fun p => ?_ | refine AllR.mk fun rest => ?_ | refine AllK.mk fun K => ?_))); repeat' (with_reducible refine And.intro ?_ ?_))
      (focus (refine ⟨_, _, Gh.refl, [], rfl, ?_⟩; (refine fitq ?_ ?_ ?_ <;> try exact trivial); (try any_goals (refine ⟨?_, ?_⟩)); (try any_goals (with_reducible rfl))))
      all_goals (repeat' (first | (refine And.intro ?_ ?_) | rfl))
theorem c_pfind {h : List Ch} {K : KT} {a : AV} {l : List Pdf} {id r : Int} (H : K (.int .i64 r) h) (b1 : brA [] h (.ro .pdf l) a) (e1 : ixG (·.id) l id = r) (s1 : l.length ≤ 1000000) : Does Try.prog 36 [a, .int .i64 id] h K := by
  subst e1
  exact frame_pure (b_pfind l id s1) (br_cons b1 (br_cons br_int br_nil)) (.inr rfl) (fun _ => rfl) H
abbrev i_pfind := Ctr.mk (i := 0) (g := 36) @c_pfind
attribute [instance] i_pfind
theorem V_ix (V : Pv) (t : Int) : (t = 0 → ixG (·.id) V.l t = 0) ∧ (t = 1 → ixG (·.id) V.l t = 1) ∧ (t = 2 → ixG (·.id) V.l t = 2) ∧ (t = 3 → ixG (·.id) V.l t = 3) ∧ (¬ (t = 0 ∨ t = 1 ∨ t = 2 ∨ t = 3) → ixG (·.id) V.l t = -1) := by
  refine ⟨?_, ?_, ?_, ?_, fun h => ?_⟩
  · rintro rfl; rfl
  · rintro rfl; rfl
  · rintro rfl; rfl
  · rintro rfl; rfl
  · have h0 : ¬ (0 : Int) = t := by omega
    have h1 : ¬ (1 : Int) = t := by omega
    have h2 : ¬ (2 : Int) = t := by omega
    have h3 : ¬ (3 : Int) = t := by omega
    simp [ixG, fixG, Pv.l, h0, h1, h2, h3]
theorem b_rgetS (V : Pv) (t v : Int) (hg : V.get t = some v) : DoesK Try.prog 0 33 [.agg [.ro .pdf V.l], .int .i64 t] [] (EndF 0 (.tup [.int .i64 v, .int .i64 0]) []) := by
  have hlen : V.l.length = 4 := rfl
  have s1 : V.l.length ≤ 1000000 := by omega
  have key : ∀ (k : Nat) (x : Pdf), k < 4 → ixG (·.id) V.l t = (k : Int) → V.l.getD k Pdf.zero = x → x.value = v → DoesK Try.prog 0 33 [.agg [.ro .pdf V.l], .int .i64 t] [] (EndF 0 (.tup [.int .i64 v, .int .i64 0]) []) := by
    intro k x hk hi hx hv
    subst hv
    have hd : decide ((k : Int) < 0) = false := decide_eq_false (by omega)
    obtain ⟨l, hl⟩ : ∃ l, V.l = l := ⟨_, rfl⟩
    rw [hl] at hi hx hlen s1 ⊢
    refine DoesK.close ?_
    refine w_body (rs := [.tmp 4, .tmp 5]) (tm := [.agg [.ro .pdf l], .int .i64 t, .any, .any, .any, .any, .any, .any, .any, .any, .any, .any, .any, .any, .any, .any, .any, .any, .any]) fn_33 rfl rfl rfl rfl fun R hR => ?_
    (have zx1 := @hd; have zx2 := @hx; have zx3 := @hlen; all_goals (try ((with_reducible first | refine wp_id ?_ | refine does_id ?_ | refine ops_id ?_ | refine dw_id ?_); refine walk ?_; (repeat' (first | exact trivial | with_reducible refine And.intro ?_ ?_)); all_goals (repeat with_reducible first | refine ImpB.mk fun hb => ?_ | refine ImpK.mk fun hK => ?_ | refine ImpF.mk fun hF => ?_ | refine ImpQ.mk fun hp => ?_ | refine AllE.mk fun p => ?_ | refine AllR.mk fun rest => ?_ | refine AllK.mk fun K => ?_))); repeat' (with_reducible refine And.intro ?_ ?_))
    all_goals first | (show _ ≤ (_ : Int); omega) | (show _ < (_ : Int); omega) | (show _ ≤ (_ : Nat); omega) | (show _ < (_ : Nat); omega) | skip
    (focus (refine ⟨_, _, Gh.refl, [], rfl, ?_⟩; (refine fitq ?_ ?_ ?_ <;> try exact trivial); (try any_goals (refine ⟨?_, ?_⟩)); (try any_goals (with_reducible rfl))))
    all_goals (repeat' (first | (refine And.intro ?_ ?_) | rfl))
  obtain ⟨i0, i1, i2, i3, -⟩ := V_ix V t
  unfold Pv.get at hg
  split at hg
  · rename_i c; cases hg; exact key 0 _ (by decide) (i0 c) rfl rfl
  split at hg
  · rename_i c; cases hg; exact key 1 _ (by decide) (i1 c) rfl rfl
  split at hg
  · rename_i c; cases hg; exact key 2 _ (by decide) (i2 c) rfl rfl
  split at hg
  · rename_i c; cases hg; exact key 3 _ (by decide) (i3 c) rfl rfl
  · cases hg
theorem b_rgetN (V : Pv) (t : Int) (hg : V.get t = none) : DoesK Try.prog 0 33 [.agg [.ro .pdf V.l], .int .i64 t] [] (EndF 0 (.tup [.int .i64 0, .int .i64 8]) []) := by
  have s1 : V.l.length ≤ 1000000 := by show 4 ≤ 1000000; omega
  have hi : ixG (·.id) V.l t = -1 := (V_ix V t).2.2.2.2 (by rintro (rfl | rfl | rfl | rfl) <;> simp [Pv.get] at hg)
  obtain ⟨l, hl⟩ : ∃ l, V.l = l := ⟨_, rfl⟩
  rw [hl] at hi s1 ⊢
  refine DoesK.close ?_
  refine w_body (rs := [.tmp 4, .tmp 5]) (tm := [.agg [.ro .pdf l], .int .i64 t, .any, .any, .any, .any, .any, .any, .any, .any, .any, .any, .any, .any, .any, .any, .any, .any, .any]) fn_33 rfl rfl rfl rfl fun R hR => ?_
  (all_goals (try ((with_reducible first | refine wp_id ?_ | refine does_id ?_ | refine ops_id ?_ | refine dw_id ?_); refine walk ?_; (repeat' (first | exact trivial | with_reducible refine And.intro ?_ ?_)); all_goals (repeat with_reducible first | refine ImpB.mk fun hb => ?_ | refine ImpK.mk fun hK => ?_ | refine ImpF.mk fun hF => ?_ | refine ImpQ.mk fun hp => ?_ | refine AllE.mk fun p => ?_ | refine AllR.mk fun rest => ?_ | refine AllK.mk fun K => ?_))); repeat' (with_reducible refine And.intro ?_ ?_))
  (focus (refine ⟨_, _, Gh.refl, [], rfl, ?_⟩; (refine fitq ?_ ?_ ?_ <;> try exact trivial); (try any_goals (refine ⟨?_, ?_⟩)); (try any_goals (with_reducible rfl))))
  all_goals (repeat' (first | (refine And.intro ?_ ?_) | rfl))
theorem b_rget0 (t : Int) : DoesK Try.prog 0 33 [.agg [.lit (.slice none 0 0)], .int .i64 t] [] (EndF 0 (.tup [.int .i64 0, .int .i64 8]) []) := by
  refine DoesK.close ?_
  have h0 : ixG (fun x : Pdf => x.id) [] t = -1 := rfl
  refine w_body (rs := [.tmp 4, .tmp 5]) (tm := [.agg [.lit (.slice none 0 0)], .int .i64 t, .any, .any, .any, .any, .any, .any, .any, .any, .any, .any, .any, .any, .any, .any, .any, .any, .any]) fn_33 rfl rfl rfl rfl fun R hR => ?_
  (all_goals (try ((with_reducible first | refine wp_id ?_ | refine does_id ?_ | refine ops_id ?_ | refine dw_id ?_); refine walk ?_; (repeat' (first | exact trivial | with_reducible refine And.intro ?_ ?_)); all_goals (repeat with_reducible first | refine ImpB.mk fun hb => ?_ | refine ImpK.mk fun hK => ?_ | refine ImpF.mk fun hF => ?_ | refine ImpQ.mk fun hp => ?_ | refine AllE.mk fun p => ?_ | refine AllR.mk fun rest => ?_ | refine AllK.mk fun K => ?_))); repeat' (with_reducible refine And.intro ?_ ?_))
  (focus (refine ⟨_, _, Gh.refl, [], rfl, ?_⟩; (refine fitq ?_ ?_ ?_ <;> try exact trivial); (try any_goals (refine ⟨?_, ?_⟩)); (try any_goals (with_reducible rfl))))
  all_goals (repeat' (first | (refine And.intro ?_ ?_) | rfl))
theorem c_rgetS {h : List Ch} {K : KT} {V : Pv} {l : List Pdf} {t v : Int} (H : K (.tup [.int .i64 v, .int .i64 0]) h) (e1 : V.l = l) (e2 : V.get t = some v) : Does Try.prog 33 [.agg [.ro .pdf l], .int .i64 t] h K := by
  subst e1
  exact frame_pure (b_rgetS V t v e2) (br_cons (br_agg (br_cons br_ro br_nil)) (br_cons br_int br_nil)) (.inr rfl) (fun _ => rfl) H
abbrev i_rgetS := Ctr.mk (i := 0) (g := 33) @c_rgetS
attribute [instance] i_rgetS
theorem c_rgetN {h : List Ch} {K : KT} {V : Pv} {l : List Pdf} {t : Int} (H : K (.tup [.int .i64 0, .int .i64 8]) h) (e1 : V.l = l) (e2 : V.get t = none) : Does Try.prog 33 [.agg [.ro .pdf l], .int .i64 t] h K := by
  subst e1
  exact frame_pure (b_rgetN V t e2) (br_cons (br_agg (br_cons br_ro br_nil)) (br_cons br_int br_nil)) (.inr rfl) (fun _ => rfl) H
abbrev i_rgetN := Ctr.mk (i := 1) (g := 33) @c_rgetN
attribute [instance] i_rgetN
theorem c_rget0 {h : List Ch} {K : KT} {t : Int} (H : K (.tup [.int .i64 0, .int .i64 8]) h) : Does Try.prog 33 [.agg [.lit (.slice none 0 0)], .int .i64 t] h K :=
  frame_pure (b_rget0 t) (br_cons (br_agg (br_cons br_lit br_nil)) (br_cons br_int br_nil)) (.inr rfl) (fun _ => rfl) H
abbrev i_rget0 := Ctr.mk (i := 2) (g := 33) @c_rget0
attribute [instance] i_rget0
/-- what a parameter's value may be -/
def inD (x : Pdf) (v : Int) : Bool := if x.signed then inS v else inU (if x.width = 8 then 256 else 4294967296) v
theorem b_rinD (x : Pdf) (v : Int) (hw : x.width = 32 ∨ x.width = 8 ∧ x.signed = false) : DoesK Try.prog 0 37 [.agg [.int .i64 x.id, .int .i64 x.width, .bool x.signed, .int .i64 x.value], .int .i64 v] [] (EndF 0 (.bool (inD x v)) []) := by
  obtain ⟨id, w, sg, va⟩ := x
  refine DoesK.close ?_
  have w1 : IntKind.i64.wrap 31 = 31 := by decide
  have w2 : IntKind.i64.wrap (-2147483648) = -2147483648 := by decide
  rcases hw with hw | ⟨hw, hs⟩
  · obtain rfl : w = 32 := hw
    cases sg with
    | true =>
      unfold inD
      dsimp only
      rw [if_pos rfl]
      unfold inS
      refine w_body (rs := [.tmp 4]) (tm := [.agg [.int .i64 id, .int .i64 32, .bool true, .int .i64 va], .int .i64 v, .any, .any, .any, .any, .any, .any, .any, .any, .any, .any, .any, .any, .any, .any, .any, .any, .any, .any, .any, .any, .any, .any, .any, .any, .any, .any, .any, .any, .any]) fn_37 rfl rfl rfl rfl fun R hR => ?_
      (have zx1 := @w1; have zx2 := @w2; all_goals (try ((with_reducible first | refine wp_id ?_ | refine does_id ?_ | refine ops_id ?_ | refine dw_id ?_); refine walk ?_; (repeat' (first | exact trivial | with_reducible refine And.intro ?_ ?_)); all_goals (repeat with_reducible first | refine ImpB.mk fun hb => ?_ | refine ImpK.mk fun hK => ?_ | refine ImpF.mk fun hF => ?_ | refine ImpQ.mk fun hp => ?_ | refine AllE.mk fun p => ?_ | refine AllR.mk fun rest => ?_ | refine AllK.mk fun K => ?_))); repeat' (with_reducible refine And.intro ?_ ?_))
      all_goals
        (focus (refine ⟨_, _, Gh.refl, [], rfl, ?_⟩; (refine fitq ?_ ?_ ?_ <;> try exact trivial); (try any_goals (refine ⟨?_, ?_⟩)); (try any_goals (with_reducible rfl))))
        simp [*]
    | false =>
      unfold inD
      dsimp only
      rw [if_neg (by decide), if_neg (by decide)]
      unfold inU
      refine w_body (rs := [.tmp 4]) (tm := [.agg [.int .i64 id, .int .i64 32, .bool false, .int .i64 va], .int .i64 v, .any, .any, .any, .any, .any, .any, .any, .any, .any, .any, .any, .any, .any, .any, .any, .any, .any, .any, .any, .any, .any, .any, .any, .any, .any, .any, .any, .any, .any]) fn_37 rfl rfl rfl rfl fun R hR => ?_
      (have zx1 := @w1; have zx2 := @w2; all_goals (try ((with_reducible first | refine wp_id ?_ | refine does_id ?_ | refine ops_id ?_ | refine dw_id ?_); refine walk ?_; (repeat' (first | exact trivial | with_reducible refine And.intro ?_ ?_)); all_goals (repeat with_reducible first | refine ImpB.mk fun hb => ?_ | refine ImpK.mk fun hK => ?_ | refine ImpF.mk fun hF => ?_ | refine ImpQ.mk fun hp => ?_ | refine AllE.mk fun p => ?_ | refine AllR.mk fun rest => ?_ | refine AllK.mk fun K => ?_))); repeat' (with_reducible refine And.intro ?_ ?_))
      all_goals
        (focus (refine ⟨_, _, Gh.refl, [], rfl, ?_⟩; (refine fitq ?_ ?_ ?_ <;> try exact trivial); (try any_goals (refine ⟨?_, ?_⟩)); (try any_goals (with_reducible rfl))))
        simp [*]
  · obtain rfl : w = 8 := hw
    obtain rfl : sg = false := hs
    unfold inD
    dsimp only
    rw [if_neg (by decide), if_pos rfl]
    unfold inU
    refine w_body (rs := [.tmp 4]) (tm := [.agg [.int .i64 id, .int .i64 8, .bool false, .int .i64 va], .int .i64 v, .any, .any, .any, .any, .any, .any, .any, .any, .any, .any, .any, .any, .any, .any, .any, .any, .any, .any, .any, .any, .any, .any, .any, .any, .any, .any, .any, .any, .any]) fn_37 rfl rfl rfl rfl fun R hR => ?_
    (have zx1 := @w1; have zx2 := @w2; all_goals (try ((with_reducible first | refine wp_id ?_ | refine does_id ?_ | refine ops_id ?_ | refine dw_id ?_); refine walk ?_; (repeat' (first | exact trivial | with_reducible refine And.intro ?_ ?_)); all_goals (repeat with_reducible first | refine ImpB.mk fun hb => ?_ | refine ImpK.mk fun hK => ?_ | refine ImpF.mk fun hF => ?_ | refine ImpQ.mk fun hp => ?_ | refine AllE.mk fun p => ?_ | refine AllR.mk fun rest => ?_ | refine AllK.mk fun K => ?_))); repeat' (with_reducible refine And.intro ?_ ?_))
    all_goals
      (focus (refine ⟨_, _, Gh.refl, [], rfl, ?_⟩; (refine fitq ?_ ?_ ?_ <;> try exact trivial); (try any_goals (refine ⟨?_, ?_⟩)); (try any_goals (with_reducible rfl))))
      simp [*]
theorem c_rinD {h : List Ch} {K : KT} {id w va v : Int} {sg r : Bool} (H : K (.bool r) h) (e1 : inD ⟨id, w, sg, va⟩ v = r) (s1 : w = 32 ∨ w = 8 ∧ sg = false) : Does Try.prog 37 [.agg [.int .i64 id, .int .i64 w, .bool sg, .int .i64 va], .int .i64 v] h K := by
  subst e1
  exact frame_pure (b_rinD ⟨id, w, sg, va⟩ v s1) (br_cons (br_agg (br_cons br_int (br_cons br_int (br_cons br_bool (br_cons br_int br_nil))))) (br_cons br_int br_nil)) (.inr rfl) (fun _ => rfl) H
abbrev i_rinD := Ctr.mk (i := 3) (g := 37) @c_rinD
attribute [instance] i_rinD
theorem b_rsetK (l l2 : List Pdf) (t v : Int) (k : Nat) (x : Pdf) (hk : k < l.length) (s1 : l.length ≤ 1000000) (hi : ixG (·.id) l t = (k : Int)) (hx : l.getD k Pdf.zero = x) (e2 : inD x v = true) (s2 : x.width = 32 ∨ x.width = 8 ∧ x.signed = false) (hs : l.set k ⟨x.id, x.width, x.signed, v⟩ = l2) :
    DoesK Try.prog 0 19 [.agg [.ro .pdf l], .int .i64 t, .int .i64 v] [] (EndF 0 (.tup [.agg [.ro .pdf l2], .int .i64 0]) []) := by
  have hd : decide ((k : Int) < 0) = false := decide_eq_false (by omega)
  refine DoesK.close ?_
  refine w_body (rs := [.cell 6 35, .tmp 7]) (tm := [.agg [.ro .pdf l], .int .i64 t, .int .i64 v, .any, .any, .any, .any, .any, .any, .any, .any, .any, .any, .any, .any, .any, .any, .any, .any, .any, .any, .any, .any, .any, .any, .any, .any, .any, .any, .any, .any, .any, .any, .any, .any, .any, .any]) fn_19 rfl rfl rfl rfl fun R hR => ?_
  have hl2 : l.length = l2.length := by rw [← hs, List.length_set]
  (have zx1 := @hd; have zx2 := @hx; have zx3 := @hs; all_goals (try ((with_reducible first | refine wp_id ?_ | refine does_id ?_ | refine ops_id ?_ | refine dw_id ?_); refine walk ?_; (repeat' (first | exact trivial | with_reducible refine And.intro ?_ ?_)); all_goals (repeat with_reducible first | refine ImpB.mk fun hb => ?_ | refine ImpK.mk fun hK => ?_ | refine ImpF.mk fun hF => ?_ | refine ImpQ.mk fun hp => ?_ | refine AllE.mk fun p => ?_ | refine AllR.mk fun rest => ?_ | refine AllK.mk fun K => ?_))); repeat' (with_reducible refine And.intro ?_ ?_))
  all_goals first | (show _ ≤ (_ : Int); omega) | (show _ < (_ : Int); omega) | (show _ ≤ (_ : Nat); omega) | (show _ < (_ : Nat); omega) | skip
  rw [hl2]
  refine ⟨_, _, gh_frz (t := 3) (e := .pdf) (xs := l2) rfl ?f1 ?f2, [], rfl, ?ft⟩
  case' ft => (refine fitq ?_ ?_ ?_ <;> try exact trivial)
  case' f1 => simp only [go_sem, decide_true, decide_false, Int.reduceToNat, Nat.min_eq_left, Nat.min_eq_right, Int.reducePow, Nat.reducePow, Int.reduceLE, Int.reduceLT, Int.reduceMul, Int.reduceAdd, Int.reduceSub, Int.reduceNeg, Bool.not_true, Bool.not_false, Bool.not_not, ↓reduceIte, Nat.reduceAdd, Nat.reduceSub, Nat.reduceMul, Nat.reduceEqDiff, reduceCtorEq, Nat.reduceLT, Nat.reduceLeDiff, Nat.reduceGT]
  case' f2 => simp only [go_sem, decide_true, decide_false, Int.reduceToNat, Nat.min_eq_left, Nat.min_eq_right, Int.reducePow, Nat.reducePow, Int.reduceLE, Int.reduceLT, Int.reduceMul, Int.reduceAdd, Int.reduceSub, Int.reduceNeg, Bool.not_true, Bool.not_false, Bool.not_not, ↓reduceIte, Nat.reduceAdd, Nat.reduceSub, Nat.reduceMul, Nat.reduceEqDiff, reduceCtorEq, Nat.reduceLT, Nat.reduceLeDiff, Nat.reduceGT]
  all_goals first | exact Nat.le_refl _ | exact ⟨Nat.le_refl _, False.elim⟩ | exact False.elim | (repeat' (first | (refine And.intro ?_ ?_) | rfl | exact False.elim | exact Nat.le_refl _))
theorem b_rset (V : Pv) (t v : Int) (hi : inP t v = true) : DoesK Try.prog 0 19 [.agg [.ro .pdf V.l], .int .i64 t, .int .i64 v] [] (EndF 0 (.tup [.agg [.ro .pdf (V.set t v).l], .int .i64 0]) []) := by
  have hlen : V.l.length = 4 := rfl
  obtain ⟨i0, i1, i2, i3, -⟩ := V_ix V t
  have hs : V.set t v = (if t = 0 then ⟨v, V.b, V.c, V.d⟩ else if t = 1 then ⟨V.a, v, V.c, V.d⟩ else if t = 2 then ⟨V.a, V.b, v, V.d⟩ else ⟨V.a, V.b, V.c, v⟩) := by unfold Pv.set; rw [if_pos hi]
  unfold inP at hi
  by_cases c0 : t = 0
  · subst c0
    rw [if_pos (.inl rfl)] at hi
    rw [hs, if_pos rfl]
    exact b_rsetK V.l _ 0 v 0 ⟨0, 32, true, V.a⟩ (by omega) (by omega) (i0 rfl) rfl (by unfold inD; rw [if_pos rfl]; exact hi) (.inl rfl) rfl
  by_cases c1 : t = 1
  · subst c1
    rw [if_pos (.inr rfl)] at hi
    rw [hs, if_neg (by decide), if_pos rfl]
    exact b_rsetK V.l _ 1 v 1 ⟨1, 32, true, V.b⟩ (by omega) (by omega) (i1 rfl) rfl (by unfold inD; rw [if_pos rfl]; exact hi) (.inl rfl) rfl
  rw [if_neg (by omega)] at hi
  by_cases c2 : t = 2
  · subst c2
    rw [if_pos rfl] at hi
    rw [hs, if_neg (by decide), if_neg (by decide), if_pos rfl]
    exact b_rsetK V.l _ 2 v 2 ⟨2, 32, false, V.c⟩ (by omega) (by omega) (i2 rfl) rfl (by unfold inD; rw [if_neg (by simp), if_neg (by simp)]; exact hi) (.inl rfl) rfl
  rw [if_neg c2] at hi
  by_cases c3 : t = 3
  · subst c3
    rw [if_pos rfl] at hi
    rw [hs, if_neg (by decide), if_neg (by decide), if_neg (by decide)]
    exact b_rsetK V.l _ 3 v 3 ⟨3, 8, false, V.d⟩ (by omega) (by omega) (i3 rfl) rfl (by unfold inD; rw [if_neg (by simp), if_pos rfl]; exact hi) (.inr ⟨rfl, rfl⟩) rfl
  · rw [if_neg c3] at hi; cases hi
theorem c_rset {h : List Ch} {K : KT} {V : Pv} {l l2 : List Pdf} {t v : Int} (H : K (.tup [.agg [.ro .pdf l2], .int .i64 0]) h) (e1 : V.l = l) (e2 : inP t v = true) (e3 : (V.set t v).l = l2) : Does Try.prog 19 [.agg [.ro .pdf l], .int .i64 t, .int .i64 v] h K := by
  subst e1; subst e3
  exact frame_pure (b_rset V t v e2) (br_cons (br_agg (br_cons br_ro br_nil)) (br_cons br_int (br_cons br_int br_nil))) (.inl rfl) (fun _ => rfl) H
abbrev i_rset := Ctr.mk (i := 0) (g := 19) @c_rset
attribute [instance] i_rset
end Go.V
