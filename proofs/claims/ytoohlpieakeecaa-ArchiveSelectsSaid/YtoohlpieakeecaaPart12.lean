/-
  slices.Insert of one element, at elements of several cells.
  archive: serial numbers of 14 bits, extended counts.
  archive: an archive with at most one application process whose items have no data.
  archive.Add of the first item.
-/
import Derived.Test.YtoohlpieakeecaaPart11
import Derived.Shelf.Spec.SlicesInsertGrow
import Derived.Laws.CopyRow
set_option linter.unusedVariables false
set_option linter.unusedSimpArgs false
set_option maxRecDepth 100000
set_option maxHeartbeats 4000000
namespace Go.V
open Go.Proofs Go.Lib Go.Shelf Go.RowKit
theorem run_copy_rowK (P : Program) (w : World) (dT sT ty elem : TypeId) (g o dLen dCap : Nat) (a : Addr) (sLen sCap : Nat) (cur : Array Value) (t : TypeId) (cs : List Value) (k : Nat)
    (hu : P.underlying dT = some (.slice elem)) (hs : (P.info? elem).map (·.size) = some k)
    (hg : w.heap[g]? = some (.cells cur t (0, 0))) (hn : cs.length = Nat.min sLen dLen * k)
    (hsrc : ∀ j v, cs[j]? = some v → w.cell? (a.add j) = some v) (hfit : o + cs.length ≤ cur.size) (h1 : ∀ v ∈ cs, v.oneCell' = true) :
    (Builtin.copy_ #[dT, sT] ty #[.slice (some ⟨g, o, none⟩) dLen dCap, .slice (some a) sLen sCap]).run P w =
      .ok (goInt (Nat.min sLen dLen)) (w.setRow g (cur.toList.take o ++ cs ++ cur.toList.drop (o + cs.length)).toArray) := by
  have hl := run_loadCells_list (P := P) w a cs hsrc
  have hst := run_storeCells_at P g o t cs 0 cur w hg (by simpa using hfit) h1
  cases hq : P.info? elem with
  | none => simp [hq] at hs
  | some i =>
    have hi : i.size = k := by simpa [hq] using hs
    simp [Builtin.copy_, run_underlying hu, Builtin.lenOf, Builtin.firstCells, sizeOf, typeInfo, hq, hi, ← hn, hl, hst]
theorem ins_list0 {cur cs vs : List Value} {a b k : Nat} (h1 : b + k ≤ cur.length) (h2 : a ≤ b) (h3 : cs.length = b - a) (h4 : vs.length = k) (D : List Value) :
    ((cur.take (a + k) ++ cs ++ D).take a ++ vs ++ (cur.take (a + k) ++ cs ++ D).drop (a + vs.length)).take (b + k) = cur.take a ++ vs ++ cs := by
  have l1 : (cur.take (a + k)).length = a + k := by rw [List.length_take]; omega
  have e1 : (cur.take (a + k) ++ cs ++ D).take a = cur.take a := by
    rw [List.append_assoc, List.take_append_of_le_length (by omega), List.take_take, Nat.min_eq_left (by omega)]
  have e2 : (cur.take (a + k) ++ cs ++ D).drop (a + vs.length) = cs ++ D := by
    rw [List.append_assoc, h4]
    exact List.drop_left' l1
  rw [e1, e2, ← List.append_assoc]
  exact List.take_left' (by rw [List.length_append, List.length_append, List.length_take, h3, h4]; omega)
theorem ins_list {cur cs vs : List Value} {n i k : Nat} (h1 : (n + 1) * k ≤ cur.length) (h2 : i * k ≤ n * k) (h3 : cs.length = (n - i) * k) (h4 : vs.length = k) :
    ((cur.take ((i + 1) * k) ++ cs ++ cur.drop ((i + 1) * k + cs.length)).take (i * k) ++ vs ++ (cur.take ((i + 1) * k) ++ cs ++ cur.drop ((i + 1) * k + cs.length)).drop (i * k + vs.length)).take ((n + 1) * k) = cur.take (i * k) ++ vs ++ cs := by
  generalize cur.drop ((i + 1) * k + cs.length) = D
  rw [Nat.succ_mul] at h1
  rw [Nat.sub_mul] at h3
  rw [Nat.succ_mul, Nat.succ_mul]
  exact ins_list0 h1 h2 h3 h4 D
theorem insG_list {cur cs vs : List Value} {Z1 Z2 : Array Value} {n i k : Nat} (h2 : (cur.take (i * k)).length = i * k) (h4 : vs.length = k) (h3 : cs.length + (i + 1) * k = (n + 1) * k) :
    ((((((cur.take (i * k)).toArray ++ Z1 ++ Z2).toList.take (i * k) ++ vs ++ ((cur.take (i * k)).toArray ++ Z1 ++ Z2).toList.drop (i * k + vs.length)).toArray).toList.take ((i + 1) * k) ++ cs ++ ((((cur.take (i * k)).toArray ++ Z1 ++ Z2).toList.take (i * k) ++ vs ++ ((cur.take (i * k)).toArray ++ Z1 ++ Z2).toList.drop (i * k + vs.length)).toArray).toList.drop ((i + 1) * k + cs.length)).toArray).toList.take ((n + 1) * k) = cur.take (i * k) ++ vs ++ cs := by
  simp only [Array.toList_append, List.toList_toArray]
  have e1 : (cur.take (i * k) ++ Z1.toList ++ Z2.toList).take (i * k) = cur.take (i * k) := by
    rw [List.append_assoc]
    exact List.take_left' h2
  rw [e1]
  have l2 : (cur.take (i * k) ++ vs).length = (i + 1) * k := by rw [List.length_append, h2, h4, Nat.succ_mul]
  generalize (cur.take (i * k) ++ Z1.toList ++ Z2.toList).drop (i * k + vs.length) = D
  rw [List.take_left' l2]
  generalize (cur.take (i * k) ++ vs ++ D).drop ((i + 1) * k + cs.length) = D2
  exact List.take_left' (by rw [List.length_append, l2]; omega)
theorem ins_ok [ETab] {P : Program} {F T E : Nat} (hr : Here P F) {e : Ety} (hk : kdT P T = .slice E) (hsz : szT P E = e.sz) (hzl : zlenT P E = e.sz) (hby : bytesT P E ≤ 1024)
    (hE : ∀ (s : Option Addr) (n c vb vo vc : Nat) (v : Value) (w w1 : World), n ≤ c → c ≤ 9223372036854775807 → (s = none → n = 0 ∧ c = 0) →
      (Builtin.append_ #[T, T] T #[.slice s n c, .slice (some ⟨vb, vo, none⟩) 1 vc]).run P w = .ok v w1 → Calls P F #[.slice s n c, .int .i64 n, .slice (some ⟨vb, vo, none⟩) 1 vc] w fun e w' => e = .returned v ∧ w' = w1)
    (hS : ∀ (b n c vb vo vc i : Nat) (cur : Array Value) (ty : TypeId) (vs : List Value) (w : World), i < n → n + 1 ≤ c → c ≤ 9223372036854775807 → vb ≠ b → w.heap[b]? = some (.cells cur ty (0, 0)) → cur.size = c * e.sz → (∀ v ∈ cur.toList.take (n * e.sz), v.oneCell' = true) →
      vs.length = e.sz → (∀ j v, vs[j]? = some v → w.cell? ⟨vb, vo + j, none⟩ = some v) → (∀ v ∈ vs, v.oneCell' = true) → ∀ (tA : TypeId) (kA : Nat), w.shape? vb = some (tA, kA) → w.frozen? ⟨vb, vo, none⟩ = false → w.frozen? ⟨vb, kA, none⟩ = false →
      Calls P F #[.slice (some ⟨b, 0, none⟩) n c, .int .i64 i, .slice (some ⟨vb, vo, none⟩) 1 vc] w fun e' w' => e' = .returned (.slice (some ⟨b, 0, none⟩) (n + 1) c) ∧ ∃ row, row.toList.take ((n + 1) * e.sz) = cur.toList.take (i * e.sz) ++ vs ++ (cur.toList.take (n * e.sz)).drop (i * e.sz) ∧ row.size = cur.size ∧ w' = w.drew.setRow b row)
    (hG : ∀ (b n c vb vo vc i : Nat) (cur : Array Value) (ty : TypeId) (vs : List Value) (w : World), i < n → n ≤ c → c < n + 1 → (n + 1) * bytesT P E ≤ 140737488355328 → w.heap[b]? = some (.cells cur ty (0, 0)) → cur.size = c * e.sz → (∀ v ∈ cur.toList.take (n * e.sz), v.oneCell' = true) →
      vs.length = e.sz → vb < w.heap.size → (∀ j v, vs[j]? = some v → w.cell? ⟨vb, vo + j, none⟩ = some v) → (∀ v ∈ vs, v.oneCell' = true) →
      Calls P F #[.slice (some ⟨b, 0, none⟩) n c, .int .i64 i, .slice (some ⟨vb, vo, none⟩) 1 vc] w fun e' w' => ∃ G row, e' = .returned (.slice (some ⟨w.heap.size, 0, none⟩) (n + 1) G) ∧ n + 1 ≤ G ∧ G ≤ maxLen ∧
        row.toList.take ((n + 1) * e.sz) = cur.toList.take (i * e.sz) ++ vs ++ (cur.toList.take (n * e.sz)).drop (i * e.sz) ∧ row.size = G * e.sz ∧ w'.heap[w.heap.size]? = some (.cells row E (0, 0)) ∧
        (∀ m, m < w.heap.size → w'.heap[m]? = w.heap[m]?) ∧ w'.heap.size = w.heap.size + 1 ∧ w'.os = w.os ∧ w'.tape = w.tape ∧ w'.output = w.output ∧ w.drawn ≤ w'.drawn)
    {h : List Ch} {K : KT} {t u n i : Nat} {xs : List e.T} {y : e.T} (hn : n = xs.length) (hi : i ≤ n) (hlen : xs.length ≤ 1000000000) (hne : t ≠ u) (o : hth h t = .rows e xs) (o1 : hth h u = .rows e [y])
    (H : K (.sl h.length e 0 (n + 1)) (h.set t .gone ++ [.rows e (xs.take i ++ y :: xs.drop i)])) : Does P F [.sl t e 0 n, .int .i64 (i : Int), .sl u e 0 1] h K := by
  refine ⟨hr, fun R μ w vs hv H0 => ?_⟩
  have hg := hth_get o (by simp)
  have hg1 := hth_get o1 (by simp)
  cases hv with
  | cons hs h2 =>
  cases h2 with
  | cons hii h3 =>
  cases h3 with
  | cons hx h4 =>
  cases h4
  cases hii
  obtain ⟨B1, hB1, hr1, hown1⟩ := H0.rel.get hg1
  rcases Nat.lt_or_ge i n with hlt | hge
  · -- in the middle
    generalize hN : n = N at hs
    cases hs with
    | sl0 => omega
    | sl h1 hcap hl hm =>
      rename_i b cap c
      subst hN
      generalize hone : (1 : Nat) = ONE at hx
      cases hx with
      | sl0 => omega
      | sl k1 kcap kl km =>
        rename_i vb vcap vc
        subst hone
        obtain ⟨B, hB, hr0, hown⟩ := H0.rel.get hg
        have eB : B = .blk b cap := by rw [h1] at hB; exact (Option.some.inj hB).symm
        have eB1 : B1 = .blk vb vcap := by rw [k1] at hB1; exact (Option.some.inj hB1).symm
        subst eB
        subst eB1
        rcases hr0 with ⟨q, _⟩ | ⟨b', cap', cur, ty, q, hb, hcz, hxl, hmx, hrel⟩
        · cases q
        rcases hr1 with ⟨q1, _⟩ | ⟨vb', vcap', varr, vty, q1, hvb, hvz, hvl, hvm, hvrel⟩
        · cases q1
        cases q
        cases q1
        rw [Nat.zero_add] at hcap kcap
        subst hcap
        subst kcap
        have hvs0 : LRel R [] (e.enc y) (varr.toList.take e.sz) := by simpa using hvrel
        obtain ⟨vs, hvs⟩ : ∃ vs, vs = varr.toList.take e.sz := ⟨_, rfl⟩
        rw [← hvs] at hvs0
        have hvlen : vs.length = e.sz := by rw [← hvs0.len, e.enc_len]
        have hone1 : ∀ v ∈ vs, v.oneCell' = true := lrel_one hvs0 (e.enc_cell y)
        have hcell : ∀ j v, vs[j]? = some v → w.cell? ⟨vb, 0 * e.sz + j, none⟩ = some v := fun j v hj => by
          rw [Nat.zero_mul, Nat.zero_add, cell_at hvb, ← Array.getElem?_toList]
          rw [hvs, List.getElem?_take] at hj
          split at hj
          · exact hj
          · cases hj
        have hcur1 : ∀ v ∈ cur.toList.take (n * e.sz), v.oneCell' = true := by
          rw [hn]
          exact lrel_one hrel (flat_cell e xs)
        have hbne : vb ≠ b := fun q => by
          subst q
          exact own_apart H0.nodup hne hg hB hg1 hB1 vb (by simp [ownC]) (by simp [ownC])
        have hvw : vb < w.heap.size := (Array.getElem?_eq_some_iff.1 hvb).1
        have hnew : ∀ row : Array Value, row.toList.take ((n + 1) * e.sz) = cur.toList.take (i * e.sz) ++ vs ++ (cur.toList.take (n * e.sz)).drop (i * e.sz) →
            LRel R [] ((xs.take i ++ y :: xs.drop i).flatMap e.enc) (row.toList.take ((xs.take i ++ y :: xs.drop i).length * e.sz)) := fun row hrow => by
          have hl1 : (xs.take i ++ y :: xs.drop i).length = n + 1 := by simp; omega
          rw [hl1, hrow, List.flatMap_append, List.flatMap_cons, ← List.append_assoc]
          have e1 : cur.toList.take (i * e.sz) = (cur.toList.take (n * e.sz)).take (i * e.sz) := by
            rw [List.take_take, Nat.min_eq_left (Nat.mul_le_mul_right _ hi)]
          rw [e1, flat_take, flat_drop, hn]
          exact ((hrel.take _).app hvs0).app (hrel.drop _)
        have hl1 : (xs.take i ++ y :: xs.drop i).length = n + 1 := by simp; omega
        rw [Nat.zero_mul] at *
        by_cases hroom : n + 1 ≤ c
        · refine (hS b n c vb 0 vc i cur ty vs w hlt hroom (by unfold maxLen at hm; omega) hbne hb hcz hcur1 hvlen (by simpa using hcell) hone1 vty varr.size (by simp [World.shape?, hvb]) (by simp [World.frozen?, hvb]) (by simp [World.frozen?, hvb])).mono ?_
          rintro e' w' ⟨rfl, row, hrow, hrz, rfl⟩
          obtain ⟨H1, hst⟩ := H0.move (c' := .rows e (xs.take i ++ y :: xs.drop i)) (B' := .blk b c) (w' := w.drew.setRow b row) hg hB (by simp [ownC]) (fun m _ hm => setRow_other w.drew b m _ (fun q => hm (by simp [ownC, q]))) (by simp)
            (.inr ⟨b, c, row, ty, rfl, setRow_heap w.drew b cur row ty (0, 0) hb, by rw [hrz, hcz], by rw [hl1]; exact hroom, hm, hnew row hrow⟩) rfl rfl rfl (Nat.le_succ _)
          refine ⟨_, R, _, _, _, rfl, H, ?_, H1, Ext.app _ _, hst⟩
          have h5 := Rel.sl (R := R) (μ := μ ++ [.blk b c]) (t := h.length) (e := e) (start := 0) (len := n + 1) (b := b) (cap := c) (c := c) (by rw [H0.rel.len]; simp) (by omega) hroom hm
          simpa using h5
        · refine (hG b n c vb 0 vc i cur ty vs w hlt (by omega) (by omega) ?_ hb hcz hcur1 hvlen hvw (by simpa using hcell) hone1).mono ?_
          · have := Nat.mul_le_mul (show n + 1 ≤ 1000000001 by omega) hby
            omega
          rintro e' w' ⟨G, row, rfl, hg1', hg2, hrow, hrz, hhp, hold, hws, q1, q2, q3, q4⟩
          have hgone := H0.set (c' := .gone) (w' := w) hg hB (gone_sub _ _) (fun _ _ _ => rfl) (Nat.le_refl _) trivial rfl rfl rfl
          obtain ⟨H1, hst⟩ := hgone.1.push (c := .rows e (xs.take i ++ y :: xs.drop i)) (B := .blk w.heap.size G) (w' := w') hold (by omega) (by simp [ownC]) (fun m hm => by simp [ownC] at hm; subst hm; exact ⟨Nat.le_refl _, by omega⟩)
            (.inr ⟨w.heap.size, G, row, E, rfl, hhp, hrz, by rw [hl1]; exact hg1', hg2, hnew row hrow⟩) q1 q2 q3 q4
          refine ⟨_, R, _, _, _, rfl, H, ?_, H1, Ext.app _ _, hgone.2.trans hst⟩
          have h5 := Rel.sl (R := R) (μ := μ ++ [.blk w.heap.size G]) (t := h.length) (e := e) (start := 0) (len := n + 1) (b := w.heap.size) (cap := G) (c := G) (by rw [H0.rel.len]; simp) (by omega) hg1' hg2
          simpa using h5
  · -- at the end
    obtain rfl : i = n := by omega
    have hK : appK P T T (.sl t e 0 i) (.sl u e 0 1) h (fun v h' => v = .sl h.length e 0 (i + 1) ∧ h' = h.set t .gone ++ [.rows e (xs ++ [y])]) := by
      unfold appK
      rw [hk]
      simp only [o, asE_self]
      refine ⟨⟨hsz, hzl⟩, hn, ?_⟩
      unfold appSrcK srcK
      simp only [o1, asE_self]
      refine ⟨by simp, by simp, ?_⟩
      rw [hn]
      refine ⟨⟨?_, ?_⟩, ?_⟩
      · have := Nat.mul_le_mul (show xs.length + ([y].drop 0 |>.take 1).length ≤ 1000000001 by simp; omega) hby
        unfold maxBytes
        omega
      · unfold maxBytes
        simp
        omega
      · simp
    have hfin : xs.take i ++ y :: xs.drop i = xs ++ [y] := by rw [hn, List.take_length, List.drop_length]
    rw [hfin] at H
    generalize hone : (1 : Nat) = ONE at hx
    cases hx with
    | sl0 => omega
    | sl k1 kcap kl km =>
      rename_i vb vcap vc
      subst hone
      have hx' : Rel R μ (.sl u e 0 1) (.slice (some ⟨vb, 0 * e.sz, none⟩) 1 vc) := .sl k1 kcap kl km
      generalize hN : i = N at hs
      cases hs with
      | sl0 h1 =>
        rename_i a
        rw [hN] at hK
        obtain ⟨v, w1, R', μ', h', av, hrun, ⟨rfl, rfl⟩, hrel, H1, hext, hst⟩ := appK_ok (ty := T) H0 (.sl0 h1) hx' hK
        subst hN
        refine (hE a 0 0 vb (0 * e.sz) vc v w w1 (Nat.le_refl _) (by omega) (fun _ => ⟨rfl, rfl⟩) hrun).mono ?_
        rintro e' w' ⟨rfl, rfl⟩
        exact ⟨_, R', μ', _, _, rfl, H, hrel, H1, hext, hst⟩
      | sl h1 hcap hl hm =>
        rename_i b cap c
        subst hN
        obtain ⟨v, w1, R', μ', h', av, hrun, ⟨rfl, rfl⟩, hrel, H1, hext, hst⟩ := appK_ok (ty := T) H0 (.sl h1 hcap hl hm) hx' hK
        refine (hE _ i c vb (0 * e.sz) vc v w w1 hl (by unfold maxLen at hm; omega) (fun q => by cases q) hrun).mono ?_
        rintro e' w' ⟨rfl, rfl⟩
        exact ⟨_, R', μ', _, _, rfl, H, hrel, H1, hext, hst⟩
theorem insS_ent (b n c vb vo vc i : Nat) (cur : Array Value) (ty : TypeId) (vs : List Value) (w : World) (hi : i < n) (hroom : n + 1 ≤ c) (hc63 : c ≤ 9223372036854775807) (hvb : vb ≠ b)
    (hb : w.heap[b]? = some (.cells cur ty (0, 0))) (hsz : cur.size = c * 5) (h1c : ∀ v ∈ cur.toList.take (n * 5), v.oneCell' = true)
    (hvl : vs.length = 5) (hvs : ∀ j v, vs[j]? = some v → w.cell? ⟨vb, vo + j, none⟩ = some v) (h1v : ∀ v ∈ vs, v.oneCell' = true)
    (tA : TypeId) (kA : Nat) (hsa : w.shape? vb = some (tA, kA)) (hfa : w.frozen? ⟨vb, vo, none⟩ = false) (hfe : w.frozen? ⟨vb, kA, none⟩ = false) :
    Calls Try.prog 34 #[.slice (some ⟨b, 0, none⟩) n c, .int .i64 i, .slice (some ⟨vb, vo, none⟩) 1 vc] w fun e w' => e = .returned (.slice (some ⟨b, 0, none⟩) (n + 1) c) ∧ ∃ row, row.toList.take ((n + 1) * 5) = cur.toList.take (i * 5) ++ vs ++ (cur.toList.take (n * 5)).drop (i * 5) ∧ row.size = cur.size ∧ w' = w.drew.setRow b row := by
  have hz1 : ¬ ((1 : Int) = 0) := by omega
  have hz2 : ¬ ((i : Int) = (n : Int)) := by omega
  have hw1 : IntKind.i64.wrap ((i : Int) + (1 : Int)) = (i : Int) + (1 : Int) := by rw [IntKind.wrap_i64]; omega
  have hb1 : (0 : Int) ≤ (i : Int) + (1 : Int) := by omega
  have hin : i ≤ n := by omega
  have htn : ((i : Int) + (1 : Int)).toNat = i + 1 := by omega
  have hb3 : (i : Int) ≤ (n : Int) + (1 : Int) := by omega
  have hb2 : ¬ (c = i + 1) := by omega
  have hb4 : ¬ (c = i) := by omega
  have hsz4 : (Try.prog.info? 66).map (·.size) = some 5 := by kernel_rfl
  have hu : Try.prog.underlying 61 = some (.slice 66) := Try.underlying61
  have hsb : ∃ tB kB, w.shape? b = some (tB, kB) ∧ kB ≠ 0 := by
    refine ⟨ty, cur.size, by simp [World.shape?, hb], by omega⟩
  obtain ⟨tB, kB, hsb, hkB⟩ := hsb
  have hov : ∀ lb cb, (callFunc 52 #[.slice (some ⟨vb, vo, none⟩) 1 vc, .slice (some ⟨b, (i + 1) * 5, none⟩) lb cb]).run Try.prog w = .ok (.value (.bool false)) w := fun lb cb => by
    rw [run_callFunc_extern Try.func52 (by kernel_rfl) (by kernel_rfl) (by kernel_rfl) (e := Extern.SlicesOverlaps.overlaps #[61, 61] #[4]) (by kernel_rfl),
      Lib.run_overlaps_apart w 61 4 66 hu 5 Try.sizeOf66 ⟨vb, vo, none⟩ ⟨b, (i + 1) * 5, none⟩ 1 vc lb cb hvb tA tB kA kB hsa hsb hkB hfa hfe]
    rfl
  have mixed := mixed
  obtain ⟨cs, hcs⟩ : ∃ cs, cs = (cur.toList.take (n * 5)).drop (i * 5) := ⟨_, rfl⟩
  have hcl : cs.length = (n - i) * 5 := by
    rw [hcs, List.length_drop, List.length_take, Array.length_toList, hsz, Nat.min_eq_left (Nat.mul_le_mul_right _ (by omega)), Nat.sub_mul]
  have hg1 : w.drew.heap[b]? = some (.cells cur ty (0, 0)) := hb
  obtain ⟨r1, hr1⟩ : ∃ r1, r1 = (cur.toList.take ((i + 1) * 5) ++ cs ++ cur.toList.drop ((i + 1) * 5 + cs.length)).toArray := ⟨_, rfl⟩
  have hcp1 : ∀ ty' dc sc, (Builtin.copy_ #[61, 61] ty' #[.slice (some ⟨b, (i + 1) * 5, none⟩) (n - i) dc, .slice (some ⟨b, i * 5, none⟩) (n + 1 - i) sc]).run Try.prog w.drew = .ok (goInt (Nat.min (n + 1 - i) (n - i))) (w.drew.setRow b r1) := fun ty' dc sc => by
    rw [hr1]
    refine run_copy_rowK _ w.drew _ _ ty' 66 b ((i + 1) * 5) (n - i) dc ⟨b, i * 5, none⟩ (n + 1 - i) sc cur ty cs 5 hu hsz4 hg1 ?_ ?_ ?_ ?_
    · rw [hcl, show Nat.min (n + 1 - i) (n - i) = n - i by simp only [Nat.min_def]; split <;> omega]
    · intro j v hj
      rw [Addr.add_lit]
      rw [hcs, List.getElem?_drop] at hj
      have hlt : i * 5 + j < n * 5 := by
        rcases Nat.lt_or_ge (i * 5 + j) (n * 5) with q | q
        · exact q
        · rw [List.getElem?_take_eq_none q] at hj; cases hj
      rw [List.getElem?_take_of_lt hlt] at hj
      simp only [World.cell?, hg1]
      simpa using hj
    · rw [hcl, hsz]; omega
    · intro v hv
      rw [hcs] at hv
      exact h1c v (List.mem_of_mem_drop hv)
  have hg2 : (w.drew.setRow b r1).heap[b]? = some (.cells r1 ty (0, 0)) := setRow_heap _ _ _ _ _ _ hg1
  have hr1z : r1.size = cur.size := by
    rw [hr1]
    simp only [List.size_toArray, List.length_append, List.length_take, List.length_drop, Array.length_toList, hcl, hsz]
    omega
  obtain ⟨r2, hr2⟩ : ∃ r2, r2 = (r1.toList.take (i * 5) ++ vs ++ r1.toList.drop (i * 5 + vs.length)).toArray := ⟨_, rfl⟩
  have hcp2 : ∀ ty' dc, (Builtin.copy_ #[61, 61] ty' #[.slice (some ⟨b, i * 5, none⟩) (n + 1 - i) dc, .slice (some ⟨vb, vo, none⟩) 1 vc]).run Try.prog (w.drew.setRow b r1) = .ok (goInt (Nat.min 1 (n + 1 - i))) (w.drew.setRow b r2) := fun ty' dc => by
    rw [← setRow_setRow w.drew b r1 r2, hr2]
    refine run_copy_rowK _ _ _ _ ty' 66 b (i * 5) (n + 1 - i) dc ⟨vb, vo, none⟩ 1 vc r1 ty vs 5 hu hsz4 hg2 ?_ ?_ ?_ h1v
    · rw [hvl, show Nat.min 1 (n + 1 - i) = 1 by simp only [Nat.min_def]; split <;> omega, Nat.one_mul]
    · intro j v hj
      rw [Addr.add_lit]
      have q := hvs j v hj
      have e : (w.drew.setRow b r1).heap[vb]? = w.heap[vb]? := by rw [setRow_other _ _ _ _ hvb]; rfl
      simp only [World.cell?] at q ⊢
      rw [e]
      exact q
    · rw [hvl, hr1z, hsz]; omega
  have hz2r : r2.size = cur.size := by
    rw [hr2]
    simp only [List.size_toArray, List.length_append, List.length_take, List.length_drop, Array.length_toList, hvl, hr1z, hsz]
    omega
  have hfin : r2.toList.take ((n + 1) * 5) = cur.toList.take (i * 5) ++ vs ++ (cur.toList.take (n * 5)).drop (i * 5) := by
    rw [← hcs, hr2, hr1]
    simp only []
    exact ins_list (by rw [Array.length_toList, hsz]; exact Nat.mul_le_mul_right _ hroom) (Nat.mul_le_mul_right _ hin) hcl hvl
  clear hr1 hr2 hcs
  go_enter Try.func34, Try.ntmps34
  go_wp2_with (simp only [hov])
  go_region_law_o (refine step_copy_runI rfl _ _ 61 61 rfl _ _ (by simp [Act.eval, Act.put]) (by simp [Act.eval, Act.put]) (hcp1 _ _ _) ?_)
  go_wp2_with (at_builtin; refine wpList_copy_runI _ rfl _ _ 61 61 rfl _ _ rfl rfl (hcp2 _ _) ?_)
  go_ret
  exact ⟨rfl, r2, hfin, hz2r, rfl⟩
theorem insG_ent (b n c vb vo vc i : Nat) (cur : Array Value) (ty : TypeId) (vs : List Value) (w : World) (hi : i < n) (hnc : n ≤ c) (hroom : c < n + 1) (hbig : (n + 1) * 56 ≤ 140737488355328)
    (hb : w.heap[b]? = some (.cells cur ty (0, 0))) (hsz : cur.size = c * 5) (h1c : ∀ v ∈ cur.toList.take (n * 5), v.oneCell' = true)
    (hvl : vs.length = 5) (hvw : vb < w.heap.size) (hvs : ∀ j v, vs[j]? = some v → w.cell? ⟨vb, vo + j, none⟩ = some v) (h1v : ∀ v ∈ vs, v.oneCell' = true) :
    Calls Try.prog 34 #[.slice (some ⟨b, 0, none⟩) n c, .int .i64 i, .slice (some ⟨vb, vo, none⟩) 1 vc] w fun e w' => ∃ G row, e = .returned (.slice (some ⟨w.heap.size, 0, none⟩) (n + 1) G) ∧ n + 1 ≤ G ∧ G ≤ maxLen ∧
      row.toList.take ((n + 1) * 5) = cur.toList.take (i * 5) ++ vs ++ (cur.toList.take (n * 5)).drop (i * 5) ∧ row.size = G * 5 ∧ w'.heap[w.heap.size]? = some (.cells row 66 (0, 0)) ∧
      (∀ m, m < w.heap.size → w'.heap[m]? = w.heap[m]?) ∧ w'.heap.size = w.heap.size + 1 ∧ w'.os = w.os ∧ w'.tape = w.tape ∧ w'.output = w.output ∧ w.drawn ≤ w'.drawn := by
  have mixed := mixed
  obtain ⟨i0, z, hi0, hz0, hzs⟩ := zero_info (P := Try.prog) (el := 66) (e := .ent) (by unfold zlenT; rw [ze_66]; rfl)
  have hib : i0.bytes = 56 := by
    have q := by_66
    unfold bytesT at q
    rw [hi0] at q
    exact q
  have hsz4 : (Try.prog.info? 66).map (·.size) = some 5 := by kernel_rfl
  have his : i0.size = 5 := by rw [hi0] at hsz4; simpa using hsz4
  have hzs : z.cells.size = 5 := hzs
  have hu : Try.prog.underlying 61 = some (.slice 66) := Try.underlying61
  have hz1 : ¬ ((1 : Int) = 0) := by omega
  have hz2 : ¬ ((i : Int) = (n : Int)) := by omega
  have hz3 : (c : Int) < (n : Int) + (1 : Int) := by omega
  have hbw : b < w.heap.size := (Array.getElem?_eq_some_iff.1 hb).1
  have hkk : (n : Int) + (1 : Int) - (i : Int) = ((n + 1 - i : Nat) : Int) := by omega
  have hik : i + (n + 1 - i) = n + 1 := by omega
  have hcn : c = n := by omega
  have hink : i * 5 ≤ n * 5 := Nat.mul_le_mul_right _ (by omega)
  have hold : (Builtin.firstCells i0.size i (.slice (some ⟨b, 0, none⟩) i c)).run Try.prog w.drew = .ok (cur.toList.take (i * 5)).toArray w.drew := by
    rw [his]
    refine run_firstCells_some w.drew 5 i ⟨b, 0, none⟩ i c (cur.toList.take (i * 5)) (by rw [List.length_take, Array.length_toList, hsz]; omega) fun j v hj => ?_
    rw [addr_add, Nat.zero_add]
    show w.cell? _ = _
    rw [cell_at hb, ← Array.getElem?_toList]
    rw [List.getElem?_take] at hj
    split at hj
    · exact hj
    · simp at hj
  obtain ⟨G, hG⟩ : ∃ G, G = grownCap w (n + 1) c 66 := ⟨_, rfl⟩
  obtain ⟨ROW, hROW⟩ : ∃ ROW : Array Value, ROW = (cur.toList.take (i * 5)).toArray ++ Builtin.zeroCells z.cells (n + 1 - i) ++ Builtin.zeroCells z.cells (G - (n + 1)) := ⟨_, rfl⟩
  have hrz : ∀ ty', (Builtin.append_ #[61, 3] ty' #[.slice (some ⟨b, 0, none⟩) i c, .int .i64 ((n : Int) + (1 : Int) - (i : Int))]).run Try.prog w =
      .ok (.slice (some ⟨w.heap.size, 0, none⟩) (n + 1) G) (w.drew.alloc (.cells ROW 66)) := fun ty' => by
    have h := Lib.run_append_grow_zeros w 61 3 ty' 66 i0 z .i64 .i64 hu Try.underlying3 hi0 hz0 (some ⟨b, 0, none⟩) i c (cur.toList.take (i * 5)) hold (n + 1 - i) (by omega) (by omega) (by omega) (by omega) (by rw [hib]; omega) (by rw [hib, hik]; exact growslice_fits hroom hbig)
    rw [hik, ← hG, ← hROW] at h
    rw [hkk]
    exact h
  have hGn : n + 1 ≤ G := by rw [hG]; exact grownCap_ge w _ _ _
  have hGM : G ≤ maxLen := by rw [hG]; exact grownCap_le_maxLen w _ _ _ (by unfold maxLen; omega)
  have hG63 : G ≤ 9223372036854775807 := by unfold maxLen at hGM; omega
  have hRl : ROW.size = G * 5 := by
    rw [hROW]
    simp only [Array.size_append, List.size_toArray, List.length_take, Array.length_toList, Builtin.zeroCells, Array.size_map, Array.size_range, hzs, hsz]
    omega
  obtain ⟨cs, hcs⟩ : ∃ cs, cs = (cur.toList.take (n * 5)).drop (i * 5) := ⟨_, rfl⟩
  have hcl : cs.length = (n - i) * 5 := by
    rw [hcs, List.length_drop, List.length_take, Array.length_toList, hsz, Nat.min_eq_left (Nat.mul_le_mul_right _ (by omega)), Nat.sub_mul]
  obtain ⟨r1, hr1⟩ : ∃ r1, r1 = (ROW.toList.take (i * 5) ++ vs ++ ROW.toList.drop (i * 5 + vs.length)).toArray := ⟨_, rfl⟩
  obtain ⟨r2, hr2⟩ : ∃ r2, r2 = (r1.toList.take ((i + 1) * 5) ++ cs ++ r1.toList.drop ((i + 1) * 5 + cs.length)).toArray := ⟨_, rfl⟩
  have hr1z : r1.size = G * 5 := by
    rw [hr1]
    simp only [List.size_toArray, List.length_append, List.length_take, List.length_drop, Array.length_toList, hvl, hRl]
    omega
  have hr2z : r2.size = G * 5 := by
    rw [hr2]
    simp only [List.size_toArray, List.length_append, List.length_take, List.length_drop, Array.length_toList, hcl, hr1z]
    omega
  obtain ⟨N, hN⟩ : ∃ N, N = w.heap.size := ⟨_, rfl⟩
  have hcpA : ∀ (W : World), W.heap = (w.alloc (.cells ROW 66)).heap → ∀ ty' dc, (Builtin.copy_ #[61, 61] ty' #[.slice (some ⟨w.heap.size, i * 5, none⟩) (n + 1 - i) dc, .slice (some ⟨vb, vo, none⟩) 1 vc]).run Try.prog W = .ok (goInt (Nat.min 1 (n + 1 - i))) (W.setRow w.heap.size r1) := fun W hW ty' dc => by
    have hg : W.heap[w.heap.size]? = some (.cells ROW 66 (0, 0)) := by rw [hW]; exact heap_alloc_new w _
    rw [hr1]
    refine run_copy_rowK _ W _ _ ty' 66 w.heap.size (i * 5) (n + 1 - i) dc ⟨vb, vo, none⟩ 1 vc ROW 66 vs 5 hu hsz4 hg ?_ ?_ ?_ h1v
    · rw [hvl, show Nat.min 1 (n + 1 - i) = 1 by simp only [Nat.min_def]; split <;> omega, Nat.one_mul]
    · intro j v hj
      rw [Addr.add_lit]
      have q := hvs j v hj
      have e : W.heap[vb]? = w.heap[vb]? := by rw [hW]; exact RowKit.Below.heap_alloc w _ vb hvw
      simp only [World.cell?] at q ⊢
      rw [e]
      exact q
    · rw [hvl, hRl]; omega
  have hcpB : ∀ (W : World), W.heap = ((w.alloc (.cells ROW 66)).setRow w.heap.size r1).heap → ∀ ty' dc sc, (Builtin.copy_ #[61, 61] ty' #[.slice (some ⟨w.heap.size, (i + 1) * 5, none⟩) (n - i) dc, .slice (some ⟨b, i * 5, none⟩) (n - i) sc]).run Try.prog W = .ok (goInt (Nat.min (n - i) (n - i))) (W.setRow w.heap.size r2) := fun W hW ty' dc sc => by
    have hg : W.heap[w.heap.size]? = some (.cells r1 66 (0, 0)) := by rw [hW]; exact setRow_heap _ _ _ _ _ _ (heap_alloc_new w _)
    rw [hr2]
    refine run_copy_rowK _ W _ _ ty' 66 w.heap.size ((i + 1) * 5) (n - i) dc ⟨b, i * 5, none⟩ (n - i) sc r1 66 cs 5 hu hsz4 hg ?_ ?_ ?_ ?_
    · rw [hcl, show Nat.min (n - i) (n - i) = n - i by simp only [Nat.min_def]; split <;> omega]
    · intro j v hj
      rw [Addr.add_lit]
      rw [hcs, List.getElem?_drop] at hj
      have hlt : i * 5 + j < n * 5 := by
        rcases Nat.lt_or_ge (i * 5 + j) (n * 5) with q | q
        · exact q
        · rw [List.getElem?_take_eq_none q] at hj; cases hj
      rw [List.getElem?_take_of_lt hlt] at hj
      have e : W.heap[b]? = w.heap[b]? := by
        rw [hW, setRow_other _ _ _ _ (by omega)]; exact RowKit.Below.heap_alloc w _ b hbw
      simp only [World.cell?, e, hb]
      simpa using hj
    · rw [hcl, hr1z]; omega
    · intro v hv
      rw [hcs] at hv
      exact h1c v (List.mem_of_mem_drop hv)
  have hfin : r2.toList.take ((n + 1) * 5) = cur.toList.take (i * 5) ++ vs ++ (cur.toList.take (n * 5)).drop (i * 5) := by
    rw [← hcs, hr2, hr1, hROW]
    exact insG_list (by rw [List.length_take, Array.length_toList, hsz]; omega) hvl (by rw [hcl]; omega)
  clear hkk hik hold hROW hG hRl hr1 hr2 hcs hcn hink
  have hin : i ≤ n := by omega
  have hw1 : IntKind.i64.wrap ((i : Int) + (1 : Int)) = (i : Int) + (1 : Int) := by rw [IntKind.wrap_i64]; omega
  have hb1 : (0 : Int) ≤ (i : Int) + (1 : Int) := by omega
  have htn : ((i : Int) + (1 : Int)).toNat = i + 1 := by omega
  have hb3 : (i : Int) ≤ (n : Int) := by omega
  have hGi : ¬ (G = i) := by omega
  have hGim : ¬ (G = i + 1) := by omega
  have hci : ¬ (c = i) := by omega
  have hbN : b ≠ w.heap.size := by omega
  have hA := hcpA ((w.alloc (.cells ROW 66)).drew) rfl
  have hB := hcpB (((w.alloc (.cells ROW 66)).drew.setRow w.heap.size r1).drew) rfl
  clear hcpA hcpB
  go_enter Try.func34, Try.ntmps34
  go_wp2_with (first
    | (at_builtin; refine Lib.wpList_append_run _ rfl _ _ _ _ rfl _ _ rfl rfl _ _ (hrz _) ?_)
    | (at_builtin; refine wpList_copy_runI _ rfl _ _ 61 61 rfl _ _ rfl rfl (hA _ _) ?_))
  go_region_law_o (refine step_copy_runI rfl _ _ 61 61 rfl (.slice (some ⟨w.heap.size, (i + 1) * 5, none⟩) (n - i) (G - (i + 1))) (.slice (some ⟨b, i * 5, none⟩) (n - i) (c - i)) (by simp [Act.eval, Act.put]) (by simp [Act.eval, Act.put]) (hB 3 (G - (i + 1)) (c - i)) ?_)
  go_wp2
  go_ret
  refine ⟨G, r2, rfl, hGn, hGM, hfin, hr2z, ?_, fun m hm => ?_, ?_, rfl, rfl, rfl, ?_⟩
  · exact setRow_heap _ _ r1 _ _ _ (setRow_heap _ _ ROW _ _ _ (heap_alloc_new w _))
  · rw [setRow_other _ _ _ _ (by omega)]
    show ((w.alloc (.cells ROW 66)).setRow w.heap.size r1).heap[m]? = _
    rw [setRow_other _ _ _ _ (by omega)]
    exact RowKit.Below.heap_alloc w _ m hm
  · simp
  · simp; omega
theorem insE_ent (s : Option Addr) (n c vb vo vc : Nat) (v : Value) (w w1 : World) (hnc : n ≤ c) (hc63 : c ≤ 9223372036854775807) (hnil : s = none → n = 0 ∧ c = 0)
    (hrun : (Builtin.append_ #[61, 61] 61 #[.slice s n c, .slice (some ⟨vb, vo, none⟩) 1 vc]).run Try.prog w = .ok v w1) :
    Calls Try.prog 34 #[.slice s n c, .int .i64 n, .slice (some ⟨vb, vo, none⟩) 1 vc] w fun e w' => e = .returned v ∧ w' = w1 := by
  have mixed := mixed
  have hz1 : ¬ ((1 : Int) = 0) := by omega
  go_enter Try.func34, Try.ntmps34
  cases s with
  | none =>
    obtain ⟨rfl, rfl⟩ := hnil rfl
    go_wp2_with (at_builtin; refine Lib.wpList_append_run _ rfl _ _ _ _ rfl _ _ rfl rfl _ _ hrun ?_)
    go_ret
    exact ⟨rfl, rfl⟩
  | some a =>
    obtain ⟨ab, ao, asp⟩ := a
    go_wp2_with (at_builtin; refine Lib.wpList_append_run _ rfl _ _ _ _ rfl _ _ rfl rfl _ _ hrun ?_)
    all_goals (go_ret; exact ⟨rfl, rfl⟩)
theorem c_ins_ent {h : List Ch} {K : KT} {t u n : Nat} {xs : List Ent} {y : Ent} {i : Nat} (H : K (.sl h.length .ent 0 (n + 1)) (h.set t .gone ++ [.rows .ent (xs.take i ++ y :: xs.drop i)])) (o : hth h t = .rows .ent xs) (o1 : hth h u = .rows .ent [y]) (s1 : n = xs.length) (s2 : i ≤ n) (s3 : xs.length ≤ 1000000000) (s4 : t ≠ u) : Does Try.prog 34 [.sl t .ent 0 n, .int .i64 (i : Int), .sl u .ent 0 1] h K :=
  ins_ok (e := .ent) ⟨_, fn_34, rfl, rfl⟩ (T := 61) (E := 66) kd_61 sz_66 (by unfold zlenT; rw [ze_66]; rfl) (by rw [by_66]; decide) insE_ent insS_ent (by rw [by_66]; exact insG_ent) s1 s2 s3 s4 o o1 H
abbrev i_ins_ent := Ctr.mk (i := 0) (g := 34) @c_ins_ent
attribute [instance] i_ins_ent
end Go.V

set_option maxRecDepth 100000
set_option maxHeartbeats 8000000
namespace Go.V
open Go.Proofs
theorem and14 (g : Int) (h : I64 g) : bitsI .and .i64 g 16383 = g % 16384 := by
  have e : (BitVec.ofInt 64 g &&& BitVec.ofInt 64 16383).toNat = (g % 16384).toNat := by
    rw [BitVec.toNat_and]
    have e1 : (BitVec.ofInt 64 16383).toNat = 2 ^ 14 - 1 := by decide
    rw [e1, Nat.and_two_pow_sub_one_eq_mod, BitVec.toNat_ofInt]
    omega
  show IntKind.i64.wrap ((BitVec.ofInt 64 g &&& BitVec.ofInt 64 16383).toNat : Int) = _
  rw [e, wrap_i64 _ (by omega) (by omega)]
  omega
/-- a count of a packet -/
def ct (a : Int) : Bool := decide (0 ≤ a) && decide (a < 16384)
theorem b_sval (a : Int) : DoesK Try.prog 0 59 [.int .i64 a, .int .i64 14] [] (EndF 0 (.bool (ct a)) []) := by
  refine DoesK.close ?_
  unfold ct
  have hw : IntKind.i64.wrap 16384 = 16384 := by decide
  by_cases c1 : 0 ≤ a
  · have d1 : decide (0 ≤ a) = true := decide_eq_true c1
    refine w_body (rs := [.tmp 4]) (tm := [.int .i64 a, .int .i64 14, .any, .any, .any, .any, .any, .any, .any, .any, .any, .any, .any, .any, .any, .any, .any, .any, .any, .any, .any]) fn_59 rfl rfl rfl rfl fun R hR => ?_
    (have zx1 := @d1; all_goals (try ((first | (with_reducible refine wp_id ?_) | (with_reducible refine does_id ?_) | (with_reducible refine ops_id ?_)); refine walk ?_; (repeat' (first | exact trivial | with_reducible refine And.intro ?_ ?_)); all_goals (repeat (first | (with_reducible refine ImpB.mk fun hb => ?_) | (with_reducible refine ImpK.mk fun hK => ?_) | (with_reducible refine ImpF.mk fun hF => ?_) | (with_reducible refine ImpQ.mk fun hp => ?_) | (with_reducible refine AllE.mk fun p => ?_) | (with_reducible refine AllR.mk fun rest => ?_) | (with_reducible refine AllK.mk fun K => ?_))))); repeat' (with_reducible refine And.intro ?_ ?_))
    rw [hw, Bool.true_and]
    (focus (refine ⟨_, _, Gh.refl, [], rfl, ?_⟩; (refine fitq ?_ ?_ ?_ <;> try exact trivial); (try any_goals (refine ⟨?_, ?_⟩)); (try any_goals (with_reducible rfl))))
    all_goals (repeat' (first | (refine And.intro ?_ ?_) | rfl))
  · have d1 : decide (0 ≤ a) = false := decide_eq_false c1
    refine w_body (rs := [.tmp 4]) (tm := [.int .i64 a, .int .i64 14, .any, .any, .any, .any, .any, .any, .any, .any, .any, .any, .any, .any, .any, .any, .any, .any, .any, .any, .any]) fn_59 rfl rfl rfl rfl fun R hR => ?_
    (have zx1 := @d1; all_goals (try ((first | (with_reducible refine wp_id ?_) | (with_reducible refine does_id ?_) | (with_reducible refine ops_id ?_)); refine walk ?_; (repeat' (first | exact trivial | with_reducible refine And.intro ?_ ?_)); all_goals (repeat (first | (with_reducible refine ImpB.mk fun hb => ?_) | (with_reducible refine ImpK.mk fun hK => ?_) | (with_reducible refine ImpF.mk fun hF => ?_) | (with_reducible refine ImpQ.mk fun hp => ?_) | (with_reducible refine AllE.mk fun p => ?_) | (with_reducible refine AllR.mk fun rest => ?_) | (with_reducible refine AllK.mk fun K => ?_))))); repeat' (with_reducible refine And.intro ?_ ?_))
    rw [Bool.false_and]
    (focus (refine ⟨_, _, Gh.refl, [], rfl, ?_⟩; (refine fitq ?_ ?_ ?_ <;> try exact trivial); (try any_goals (refine ⟨?_, ?_⟩)); (try any_goals (with_reducible rfl))))
    all_goals (repeat' (first | (refine And.intro ?_ ?_) | rfl))
theorem c_sval {h : List Ch} {K : KT} {a : Int} (H : K (.bool (ct a)) h) : Does Try.prog 59 [.int .i64 a, .int .i64 14] h K :=
  frame_pure (b_sval a) (br_cons br_int (br_cons br_int br_nil)) (.inr rfl) (fun _ => rfl) H
abbrev i_sval := Ctr.mk (i := 0) (g := 59) @c_sval
attribute [instance] i_sval
theorem ct_ok {a : Int} (h : 0 ≤ a ∧ a < 16384) : ct a = true := by unfold ct; simp; omega
theorem b_sadd (a n : Int) (h : 0 ≤ a ∧ a < 16384) (hn : -16384 ≤ n ∧ n ≤ 0) : DoesK Try.prog 0 60 [.int .i64 a, .int .i64 n, .int .i64 14] [] (EndF 0 (.int .i64 ((a + n) % 16384)) []) := by
  refine DoesK.close ?_
  have hc := ct_ok h
  refine w_body (rs := [.tmp 6]) (tm := [.int .i64 a, .int .i64 n, .int .i64 14, .any, .any, .any, .any, .any, .any, .any, .any, .any, .any, .any, .any, .any, .any, .any, .any, .any]) fn_60 rfl rfl rfl rfl fun R hR => ?_
  have hu : ∀ x, IntKind.u64.wrap x = x % 18446744073709551616 := fun x => rfl
  have hq : IntKind.u64.wrap 16384 = 16384 := by decide
  have hE : IntKind.i64.wrap ((IntKind.u64.wrap (IntKind.u64.wrap a + IntKind.u64.wrap n)).tmod (IntKind.u64.wrap 16384)) = (a + n) % 16384 := by
    rw [hq, hu, hu, hu, Int.tmod_eq_emod_of_nonneg (by omega), wrap_i64 _ (by omega) (by omega)]
    omega
  (have zx1 := @hc; all_goals (try ((first | (with_reducible refine wp_id ?_) | (with_reducible refine does_id ?_) | (with_reducible refine ops_id ?_)); refine walk ?_; (repeat' (first | exact trivial | with_reducible refine And.intro ?_ ?_)); all_goals (repeat (first | (with_reducible refine ImpB.mk fun hb => ?_) | (with_reducible refine ImpK.mk fun hK => ?_) | (with_reducible refine ImpF.mk fun hF => ?_) | (with_reducible refine ImpQ.mk fun hp => ?_) | (with_reducible refine AllE.mk fun p => ?_) | (with_reducible refine AllR.mk fun rest => ?_) | (with_reducible refine AllK.mk fun K => ?_))))); repeat' (with_reducible refine And.intro ?_ ?_))
  · rw [hq] at hb; cases hb
  rw [hE]
  (focus (refine ⟨_, _, Gh.refl, [], rfl, ?_⟩; (refine fitq ?_ ?_ ?_ <;> try exact trivial); (try any_goals (refine ⟨?_, ?_⟩)); (try any_goals (with_reducible rfl))))
  all_goals (repeat' (first | (refine And.intro ?_ ?_) | rfl))
theorem c_sadd {h : List Ch} {K : KT} {a n : Int} (H : K (.int .i64 ((a + n) % 16384)) h) (s1 : 0 ≤ a ∧ a < 16384) (s2 : -16384 ≤ n ∧ n ≤ 0) : Does Try.prog 60 [.int .i64 a, .int .i64 n, .int .i64 14] h K :=
  frame_pure (b_sadd a n s1 s2) (br_cons br_int (br_cons br_int (br_cons br_int br_nil))) (.inr rfl) (fun _ => rfl) H
abbrev i_sadd := Ctr.mk (i := 0) (g := 60) @c_sadd
attribute [instance] i_sadd
theorem b_sdist (a b : Int) (h : 0 ≤ a ∧ a < 16384) (hb : 0 ≤ b ∧ b < 16384) : DoesK Try.prog 0 51 [.int .i64 a, .int .i64 b, .int .i64 14] [] (EndF 0 (.int .i64 ((b - a) % 16384)) []) := by
  refine DoesK.close ?_
  have hc := ct_ok h
  have hd := ct_ok hb
  have hw : IntKind.i64.wrap (0 - a) = -a := by rw [wrap_i64 _ (by omega) (by omega)]; omega
  have hw2 : IntKind.i64.wrap (-a) = -a := wrap_i64 _ (by omega) (by omega)
  have hr : (b + -a) % 16384 = (b - a) % 16384 := by congr 1
  have hs2 : -16384 ≤ -a ∧ -a ≤ 0 := by omega
  refine w_body (rs := [.tmp 6]) (tm := [.int .i64 a, .int .i64 b, .int .i64 14, .any, .any, .any, .any, .any, .any, .any, .any, .any, .any, .any, .any, .any, .any, .any, .any, .any, .any, .any]) fn_51 rfl rfl rfl rfl fun R hR => ?_
  (have zx1 := @hc; have zx2 := @hd; have zx3 := @hw; have zx4 := @hw2; have zx5 := @hr; all_goals (try ((first | (with_reducible refine wp_id ?_) | (with_reducible refine does_id ?_) | (with_reducible refine ops_id ?_)); refine walk ?_; (repeat' (first | exact trivial | with_reducible refine And.intro ?_ ?_)); all_goals (repeat (first | (with_reducible refine ImpB.mk fun hb => ?_) | (with_reducible refine ImpK.mk fun hK => ?_) | (with_reducible refine ImpF.mk fun hF => ?_) | (with_reducible refine ImpQ.mk fun hp => ?_) | (with_reducible refine AllE.mk fun p => ?_) | (with_reducible refine AllR.mk fun rest => ?_) | (with_reducible refine AllK.mk fun K => ?_))))); repeat' (with_reducible refine And.intro ?_ ?_))
  (focus (refine ⟨_, _, Gh.refl, [], rfl, ?_⟩; (refine fitq ?_ ?_ ?_ <;> try exact trivial); (try any_goals (refine ⟨?_, ?_⟩)); (try any_goals (with_reducible rfl))))
  all_goals (repeat' (first | (refine And.intro ?_ ?_) | rfl))
theorem c_sdist {h : List Ch} {K : KT} {a b : Int} (H : K (.int .i64 ((b - a) % 16384)) h) (s1 : 0 ≤ a ∧ a < 16384) (s2 : 0 ≤ b ∧ b < 16384) : Does Try.prog 51 [.int .i64 a, .int .i64 b, .int .i64 14] h K :=
  frame_pure (b_sdist a b s1 s2) (br_cons br_int (br_cons br_int (br_cons br_int br_nil))) (.inr rfl) (fun _ => rfl) H
abbrev i_sdist := Ctr.mk (i := 0) (g := 51) @c_sdist
attribute [instance] i_sdist
/-- the extended count behind the greatest one -/
def ext (g c : Int) : Int := if (c - g) % 16384 ≤ 8192 then g + (c - g) % 16384 else g + (c - g) % 16384 - 16384
theorem b_ext (g c : Int) (hg : -1099511627776 ≤ g ∧ g ≤ 1099511627776) (hc : 0 ≤ c ∧ c < 16384) : DoesK Try.prog 0 32 [.int .i64 g, .int .i64 c] [] (EndF 0 (.int .i64 (ext g c)) []) := by
  refine DoesK.close ?_
  have ha : bitsI .and .i64 g 16383 = g % 16384 := and14 g ⟨by omega, by omega⟩
  have h1 : 0 ≤ g % 16384 ∧ g % 16384 < 16384 := by omega
  have e1 : (c - g % 16384) % 16384 = (c - g) % 16384 := by omega
  by_cases c1 : (c - g) % 16384 ≤ 8192
  · have d1 : decide ((c - g) % 16384 ≤ 8192) = true := decide_eq_true c1
    have hw : IntKind.i64.wrap (g + (c - g) % 16384) = g + (c - g) % 16384 := wrap_i64 _ (by omega) (by omega)
    have hr : ext g c = g + (c - g) % 16384 := if_pos c1
    rw [hr]
    refine w_body (rs := [.tmp 4]) (tm := [.int .i64 g, .int .i64 c, .any, .any, .any, .any, .any, .any, .any, .any, .any, .any, .any, .any, .any, .any, .any, .any, .any, .any, .any, .any]) fn_32 rfl rfl rfl rfl fun R hR => ?_
    (have zx1 := @ha; have zx2 := @e1; have zx3 := @d1; have zx4 := @hw; all_goals (try ((first | (with_reducible refine wp_id ?_) | (with_reducible refine does_id ?_) | (with_reducible refine ops_id ?_)); refine walk ?_; (repeat' (first | exact trivial | with_reducible refine And.intro ?_ ?_)); all_goals (repeat (first | (with_reducible refine ImpB.mk fun hb => ?_) | (with_reducible refine ImpK.mk fun hK => ?_) | (with_reducible refine ImpF.mk fun hF => ?_) | (with_reducible refine ImpQ.mk fun hp => ?_) | (with_reducible refine AllE.mk fun p => ?_) | (with_reducible refine AllR.mk fun rest => ?_) | (with_reducible refine AllK.mk fun K => ?_))))); repeat' (with_reducible refine And.intro ?_ ?_))
    (focus (refine ⟨_, _, Gh.refl, [], rfl, ?_⟩; (refine fitq ?_ ?_ ?_ <;> try exact trivial); (try any_goals (refine ⟨?_, ?_⟩)); (try any_goals (with_reducible rfl))))
    all_goals (repeat' (first | (refine And.intro ?_ ?_) | rfl))
  · have d1 : decide ((c - g) % 16384 ≤ 8192) = false := decide_eq_false c1
    have hw : IntKind.i64.wrap (g - (g % 16384 - c) % 16384) = ext g c := by
      unfold ext
      rw [if_neg c1, wrap_i64 _ (by omega) (by omega)]
      omega
    refine w_body (rs := [.tmp 4]) (tm := [.int .i64 g, .int .i64 c, .any, .any, .any, .any, .any, .any, .any, .any, .any, .any, .any, .any, .any, .any, .any, .any, .any, .any, .any, .any]) fn_32 rfl rfl rfl rfl fun R hR => ?_
    (have zx1 := @ha; have zx2 := @e1; have zx3 := @d1; have zx4 := @hw; all_goals (try ((first | (with_reducible refine wp_id ?_) | (with_reducible refine does_id ?_) | (with_reducible refine ops_id ?_)); refine walk ?_; (repeat' (first | exact trivial | with_reducible refine And.intro ?_ ?_)); all_goals (repeat (first | (with_reducible refine ImpB.mk fun hb => ?_) | (with_reducible refine ImpK.mk fun hK => ?_) | (with_reducible refine ImpF.mk fun hF => ?_) | (with_reducible refine ImpQ.mk fun hp => ?_) | (with_reducible refine AllE.mk fun p => ?_) | (with_reducible refine AllR.mk fun rest => ?_) | (with_reducible refine AllK.mk fun K => ?_))))); repeat' (with_reducible refine And.intro ?_ ?_))
    (focus (refine ⟨_, _, Gh.refl, [], rfl, ?_⟩; (refine fitq ?_ ?_ ?_ <;> try exact trivial); (try any_goals (refine ⟨?_, ?_⟩)); (try any_goals (with_reducible rfl))))
    all_goals (repeat' (first | (refine And.intro ?_ ?_) | rfl))
theorem c_ext {h : List Ch} {K : KT} {g c : Int} (H : K (.int .i64 (ext g c)) h) (s1 : -1099511627776 ≤ g ∧ g ≤ 1099511627776) (s2 : 0 ≤ c ∧ c < 16384) : Does Try.prog 32 [.int .i64 g, .int .i64 c] h K :=
  frame_pure (b_ext g c s1 s2) (br_cons br_int (br_cons br_int br_nil)) (.inr rfl) (fun _ => rfl) H
abbrev i_ext := Ctr.mk (i := 0) (g := 32) @c_ext
attribute [instance] i_ext
end Go.V

set_option maxRecDepth 100000
set_option maxHeartbeats 8000000
namespace Go.V
open Go.Proofs
/-- an empty archive, and one with one application process, as they lie -/
def AE : List Ch := [.cells [.bool true, .lit (.slice none 0 0)]]
def AO (p : Int) (xs : List Ent) : List Ch := [.cells [.bool true, .csl 1 1 2], .crow [.int .i64 p, .sl 2 .ent 0 xs.length], .rows .ent xs]
attribute [go_sem] AE AO
theorem b_anew : DoesK Try.prog 0 9 [] [] (EndF 0 (.ptr 0 0) [.pack AE]) := by
  refine DoesK.close ?_
  refine w_body (rs := [.tmp 0]) (tm := [.any, .any, .any]) fn_9 rfl rfl rfl rfl fun R hR => ?_
  (all_goals (try ((first | (with_reducible refine wp_id ?_) | (with_reducible refine does_id ?_) | (with_reducible refine ops_id ?_)); refine walk ?_; (repeat' (first | exact trivial | with_reducible refine And.intro ?_ ?_)); all_goals (repeat (first | (with_reducible refine ImpB.mk fun hb => ?_) | (with_reducible refine ImpK.mk fun hK => ?_) | (with_reducible refine ImpF.mk fun hF => ?_) | (with_reducible refine ImpQ.mk fun hp => ?_) | (with_reducible refine AllE.mk fun p => ?_) | (with_reducible refine AllR.mk fun rest => ?_) | (with_reducible refine AllK.mk fun K => ?_))))); repeat' (with_reducible refine And.intro ?_ ?_))
  (focus (refine ⟨_, _, gh_close (t := 0) (ts := []) (l := AE) ⟨⟨_, _, rfl⟩, ?_, by simp⟩, [0], rfl, ?_⟩; all_goals (refine fitq ?_ ?_ ?_ <;> try exact trivial); (try any_goals (refine ⟨?_, ?_⟩)); (try any_goals (with_reducible rfl))))
  all_goals (repeat' (first | (refine And.intro ?_ ?_) | rfl))
theorem c_anew {h : List Ch} {K : KT} (H : K (.ptr h.length 0) (h ++ [.pack AE])) : Does Try.prog 9 [] h K :=
  frame_new b_anew br_nil (.inl rfl) (fun _ => rfl) (by simp [renA, renL, rhoC]) H
abbrev i_anew := Ctr.mk (i := 0) (g := 9) @c_anew
attribute [instance] i_anew
theorem b_cln0 : DoesK Try.prog 0 50 [.lit (.slice none 0 0)] [] (EndF 0 (.lit (.slice none 0 0)) []) := by
  refine DoesK.close ?_
  refine w_body (rs := [.tmp 2]) (tm := [.lit (.slice none 0 0), .any, .any, .any, .any, .any, .any, .any]) fn_50 rfl rfl rfl rfl fun R hR => ?_
  (all_goals (try ((first | (with_reducible refine wp_id ?_) | (with_reducible refine does_id ?_) | (with_reducible refine ops_id ?_)); refine walk ?_; (repeat' (first | exact trivial | with_reducible refine And.intro ?_ ?_)); all_goals (repeat (first | (with_reducible refine ImpB.mk fun hb => ?_) | (with_reducible refine ImpK.mk fun hK => ?_) | (with_reducible refine ImpF.mk fun hF => ?_) | (with_reducible refine ImpQ.mk fun hp => ?_) | (with_reducible refine AllE.mk fun p => ?_) | (with_reducible refine AllR.mk fun rest => ?_) | (with_reducible refine AllK.mk fun K => ?_))))); repeat' (with_reducible refine And.intro ?_ ?_))
  · exact ⟨_, rfl⟩
  (focus (refine ⟨_, _, Gh.refl, [], rfl, ?_⟩; (refine fitq ?_ ?_ ?_ <;> try exact trivial); (try any_goals (refine ⟨?_, ?_⟩)); (try any_goals (with_reducible rfl))))
  all_goals (repeat' (first | (refine And.intro ?_ ?_) | rfl))
theorem c_cln0 {h : List Ch} {K : KT} (H : K (.lit (.slice none 0 0)) h) : Does Try.prog 50 [.lit (.slice none 0 0)] h K :=
  frame_pure b_cln0 (br_cons br_lit br_nil) (.inr rfl) (fun _ => rfl) H
abbrev i_cln0 := Ctr.mk (i := 0) (g := 50) @c_cln0
attribute [instance] i_cln0
theorem b_dup (a c t : Int) : DoesK Try.prog 0 31 [.agg [.int .i64 a, .int .i64 c, .int .i64 t, .lit (.slice none 0 0)]] [] (EndF 0 (.agg [.int .i64 a, .int .i64 c, .int .i64 t, .lit (.slice none 0 0)]) []) := by
  refine DoesK.close ?_
  refine w_body (rs := [.cell 2 31]) (tm := [.agg [.int .i64 a, .int .i64 c, .int .i64 t, .lit (.slice none 0 0)], .any, .any, .any, .any, .any, .any, .any]) fn_31 rfl rfl rfl rfl fun R hR => ?_
  (all_goals (try ((first | (with_reducible refine wp_id ?_) | (with_reducible refine does_id ?_) | (with_reducible refine ops_id ?_)); refine walk ?_; (repeat' (first | exact trivial | with_reducible refine And.intro ?_ ?_)); all_goals (repeat (first | (with_reducible refine ImpB.mk fun hb => ?_) | (with_reducible refine ImpK.mk fun hK => ?_) | (with_reducible refine ImpF.mk fun hF => ?_) | (with_reducible refine ImpQ.mk fun hp => ?_) | (with_reducible refine AllE.mk fun p => ?_) | (with_reducible refine AllR.mk fun rest => ?_) | (with_reducible refine AllK.mk fun K => ?_))))); repeat' (with_reducible refine And.intro ?_ ?_))
  (focus (refine ⟨_, _, Gh.refl, [], rfl, ?_⟩; (refine fitq ?_ ?_ ?_ <;> try exact trivial); (try any_goals (refine ⟨?_, ?_⟩)); (try any_goals (with_reducible rfl))))
  all_goals (repeat' (first | (refine And.intro ?_ ?_) | rfl))
theorem c_dup {h : List Ch} {K : KT} {a c t : Int} (H : K (.agg [.int .i64 a, .int .i64 c, .int .i64 t, .lit (.slice none 0 0)]) h) : Does Try.prog 31 [.agg [.int .i64 a, .int .i64 c, .int .i64 t, .lit (.slice none 0 0)]] h K :=
  frame_pure (b_dup a c t) (br_cons (br_agg (br_cons br_int (br_cons br_int (br_cons br_int (br_cons br_lit br_nil))))) br_nil) (.inr rfl) (fun _ => rfl) H
abbrev i_dup := Ctr.mk (i := 0) (g := 31) @c_dup
attribute [instance] i_dup
/-- an item that is right -/
structure isIt (p c t : Int) : Prop where
  p1 : 0 ≤ p
  p2 : p ≤ 2046
  c1 : 0 ≤ c
  c2 : c < 16384
  t1 : 0 ≤ t
  t2 : t ≤ 1099511627776
theorem b_right (a c t : Int) (h : isIt a c t) : DoesK Try.prog 0 28 [.agg [.int .i64 a, .int .i64 c, .int .i64 t, .lit (.slice none 0 0)]] [] (EndF 0 (.bool true) []) := by
  refine DoesK.close ?_
  obtain ⟨h1, h2, h3, h4, h5, h6⟩ := h
  have d1 := decide_eq_true h1
  have d2 := decide_eq_true h2
  have d3 := decide_eq_true h3
  have d4 := decide_eq_true h4
  have d5 := decide_eq_true h5
  have d6 := decide_eq_true h6
  refine w_body (rs := [.tmp 2]) (tm := [.agg [.int .i64 a, .int .i64 c, .int .i64 t, .lit (.slice none 0 0)], .any, .any, .any, .any, .any, .any, .any, .any, .any, .any, .any, .any, .any, .any, .any, .any, .any, .any, .any, .any, .any, .any, .any, .any, .any, .any, .any, .any, .any, .any, .any, .any, .any, .any, .any, .any]) fn_28 rfl rfl rfl rfl fun R hR => ?_
  (have zx1 := @d1; have zx2 := @d2; have zx3 := @d3; have zx4 := @d4; have zx5 := @d5; have zx6 := @d6; all_goals (try ((first | (with_reducible refine wp_id ?_) | (with_reducible refine does_id ?_) | (with_reducible refine ops_id ?_)); refine walk ?_; (repeat' (first | exact trivial | with_reducible refine And.intro ?_ ?_)); all_goals (repeat (first | (with_reducible refine ImpB.mk fun hb => ?_) | (with_reducible refine ImpK.mk fun hK => ?_) | (with_reducible refine ImpF.mk fun hF => ?_) | (with_reducible refine ImpQ.mk fun hp => ?_) | (with_reducible refine AllE.mk fun p => ?_) | (with_reducible refine AllR.mk fun rest => ?_) | (with_reducible refine AllK.mk fun K => ?_))))); repeat' (with_reducible refine And.intro ?_ ?_))
  (focus (refine ⟨_, _, Gh.refl, [], rfl, ?_⟩; (refine fitq ?_ ?_ ?_ <;> try exact trivial); (try any_goals (refine ⟨?_, ?_⟩)); (try any_goals (with_reducible rfl))))
  all_goals (repeat' (first | (refine And.intro ?_ ?_) | rfl))
theorem c_right {h : List Ch} {K : KT} {a c t : Int} (H : K (.bool true) h) (e1 : isIt a c t) : Does Try.prog 28 [.agg [.int .i64 a, .int .i64 c, .int .i64 t, .lit (.slice none 0 0)]] h K :=
  frame_pure (b_right a c t e1) (br_cons (br_agg (br_cons br_int (br_cons br_int (br_cons br_int (br_cons br_lit br_nil))))) br_nil) (.inr rfl) (fun _ => rfl) H
abbrev i_right := Ctr.mk (i := 0) (g := 28) @c_right
attribute [instance] i_right
theorem k_validA {n0 : Nat} {h : List Ch} {K : KT} {u : Nat} {x : AV} (o : hth h u = .cells [.bool true, x]) (H : K (.bool true) h) : DoesK Try.prog n0 27 [.ptr u 0] h K := by
  refine w_body (rs := [.tmp 2]) (tm := [.ptr u 0, .any, .any, .any, .any, .any, .any, .any, .any, .any, .any]) fn_27 rfl rfl rfl rfl fun R hR => ?_
  (have zx1 := @o; all_goals (try ((first | (with_reducible refine wp_id ?_) | (with_reducible refine does_id ?_) | (with_reducible refine ops_id ?_)); refine walk ?_; (repeat' (first | exact trivial | with_reducible refine And.intro ?_ ?_)); all_goals (repeat (first | (with_reducible refine ImpB.mk fun hb => ?_) | (with_reducible refine ImpK.mk fun hK => ?_) | (with_reducible refine ImpF.mk fun hF => ?_) | (with_reducible refine ImpQ.mk fun hp => ?_) | (with_reducible refine AllE.mk fun p => ?_) | (with_reducible refine AllR.mk fun rest => ?_) | (with_reducible refine AllK.mk fun K => ?_))))); repeat' (with_reducible refine And.intro ?_ ?_))
  exact H
theorem c_validA {h : List Ch} {K : KT} {u : Nat} {x : AV} (H : K (.bool true) h) (o : hth h u = .cells [.bool true, x]) : Does Try.prog 27 [.ptr u 0] h K := Does.of_K (k_validA o H)
abbrev i_validA := Ctr.mk (i := 0) (g := 27) @c_validA
attribute [instance] i_validA
theorem k_findE {n0 : Nat} {h : List Ch} {K : KT} {u : Nat} {p : Int} (o : hth h u = .cells [.bool true, .lit (.slice none 0 0)]) (H : K (.tup [.int .i64 0, .bool false]) h) : DoesK Try.prog n0 29 [.ptr u 0, .int .i64 p] h K := by
  refine w_body (rs := [.tmp 4, .tmp 5]) (tm := [.ptr u 0, .int .i64 p, .any, .any, .any, .any, .any, .any, .any, .any, .any, .any, .any, .any, .any, .any, .any, .any, .any, .any, .any, .any, .any, .any, .any, .any, .any, .any, .any, .any, .any, .any, .any, .any, .any, .any, .any, .any, .any, .any, .any, .any]) fn_29 rfl rfl rfl rfl fun R hR => ?_
  (have zx1 := @o; all_goals (try ((first | (with_reducible refine wp_id ?_) | (with_reducible refine does_id ?_) | (with_reducible refine ops_id ?_)); refine walk ?_; (repeat' (first | exact trivial | with_reducible refine And.intro ?_ ?_)); all_goals (repeat (first | (with_reducible refine ImpB.mk fun hb => ?_) | (with_reducible refine ImpK.mk fun hK => ?_) | (with_reducible refine ImpF.mk fun hF => ?_) | (with_reducible refine ImpQ.mk fun hp => ?_) | (with_reducible refine AllE.mk fun p => ?_) | (with_reducible refine AllR.mk fun rest => ?_) | (with_reducible refine AllK.mk fun K => ?_))))); repeat' (with_reducible refine And.intro ?_ ?_))
  any_goals ((try (refine w_seq fun K hK => ?_)); (try (refine w_block ?_)); refine w_loopS (A := Nat) (fun k => k = 0) (fun k => 0) (fun k => [(12, .int .i64 k)]) (0) (ws := ?ws1) (tk := ?tk1) ?hw1 ?ht1 ?hi ?h0 ?LH1; (case hw1 => simp only [go_sem, decide_true, decide_false, Int.reduceToNat, Nat.min_eq_left, Nat.min_eq_right, Int.reducePow, Nat.reducePow, Int.reduceLE, Int.reduceLT, Int.reduceMul, Int.reduceAdd, Int.reduceSub, Int.reduceNeg, Bool.not_true, Bool.not_false, Bool.not_not, ↓reduceIte, Nat.reduceAdd, Nat.reduceSub, Nat.reduceMul, Nat.reduceEqDiff, reduceCtorEq, Nat.reduceLT, Nat.reduceLeDiff, Nat.reduceGT]; exact rfl); (case ht1 => simp only [go_sem, decide_true, decide_false, Int.reduceToNat, Nat.min_eq_left, Nat.min_eq_right, Int.reducePow, Nat.reducePow, Int.reduceLE, Int.reduceLT, Int.reduceMul, Int.reduceAdd, Int.reduceSub, Int.reduceNeg, Bool.not_true, Bool.not_false, Bool.not_not, ↓reduceIte, Nat.reduceAdd, Nat.reduceSub, Nat.reduceMul, Nat.reduceEqDiff, reduceCtorEq, Nat.reduceLT, Nat.reduceLeDiff, Nat.reduceGT]; exact rfl); (case' LH1 => rintro k E t hx hE ht; simp only [go_sem] at ht; subst ht; simp only [go_sem]; try dsimp only at hx))
  case hi => exact rfl
  case h0 => (focus (simp only [go_sem]; (repeat' (first | exact sub_nil | refine sub_cons ?_ ?_)); (any_goals (first | exact .inl rfl | exact .inr rfl)); (try any_goals (refine .inr ?_)); (try any_goals (refine congrArg _ ?_))))
  case LH1 =>
    obtain rfl : k = 0 := hx
    have hkd : decide (((0 : Nat) : Int) < 0) = false := by decide
    (have zx1 := @hkd; have zx2 := @o; all_goals (try ((first | (with_reducible refine wp_id ?_) | (with_reducible refine does_id ?_) | (with_reducible refine ops_id ?_)); refine walk ?_; (repeat' (first | exact trivial | with_reducible refine And.intro ?_ ?_)); all_goals (repeat (first | (with_reducible refine ImpB.mk fun hb => ?_) | (with_reducible refine ImpK.mk fun hK => ?_) | (with_reducible refine ImpF.mk fun hF => ?_) | (with_reducible refine ImpQ.mk fun hp => ?_) | (with_reducible refine AllE.mk fun p => ?_) | (with_reducible refine AllR.mk fun rest => ?_) | (with_reducible refine AllK.mk fun K => ?_))))); repeat' (with_reducible refine And.intro ?_ ?_))
    exact H
theorem c_findE {h : List Ch} {K : KT} {u : Nat} {p : Int} (H : K (.tup [.int .i64 0, .bool false]) h) (o : hth h u = .cells [.bool true, .lit (.slice none 0 0)]) : Does Try.prog 29 [.ptr u 0, .int .i64 p] h K := Does.of_K (k_findE o H)
abbrev i_findE := Ctr.mk (i := 0) (g := 29) @c_findE
attribute [instance] i_findE
theorem k_findO {n0 : Nat} {h : List Ch} {K : KT} {u v : Nat} {p : Int} {x : AV} (o : hth h u = .cells [.bool true, .csl v 1 2]) (o1 : hth h v = .crow [.int .i64 p, x]) (H : K (.tup [.int .i64 0, .bool true]) h) : DoesK Try.prog n0 29 [.ptr u 0, .int .i64 p] h K := by
  refine w_body (rs := [.tmp 4, .tmp 5]) (tm := [.ptr u 0, .int .i64 p, .any, .any, .any, .any, .any, .any, .any, .any, .any, .any, .any, .any, .any, .any, .any, .any, .any, .any, .any, .any, .any, .any, .any, .any, .any, .any, .any, .any, .any, .any, .any, .any, .any, .any, .any, .any, .any, .any, .any, .any]) fn_29 rfl rfl rfl rfl fun R hR => ?_
  have hp : decide (p ≤ p) = true := decide_eq_true (Int.le_refl p)
  have hq : decide (p = p) = true := decide_eq_true rfl
  (have zx1 := @o; have zx2 := @o1; all_goals (try ((first | (with_reducible refine wp_id ?_) | (with_reducible refine does_id ?_) | (with_reducible refine ops_id ?_)); refine walk ?_; (repeat' (first | exact trivial | with_reducible refine And.intro ?_ ?_)); all_goals (repeat (first | (with_reducible refine ImpB.mk fun hb => ?_) | (with_reducible refine ImpK.mk fun hK => ?_) | (with_reducible refine ImpF.mk fun hF => ?_) | (with_reducible refine ImpQ.mk fun hp => ?_) | (with_reducible refine AllE.mk fun p => ?_) | (with_reducible refine AllR.mk fun rest => ?_) | (with_reducible refine AllK.mk fun K => ?_))))); repeat' (with_reducible refine And.intro ?_ ?_))
  any_goals ((try (refine w_seq fun K hK => ?_)); (try (refine w_block ?_)); refine w_loopS (A := Nat) (fun k => k = 0) (fun k => 0) (fun k => [(12, .int .i64 k)]) (0) (ws := ?ws2) (tk := ?tk2) ?hw2 ?ht2 ?hi ?h0 ?LH2; (case hw2 => simp only [go_sem, decide_true, decide_false, Int.reduceToNat, Nat.min_eq_left, Nat.min_eq_right, Int.reducePow, Nat.reducePow, Int.reduceLE, Int.reduceLT, Int.reduceMul, Int.reduceAdd, Int.reduceSub, Int.reduceNeg, Bool.not_true, Bool.not_false, Bool.not_not, ↓reduceIte, Nat.reduceAdd, Nat.reduceSub, Nat.reduceMul, Nat.reduceEqDiff, reduceCtorEq, Nat.reduceLT, Nat.reduceLeDiff, Nat.reduceGT]; exact rfl); (case ht2 => simp only [go_sem, decide_true, decide_false, Int.reduceToNat, Nat.min_eq_left, Nat.min_eq_right, Int.reducePow, Nat.reducePow, Int.reduceLE, Int.reduceLT, Int.reduceMul, Int.reduceAdd, Int.reduceSub, Int.reduceNeg, Bool.not_true, Bool.not_false, Bool.not_not, ↓reduceIte, Nat.reduceAdd, Nat.reduceSub, Nat.reduceMul, Nat.reduceEqDiff, reduceCtorEq, Nat.reduceLT, Nat.reduceLeDiff, Nat.reduceGT]; exact rfl); (case' LH2 => rintro k E t hx hE ht; simp only [go_sem] at ht; subst ht; simp only [go_sem]; try dsimp only at hx))
  case hi => exact rfl
  case h0 => (focus (simp only [go_sem]; (repeat' (first | exact sub_nil | refine sub_cons ?_ ?_)); (any_goals (first | exact .inl rfl | exact .inr rfl)); (try any_goals (refine .inr ?_)); (try any_goals (refine congrArg _ ?_))))
  case LH2 =>
    obtain rfl : k = 0 := hx
    have hkd : decide (((0 : Nat) : Int) < 1) = true := by decide
    have hw : IntKind.i64.wrap 1 = ((1 : Nat) : Int) := by decide
    (have zx1 := @hkd; have zx2 := @hw; have zx3 := @o; have zx4 := @o1; have zx5 := @hp; have zx6 := @hq; all_goals (try ((first | (with_reducible refine wp_id ?_) | (with_reducible refine does_id ?_) | (with_reducible refine ops_id ?_)); refine walk ?_; (repeat' (first | exact trivial | with_reducible refine And.intro ?_ ?_)); all_goals (repeat (first | (with_reducible refine ImpB.mk fun hb => ?_) | (with_reducible refine ImpK.mk fun hK => ?_) | (with_reducible refine ImpF.mk fun hF => ?_) | (with_reducible refine ImpQ.mk fun hp => ?_) | (with_reducible refine AllE.mk fun p => ?_) | (with_reducible refine AllR.mk fun rest => ?_) | (with_reducible refine AllK.mk fun K => ?_))))); repeat' (with_reducible refine And.intro ?_ ?_))
    all_goals exact H
theorem c_findO {h : List Ch} {K : KT} {u v : Nat} {p : Int} {x : AV} (H : K (.tup [.int .i64 0, .bool true]) h) (o : hth h u = .cells [.bool true, .csl v 1 2]) (o1 : hth h v = .crow [.int .i64 p, x]) : Does Try.prog 29 [.ptr u 0, .int .i64 p] h K := Does.of_K (k_findO o o1 H)
abbrev i_findO := Ctr.mk (i := 1) (g := 29) @c_findO
attribute [instance] i_findO
end Go.V

set_option maxRecDepth 100000
set_option maxHeartbeats 8000000
namespace Go.V
open Go.Proofs
theorem k_insP {n0 : Nat} {h : List Ch} {K : KT} {u : Nat} {p : Int} {g m : Nat} (o : hth h u = .crow [.int .i64 p, .sl g .ent 0 m]) (H : K (.csl h.length 1 2) (h ++ [.crow [.int .i64 p, .sl g .ent 0 m]])) : DoesK Try.prog n0 30 [.lit (.slice none 0 0), .int .i64 0, .csl u 1 2] h K := by
  refine w_body (rs := [.tmp 6]) (tm := [.lit (.slice none 0 0), .int .i64 0, .csl u 1 2, .any, .any, .any, .any, .any, .any, .any, .any, .any, .any, .any, .any, .any, .any, .any, .any, .any, .any, .any, .any, .any, .any, .any, .any, .any, .any, .any, .any, .any, .any, .any, .any, .any, .any, .any, .any, .any, .any, .any, .any, .any, .any, .any, .any, .any, .any, .any, .any, .any, .any, .any, .any, .any, .any, .any, .any, .any, .any, .any, .any, .any, .any, .any, .any, .any, .any, .any, .any, .any, .any, .any, .any, .any, .any, .any, .any, .any, .any, .any, .any, .any, .any, .any, .any, .any, .any, .any, .any, .any, .any, .any, .any]) fn_30 rfl rfl rfl rfl fun R hR => ?_
  have h1 : decide ((1 : Int) = 0) = false := by decide
  (have zx1 := @o; have zx2 := @h1; all_goals (try ((first | (with_reducible refine wp_id ?_) | (with_reducible refine does_id ?_) | (with_reducible refine ops_id ?_)); refine walk ?_; (repeat' (first | exact trivial | with_reducible refine And.intro ?_ ?_)); all_goals (repeat (first | (with_reducible refine ImpB.mk fun hb => ?_) | (with_reducible refine ImpK.mk fun hK => ?_) | (with_reducible refine ImpF.mk fun hF => ?_) | (with_reducible refine ImpQ.mk fun hp => ?_) | (with_reducible refine AllE.mk fun p => ?_) | (with_reducible refine AllR.mk fun rest => ?_) | (with_reducible refine AllK.mk fun K => ?_))))); repeat' (with_reducible refine And.intro ?_ ?_))
  all_goals first | rfl | exact H
theorem c_insP {h : List Ch} {K : KT} {u : Nat} {p : Int} {g m : Nat} (H : K (.csl h.length 1 2) (h ++ [.crow [.int .i64 p, .sl g .ent 0 m]])) (o : hth h u = .crow [.int .i64 p, .sl g .ent 0 m]) : Does Try.prog 30 [.lit (.slice none 0 0), .int .i64 0, .csl u 1 2] h K := Does.of_K (k_insP o H)
abbrev i_insP := Ctr.mk (i := 0) (g := 30) @c_insP
attribute [instance] i_insP
theorem b_add0 (p c t : Int) (e : isIt p c t) : DoesK Try.prog 1 10 [.ptr 0 0, .agg [.int .i64 p, .int .i64 c, .int .i64 t, .lit (.slice none 0 0)]] [.pack AE] (EndF 1 (.int .i64 0) ([.pack (AO p [⟨c, p, c, t, []⟩])] ++ [])) := by
  refine DoesK.close ?_
  refine w_body (rs := [.tmp 4]) (tm := [.ptr 0 0, .agg [.int .i64 p, .int .i64 c, .int .i64 t, .lit (.slice none 0 0)], .any, .any, .any, .any, .any, .any, .any, .any, .any, .any, .any, .any, .any, .any, .any, .any, .any, .any, .any, .any, .any, .any, .any, .any, .any, .any, .any, .any, .any, .any, .any, .any, .any, .any, .any, .any, .any, .any, .any, .any, .any, .any, .any, .any, .any, .any, .any, .any, .any, .any, .any, .any, .any, .any, .any, .any, .any, .any, .any, .any, .any, .any, .any, .any, .any, .any, .any, .any, .any, .any, .any, .any, .any, .any, .any, .any, .any, .any, .any, .any, .any, .any, .any, .any, .any, .any, .any, .any, .any, .any, .any, .any, .any, .any, .any, .any, .any, .any, .any, .any, .any, .any, .any, .any, .any, .any, .any, .any, .any, .any, .any, .any, .any, .any, .any, .any, .any, .any, .any, .any, .any, .any, .any, .any, .any, .any, .any, .any, .any, .any, .any, .any, .any, .any, .any, .any, .any, .any, .any, .any, .any, .any, .any, .any, .any, .any, .any]) fn_10 rfl rfl rfl rfl fun R hR => ?_
  refine w_open 0 rfl rfl ?_
  simp only [go_sem, decide_true, decide_false, Int.reduceToNat, Nat.min_eq_left, Nat.min_eq_right, Int.reducePow, Nat.reducePow, Int.reduceLE, Int.reduceLT, Int.reduceMul, Int.reduceAdd, Int.reduceSub, Int.reduceNeg, Bool.not_true, Bool.not_false, Bool.not_not, ↓reduceIte, Nat.reduceAdd, Nat.reduceSub, Nat.reduceMul, Nat.reduceEqDiff, reduceCtorEq, Nat.reduceLT, Nat.reduceLeDiff, Nat.reduceGT]
  (all_goals (try ((first | (with_reducible refine wp_id ?_) | (with_reducible refine does_id ?_) | (with_reducible refine ops_id ?_)); refine walk ?_; (repeat' (first | exact trivial | with_reducible refine And.intro ?_ ?_)); all_goals (repeat (first | (with_reducible refine ImpB.mk fun hb => ?_) | (with_reducible refine ImpK.mk fun hK => ?_) | (with_reducible refine ImpF.mk fun hF => ?_) | (with_reducible refine ImpQ.mk fun hp => ?_) | (with_reducible refine AllE.mk fun p => ?_) | (with_reducible refine AllR.mk fun rest => ?_) | (with_reducible refine AllK.mk fun K => ?_))))); repeat' (with_reducible refine And.intro ?_ ?_))
  (focus (refine ⟨_, _, gh_close (t := 0) (ts := [4, 2]) (l := AO p [⟨c, p, c, t, []⟩]) ⟨⟨_, _, rfl⟩, ?_, by simp⟩, [0], rfl, ?_⟩; all_goals (refine fitq ?_ ?_ ?_ <;> try exact trivial); (try any_goals (refine ⟨?_, ?_⟩)); (try any_goals (with_reducible rfl))))
  all_goals (repeat' (first | (refine And.intro ?_ ?_) | rfl))
theorem k_add0 {h : List Ch} {K : KT} {u : Nat} {p c t : Int} (H : K (.int .i64 0) (h.set u (.pack (AO p [⟨c, p, c, t, []⟩])))) (o : hth h u = .pack AE) (e1 : isIt p c t) : Does Try.prog 10 [.ptr u 0, .agg [.int .i64 p, .int .i64 c, .int .i64 t, .lit (.slice none 0 0)]] h K :=
  frame_obj0 (b_add0 p c t e1) o (by simp) (fitC_pack _) (br_cons (br_ptr rfl) (br_cons (br_agg (br_cons br_int (br_cons br_int (br_cons br_int (br_cons br_lit br_nil))))) br_nil)) (.inl rfl) (fun _ => rfl) rfl H
end Go.V
