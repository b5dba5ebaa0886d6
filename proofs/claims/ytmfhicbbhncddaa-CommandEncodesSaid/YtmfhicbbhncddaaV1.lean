/-
  What the abstract values and memories of the verifier say of the machine's.
-/
import Derived.Test.YtmfhicbbhncddaaVE
set_option linter.unusedVariables false
set_option linter.unusedSimpArgs false
namespace Go.V

/-- what lies for good: blocks that nobody writes any more -/
abbrev RO := Nat → Option Obj
def RO.le (R R' : RO) : Prop := ∀ b o, R b = some o → R' b = some o
theorem RO.le.refl (R : RO) : R.le R := fun _ _ h => h
theorem RO.le.trans {A B C : RO} (h : A.le B) (k : B.le C) : A.le C := fun b o x => k b o (h b o x)

inductive Bind where
  | blk (b cap : Nat)
  | cel (b : Nat)
  | mp (b : Nat)
  | none
  | pack (l : List Bind)

/-- the block that a pointer to an object shows -/
def Bind.obj : Bind → Option Nat
  | .cel b => some b
  | .pack (.cel b :: _) => some b
  | _ => .none

def nthA : List AV → Nat → AV
  | [], _ => .any
  | a :: _, 0 => a
  | _ :: l, n + 1 => nthA l n

/-- an object may be packed or open, its first block stays -/
def BLe (B B' : Bind) : Prop := B' = B ∨ ∃ b, B.obj = some b ∧ B'.obj = some b
theorem BLe.refl (B : Bind) : BLe B B := .inl rfl
theorem BLe.trans {A B C : Bind} (h : BLe A B) (k : BLe B C) : BLe A C := by
  rcases h with rfl | ⟨b, h1, h2⟩
  · exact k
  · rcases k with rfl | ⟨c, h3, h4⟩
    · exact .inr ⟨b, h1, h2⟩
    · rw [h2] at h3
      cases h3
      exact .inr ⟨b, h1, h4⟩
theorem BLe.obj {A B : Bind} (h : BLe A B) {b : Nat} (hb : A.obj = some b) : B.obj = some b := by
  rcases h with rfl | ⟨c, h1, h2⟩
  · exact hb
  · rw [hb] at h1
    cases h1
    exact h2
/-- one list goes on with what the other has -/
structure Ext (μ μ' : List Bind) : Prop where
  len : μ.length ≤ μ'.length
  get : ∀ {t : Nat} {B : Bind}, μ[t]? = some B → ∃ B', μ'[t]? = some B' ∧ BLe B B'
theorem Ext.refl (μ : List Bind) : Ext μ μ := ⟨Nat.le_refl _, fun h => ⟨_, h, .refl _⟩⟩
theorem Ext.trans {a b c : List Bind} (h : Ext a b) (k : Ext b c) : Ext a c :=
  ⟨Nat.le_trans h.len k.len, fun hb => by
    obtain ⟨B', h1, h2⟩ := h.get hb
    obtain ⟨B2, h3, h4⟩ := k.get h1
    exact ⟨B2, h3, h2.trans h4⟩⟩
theorem Ext.app (μ x : List Bind) : Ext μ (μ ++ x) := ⟨by simp, fun {t B} hb => ⟨B, by
  rw [List.getElem?_append_left (List.getElem?_eq_some_iff.1 hb).1]; exact hb, .refl _⟩⟩
theorem Ext.mp {μ μ' : List Bind} (h : Ext μ μ') {t b : Nat} (hb : μ[t]? = some (.mp b)) : μ'[t]? = some (.mp b) := by
  obtain ⟨B', h1, h2⟩ := h.get hb
  rcases h2 with rfl | ⟨_, h3, _⟩
  · exact h1
  · simp [Bind.obj] at h3
theorem Ext.nil (μ : List Bind) : Ext [] μ := ⟨by simp, fun h => by simp at h⟩
theorem Ext.blk {μ μ' : List Bind} (h : Ext μ μ') {t b c : Nat} (hb : μ[t]? = some (.blk b c)) : μ'[t]? = some (.blk b c) := by
  obtain ⟨B', h1, h2⟩ := h.get hb
  rcases h2 with rfl | ⟨_, h3, _⟩
  · exact h1
  · simp [Bind.obj] at h3

mutual
inductive Rel (R : RO) : List Bind → AV → Value → Prop
  | int {μ k n} : Rel R μ (.int k n) (.int k n)
  | bool {μ b} : Rel R μ (.bool b) (.bool b)
  | str {μ s} : Rel R μ (.str s) (.string ⟨s.toArray⟩)
  | lit {μ v} : Rel R μ (.lit v) v
  | any {μ v} : Rel R μ .any v
  | agg {μ l vs} (h : LRel R μ l vs) : Rel R μ (.agg l) (.agg vs.toArray)
  | tup {μ l vs} (h : LRel R μ l vs) : Rel R μ (.tup l) (.tuple vs.toArray)
  | ptr {μ t off B b} (h : μ[t]? = some B) (hb : B.obj = some b) : Rel R μ (.ptr t off) (.pointer (some ⟨b, off, Option.none⟩))
  | ep {μ t e i off b cap} (h : μ[t]? = some (.blk b cap)) : Rel R μ (.ep t e i off) (.pointer (some ⟨b, i * e.sz + off, Option.none⟩))
  | sl {μ t e start len b cap c} (h : μ[t]? = some (.blk b cap)) (hc : start + c = cap) (hl : len ≤ c) (hm : cap ≤ maxLen) : Rel R μ (.sl t e start len) (.slice (some ⟨b, start * e.sz, Option.none⟩) len c)
  | sl0 {μ t e start a} (h : t < μ.length) : Rel R μ (.sl t e start 0) (.slice a 0 0)
  | ro {μ e xs b o arr ty fr c} (h : R b = some (.cells arr ty fr)) (hl : LRel R [] (xs.flatMap (Ety.enc e)) ((arr.toList.drop o).take (xs.length * e.sz))) (hc : xs.length ≤ c) (hm : c ≤ maxLen) : Rel R μ (.ro e xs) (.slice (some ⟨b, o, Option.none⟩) xs.length c)
  | ro0 {μ e a c} (hm : c ≤ maxLen) : Rel R μ (.ro e []) (.slice a 0 c)
  | rp {μ e xs b o i off arr ty fr} (h : R b = some (.cells arr ty fr)) (hl : LRel R [] (xs.flatMap (Ety.enc e)) ((arr.toList.drop o).take (xs.length * e.sz))) (hi : i < xs.length) : Rel R μ (.rp e xs i off) (.pointer (some ⟨b, o + i * e.sz + off, Option.none⟩))
  | fn {μ f l vs} (h : LRel R μ l vs) : Rel R μ (.fn f l) (.func (.func f) #[] vs.toArray)
  | ifc {μ t a v} (h : Rel R μ a v) : Rel R μ (.ifc t a) (.iface t v)
  | mp {μ t b} (h : μ[t]? = some (.mp b)) : Rel R μ (.mp t) (.map (some b))
inductive LRel (R : RO) : List Bind → List AV → List Value → Prop
  | nil {μ} : LRel R μ [] []
  | cons {μ a v l vs} (h : Rel R μ a v) (hs : LRel R μ l vs) : LRel R μ (a :: l) (v :: vs)
end

mutual
theorem Rel.mono {R R' : RO} (hR : R.le R') : ∀ {μ μ' : List Bind} {a : AV} {v : Value}, Rel R μ a v → Ext μ μ' → Rel R' μ' a v
  | _, _, _, _, .int, _ => .int
  | _, _, _, _, .bool, _ => .bool
  | _, _, _, _, .str, _ => .str
  | _, _, _, _, .lit, _ => .lit
  | _, _, _, _, .any, _ => .any
  | _, _, _, _, .agg h, hm => .agg (LRel.mono hR h hm)
  | _, _, _, _, .tup h, hm => .tup (LRel.mono hR h hm)
  | _, _, _, _, .ptr h hb, hm => by
    obtain ⟨B', h1, h2⟩ := hm.get h
    exact .ptr h1 (h2.obj hb)
  | _, _, _, _, .ep h, hm => .ep (hm.blk h)
  | _, _, _, _, .sl h hc hl hx, hm => .sl (hm.blk h) hc hl hx
  | _, _, _, _, .sl0 h, hm => .sl0 (Nat.lt_of_lt_of_le h hm.len)
  | _, _, _, _, .ro h hl hc hx, _ => .ro (hR _ _ h) (LRel.mono hR hl (Ext.refl _)) hc hx
  | _, _, _, _, .ro0 hx, _ => .ro0 hx
  | _, _, _, _, .rp h hl hi, _ => .rp (hR _ _ h) (LRel.mono hR hl (Ext.refl _)) hi
  | _, _, _, _, .fn h, hm => .fn (LRel.mono hR h hm)
  | _, _, _, _, .ifc h, hm => .ifc (Rel.mono hR h hm)
  | _, _, _, _, .mp h, hm => .mp (hm.mp h)
theorem LRel.mono {R R' : RO} (hR : R.le R') : ∀ {μ μ' : List Bind} {l : List AV} {vs : List Value}, LRel R μ l vs → Ext μ μ' → LRel R' μ' l vs
  | _, _, _, _, .nil, _ => .nil
  | _, _, _, _, .cons h hs, hm => .cons (Rel.mono hR h hm) (LRel.mono hR hs hm)
end

theorem LRel.len {R : RO} : ∀ {μ : List Bind} {l : List AV} {vs : List Value}, LRel R μ l vs → l.length = vs.length
  | _, _, _, .nil => rfl
  | _, _, _, .cons _ hs => by simp [LRel.len hs]
theorem LRel.get {R : RO} : ∀ {μ : List Bind} {l : List AV} {vs : List Value} (n : Nat) {a : AV}, LRel R μ l vs → l[n]? = some a → ∃ v, vs[n]? = some v ∧ Rel R μ a v
  | _, _, _, _, _, .nil, h => by simp at h
  | _, _, _, 0, _, .cons h _, e => by simp at e; subst e; exact ⟨_, rfl, h⟩
  | _, _, _, n + 1, _, .cons _ hs, e => by simp at e; simpa using LRel.get n hs e
theorem LRel.nth {R : RO} : ∀ {μ : List Bind} {l : List AV} {vs : List Value} (n : Nat) {v : Value}, LRel R μ l vs → vs[n]? = some v → Rel R μ (nthA l n) v
  | _, _, _, _, _, .nil, h => by simp at h
  | _, _, _, 0, _, .cons h _, e => by simp at e; subst e; exact h
  | _, _, _, n + 1, _, .cons _ hs, e => by simp at e; simpa [nthA] using LRel.nth n hs e
theorem LRel.app {R : RO} : ∀ {μ : List Bind} {l l' : List AV} {vs vs' : List Value}, LRel R μ l vs → LRel R μ l' vs' → LRel R μ (l ++ l') (vs ++ vs')
  | _, _, _, _, _, .nil, k => k
  | _, _, _, _, _, .cons h hs, k => .cons h (LRel.app hs k)
theorem LRel.take {R : RO} : ∀ {μ : List Bind} {l : List AV} {vs : List Value} (n : Nat), LRel R μ l vs → LRel R μ (l.take n) (vs.take n)
  | _, _, _, _, .nil => by simp; exact .nil
  | _, _, _, 0, .cons _ _ => by simp; exact .nil
  | _, _, _, n + 1, .cons h hs => .cons h (LRel.take n hs)
theorem LRel.drop {R : RO} : ∀ {μ : List Bind} {l : List AV} {vs : List Value} (n : Nat), LRel R μ l vs → LRel R μ (l.drop n) (vs.drop n)
  | _, _, _, _, .nil => by simp; exact .nil
  | _, _, _, 0, .cons h hs => .cons h hs
  | _, _, _, n + 1, .cons _ hs => LRel.drop n hs
theorem LRel.set {R : RO} : ∀ {μ : List Bind} {l : List AV} {vs : List Value} (n : Nat) {a : AV} {v : Value}, LRel R μ l vs → Rel R μ a v → LRel R μ (l.set n a) (vs.set n v)
  | _, _, _, _, _, _, .nil, _ => by simp; exact .nil
  | _, _, _, 0, _, _, .cons _ hs, k => .cons k hs
  | _, _, _, n + 1, _, _, .cons h hs, k => .cons h (LRel.set n hs k)

/-! ### Rows laid flat -/
theorem flat_len (e : Ety) : ∀ ys : List e.T, (ys.flatMap e.enc).length = ys.length * e.sz
  | [] => by simp
  | y :: ys => by simp only [List.flatMap_cons, List.length_append, e.enc_len y, flat_len e ys, List.length_cons, Nat.succ_mul]; omega
theorem flat_take (e : Ety) : ∀ (ys : List e.T) (n : Nat), (ys.take n).flatMap e.enc = (ys.flatMap e.enc).take (n * e.sz)
  | [], n => by simp
  | y :: ys, 0 => by simp
  | y :: ys, n + 1 => by
    have hy := e.enc_len y
    rw [List.take_succ_cons, List.flatMap_cons, List.flatMap_cons, List.take_append, flat_take e ys n, hy, List.take_of_length_le (l := e.enc y) (by rw [hy]; exact Nat.le_mul_of_pos_left _ (by omega)), Nat.succ_mul, Nat.add_sub_cancel]
theorem flat_drop (e : Ety) : ∀ (ys : List e.T) (n : Nat), (ys.drop n).flatMap e.enc = (ys.flatMap e.enc).drop (n * e.sz)
  | [], n => by simp
  | y :: ys, 0 => by simp
  | y :: ys, n + 1 => by
    have hy := e.enc_len y
    rw [List.drop_succ_cons, List.flatMap_cons, List.drop_append, flat_drop e ys n, hy, List.drop_of_length_le (l := e.enc y) (by rw [hy]; exact Nat.le_mul_of_pos_left _ (by omega)), Nat.succ_mul, Nat.add_sub_cancel, List.nil_append]

/-! ### Memory -/
inductive Ch : Type where
  | cells (vs : List AV)
  | rows (e : Ety) (xs : List e.T)
  | gone
  | pack (l : List Ch)
  | map (kv : List (AV × AV))

mutual
def ownC : Ch → Bind → List Nat
  | .cells _, .cel b => [b]
  | .rows _ _, .blk b _ => [b]
  | .map _, .mp b => [b]
  | .pack l, .pack bl => ownH l bl
  | _, _ => []
def ownH : List Ch → List Bind → List Nat
  | c :: l, b :: bl => ownC c b ++ ownH l bl
  | _, _ => []
end

mutual
def CRel (R : RO) (w : World) (μ : List Bind) : Ch → Bind → Prop
  | .cells vs, b => ∃ n arr ty, b = .cel n ∧ w.heap[n]? = some (.cells arr ty (0, 0)) ∧ LRel R μ vs arr.toList
  | .rows e xs, b => (b = .none ∧ xs = []) ∨ ∃ n cap arr ty, b = .blk n cap ∧ w.heap[n]? = some (.cells arr ty (0, 0)) ∧ arr.size = cap * e.sz ∧ xs.length ≤ cap ∧ cap ≤ maxLen ∧
      LRel R [] (xs.flatMap (Ety.enc e)) (arr.toList.take (xs.length * e.sz))
  | .gone, _ => True
  | .map kv, b => ∃ n es clock, b = .mp n ∧ w.heap[n]? = some (.map es clock) ∧ LRel R [] (kv.map (·.1)) (es.toList.map (·.key)) ∧ LRel R [] (kv.map (·.2)) (es.toList.map (·.val))
  | .pack l, b => ∃ bl, b = .pack bl ∧ HRel R w bl l bl
def HRel (R : RO) (w : World) (μ : List Bind) : List Ch → List Bind → Prop
  | [], [] => True
  | c :: l, b :: bl => CRel R w μ c b ∧ HRel R w μ l bl
  | _, _ => False
end

/-- the memory at hand -/
structure HOk (R : RO) (μ : List Bind) (h : List Ch) (w : World) : Prop where
  rel : HRel R w μ h μ
  nodup : (ownH h μ).Nodup
  own : ∀ b ∈ ownH h μ, b < w.heap.size ∧ R b = none
  ro : ∀ b o, R b = some o → w.heap[b]? = some o

/-- one step: what the machine may have done to the world -/
structure Step (O : List Nat) (R : RO) (w : World) (O' : List Nat) (R' : RO) (w' : World) : Prop where
  ro : R.le R'
  size : w.heap.size ≤ w'.heap.size
  out : ∀ b, b < w.heap.size → b ∉ O → w'.heap[b]? = w.heap[b]?
  own : ∀ b ∈ O', b ∈ O ∨ w.heap.size ≤ b
  nro : ∀ b o, R' b = some o → R b = some o ∨ b ∈ O ∨ w.heap.size ≤ b
  os : w'.os = w.os
  tape : w'.tape = w.tape
  output : w'.output = w.output
theorem Step.refl (O : List Nat) (R : RO) (w : World) : Step O R w O R w :=
  ⟨RO.le.refl R, Nat.le_refl _, fun _ _ _ => rfl, fun _ h => .inl h, fun _ _ h => .inl h, rfl, rfl, rfl⟩
theorem Step.trans {O O' O'' : List Nat} {R R' R'' : RO} {w w' w'' : World} (h : Step O R w O' R' w') (k : Step O' R' w' O'' R'' w'') : Step O R w O'' R'' w'' := by
  refine ⟨h.ro.trans k.ro, Nat.le_trans h.size k.size, fun b hb hn => ?_, fun b hb => ?_, fun b o ho => ?_, k.os.trans h.os, k.tape.trans h.tape, k.output.trans h.output⟩
  · rw [k.out b (Nat.lt_of_lt_of_le hb h.size) (fun hm => (h.own b hm).elim hn (fun hl => by omega)), h.out b hb hn]
  · rcases k.own b hb with h1 | h1
    · exact h.own b h1
    · exact .inr (Nat.le_trans h.size h1)
  · rcases k.nro b o ho with h1 | h1 | h1
    · exact h.nro b o h1
    · exact .inr (h.own b h1)
    · exact .inr (.inr (Nat.le_trans h.size h1))

theorem ownH_app : ∀ (l l' : List Ch) (m m' : List Bind), l.length = m.length → ownH (l ++ l') (m ++ m') = ownH l m ++ ownH l' m'
  | [], _, [], _, _ => by simp [ownH]
  | _ :: l, l', _ :: m, m', h => by simp [ownH, ownH_app l l' m m' (by simpa using h)]
  | [], _, _ :: _, _, h => by simp at h
  | _ :: _, _, [], _, h => by simp at h
theorem HRel.len {R : RO} {w : World} {μ : List Bind} : ∀ {l : List Ch} {m : List Bind}, HRel R w μ l m → l.length = m.length
  | [], [], _ => rfl
  | _ :: _, _ :: _, h => by simp [HRel.len h.2]
  | [], _ :: _, h => h.elim
  | _ :: _, [], h => h.elim
theorem HRel.app {R : RO} {w : World} {μ : List Bind} : ∀ {l l' : List Ch} {m m' : List Bind}, HRel R w μ l m → HRel R w μ l' m' → HRel R w μ (l ++ l') (m ++ m')
  | [], _, [], _, _, k => k
  | _ :: l, _, _ :: m, _, h, k => ⟨h.1, HRel.app h.2 k⟩
  | [], _, _ :: _, _, h, _ => h.elim
  | _ :: _, _, [], _, h, _ => h.elim

-- what is owned stays as it is where the worlds agree
mutual
theorem CRel.keep {R R' : RO} (hR : R.le R') {w w' : World} {μ μ' : List Bind} (hm : Ext μ μ') : ∀ (c : Ch) (b : Bind), CRel R w μ c b → (∀ n ∈ ownC c b, w'.heap[n]? = w.heap[n]?) → CRel R' w' μ' c b
  | .cells _, _, h, hk => by
    obtain ⟨n, arr, ty, rfl, h1, h2⟩ := h
    exact ⟨n, arr, ty, rfl, by rw [hk n (by simp [ownC])]; exact h1, h2.mono hR hm⟩
  | .rows _ _, _, h, hk => by
    rcases h with ⟨rfl, h⟩ | ⟨n, cap, arr, ty, rfl, h1, h2, h3, h4, h5⟩
    · exact .inl ⟨rfl, h⟩
    · exact .inr ⟨n, cap, arr, ty, rfl, by rw [hk n (by simp [ownC])]; exact h1, h2, h3, h4, h5.mono hR (Ext.refl _)⟩
  | .gone, _, _, _ => trivial
  | .map _, _, h, hk => by
    obtain ⟨n, es, clock, rfl, h1, h2, h3⟩ := h
    exact ⟨n, es, clock, rfl, by rw [hk n (by simp [ownC])]; exact h1, h2.mono hR (Ext.refl _), h3.mono hR (Ext.refl _)⟩
  | .pack l, _, h, hk => by
    obtain ⟨bl, rfl, h⟩ := h
    exact ⟨bl, rfl, HRel.keep hR (Ext.refl bl) l bl h (by simpa [ownC] using hk)⟩
theorem HRel.keep {R R' : RO} (hR : R.le R') {w w' : World} {μ μ' : List Bind} (hm : Ext μ μ') : ∀ (l : List Ch) (m : List Bind), HRel R w μ l m → (∀ n ∈ ownH l m, w'.heap[n]? = w.heap[n]?) → HRel R' w' μ' l m
  | [], [], _, _ => trivial
  | c :: l, b :: m, h, hk => ⟨CRel.keep hR hm c b h.1 (fun n hn => hk n (by simp [ownH, hn])), HRel.keep hR hm l m h.2 (fun n hn => hk n (by simp [ownH, hn]))⟩
  | [], _ :: _, h, _ => h.elim
  | _ :: _, [], h, _ => h.elim
end
end Go.V
