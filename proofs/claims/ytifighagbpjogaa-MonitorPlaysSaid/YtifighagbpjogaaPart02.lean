/-
  Soundness of the pure operations over abstract values.
  The memory at hand: new blocks, changed blocks, blocks that are frozen.
  The operations that read or write memory, over abstract values.
  Soundness of the operations on memory.
-/
import Derived.Test.YtifighagbpjogaaPart01
import Derived.Laws.StructEq
import Derived.Laws.Cover3
import Derived.Deep.AppendSrc
import Derived.Laws.BytesString
set_option linter.unusedVariables false
set_option linter.unusedSimpArgs false
namespace Go.V

/-- a value that the machine computes without looking at the world -/
def Gives (P : Program) (R : RO) (μ : List Bind) (K : AV → Prop) (s : Sem Value) : Prop :=
  ∃ v av, K av ∧ Rel R μ av v ∧ ∀ w, s.run P w = .ok v w
theorem Gives.mk {P : Program} {R : RO} {μ : List Bind} {K : AV → Prop} {s : Sem Value} {v : Value} {av : AV} (h : K av) (hr : Rel R μ av v) (hs : ∀ w, s.run P w = .ok v w) : Gives P R μ K s := ⟨v, av, h, hr, hs⟩

variable {P : Program} {R : RO} {μ : List Bind} {K : AV → Prop}

theorem shK_ok {op : BinOp} (hop : op = .shl ∨ op = .shr) {k yk : IntKind} {a b : Int} {s : Sem Value} (h : shK op k a b K) (hs : s = Op.shift op k a yk b) : Gives P R μ K s := by
  subst hs
  rcases hop with rfl | rfl
  · obtain ⟨h1, h2⟩ := h
    exact .mk h2 .int fun w => by simp [Op.shift, show ¬ b < 0 from by omega]
  · obtain ⟨h1, h2⟩ := h
    exact .mk h2 .int fun w => by simp [Op.shift, show ¬ b < 0 from by omega]
theorem ibin_ok {op : BinOp} {t : TypeId} {k : IntKind} {a b : Int} (hop : op ≠ .shl ∧ op ≠ .shr) (h : ibin op k a b K) : Gives P R μ K (binOp op t (.int k a) (.int k b)) := by
  unfold ibin at h
  cases op <;> simp only at h
  case add => exact .mk h .int fun w => by simp [binOp, Op.intArith]
  case sub => exact .mk h .int fun w => by simp [binOp, Op.intArith]
  case mul => exact .mk h .int fun w => by simp [binOp, Op.intArith]
  case quo => exact .mk h.2 .int fun w => by simp [binOp, Op.intDiv, h.1]
  case rem => exact .mk h.2 .int fun w => by simp [binOp, Op.intDiv, h.1]
  case and => exact .mk h .int fun w => by simp [binOp, Op.intBits, bitsI]
  case or => exact .mk h .int fun w => by simp [binOp, Op.intBits, bitsI]
  case xor => exact .mk h .int fun w => by simp [binOp, Op.intBits, bitsI]
  case andNot => exact .mk h .int fun w => by simp [binOp, Op.intBits, bitsI]
  case eql => exact .mk h .bool fun w => by simp [binOp, Op.intCmp]; by_cases e : a = b <;> simp [e]
  case neq => exact .mk h .bool fun w => by simp [binOp, Op.intCmp]; by_cases e : a = b <;> simp [e]
  case lss => exact .mk h .bool fun w => by simp [binOp, Op.intCmp]
  case leq => exact .mk h .bool fun w => by simp [binOp, Op.intCmp]
  case gtr => exact .mk h .bool fun w => by simp [binOp, Op.intCmp]
  case geq => exact .mk h .bool fun w => by simp [binOp, Op.intCmp]
theorem ba_toList (l : List UInt8) : (⟨l.toArray⟩ : ByteArray).toList = l := by
  rw [ByteArray.toList_eq]
theorem sbin_ok {op : BinOp} {t : TypeId} {x y : List UInt8} (h : sbin op x y K) : Gives P R μ K (binOp op t (.string ⟨x.toArray⟩) (.string ⟨y.toArray⟩)) := by
  unfold sbin at h
  cases op <;> simp only at h
  case eql => exact .mk h .bool fun w => by simp [binOp, Op.stringOp]; by_cases e : x = y <;> simp [e]
  case neq => exact .mk h .bool fun w => by simp [binOp, Op.stringOp]; by_cases e : x = y <;> simp [e]
  case lss => exact .mk h .bool fun w => by simp [binOp, Op.stringOp]
  case add =>
    obtain ⟨h1, h2⟩ := h
    refine .mk h2 .str fun w => ?_
    have e : (ByteArray.mk x.toArray).size = x.length := by simp [ByteArray.size]
    have e2 : (ByteArray.mk y.toArray).size = y.length := by simp [ByteArray.size]
    have e3 : (ByteArray.mk x.toArray) ++ (ByteArray.mk y.toArray) = ByteArray.mk (x ++ y).toArray := by
      apply ByteArray.ext
      simp [ByteArray.data_append]
    simp only [binOp, Op.stringOp, e, e2, e3]
    rw [if_neg]
    · rfl
    · show ¬ (((x.length + y.length : Nat) : Int) > IntKind.i64.max)
      have : IntKind.i64.max = 9223372036854775807 := by decide
      omega
theorem eqIn_bool {t : TypeId} (hu : P.underlying t = some .bool) (d : Nat) (a b : Bool) (w : World) : (Op.equalIn (d + 1) t (.bool a) (.bool b)).run P w = .ok (a == b) w := by
  simp [Op.equalIn, run_underlying hu]
theorem eqIn_ptr {t e : TypeId} (hu : P.underlying t = some (.pointer e)) (d : Nat) (b : Option Addr) (w : World) : (Op.equalIn (d + 1) t (.pointer none) (.pointer b)).run P w = .ok b.isNone w := by
  simp [Op.equalIn, run_underlying hu]
theorem eqIn_ptr' {t e : TypeId} (hu : P.underlying t = some (.pointer e)) (d : Nat) (b : Addr) (w : World) : (Op.equalIn (d + 1) t (.pointer (some b)) (.pointer none)).run P w = .ok false w := by
  simp [Op.equalIn, run_underlying hu]
theorem kd_bool {t : TypeId} (h : kdT P t = .bool) : P.underlying t = some .bool := by
  unfold kdT at h; split at h <;> simp_all
theorem kd_ptr {t : TypeId} (h : kdT P t = .ptr) : ∃ e, P.underlying t = some (.pointer e) := by
  unfold kdT at h; split at h <;> simp_all
theorem kd_iface {t : TypeId} (h : kdT P t = .iface) : ∃ e, P.underlying t = some (.interface e) := by
  unfold kdT at h; split at h <;> simp_all
theorem eqIn_iface {t : TypeId} {e} (hu : P.underlying t = some (.interface e)) (d : Nat) (t' : TypeId) (b : Value) (w : World) : (Op.equalIn (d + 1) t (.iface t' b) .nilIface).run P w = .ok false w := by
  simp [Op.equalIn, run_underlying hu]
theorem kd_mapE {t k e : TypeId} (h : kdT P t = .map k e) : P.underlying t = some (.map k e) := by
  unfold kdT at h; split at h <;> simp_all
theorem eqIn_map {t k e : TypeId} (hu : P.underlying t = some (.map k e)) (d : Nat) (b : Nat) (w : World) : (Op.equalIn (d + 1) t (.map (some b)) (.map none)).run P w = .ok false w := by
  simp [Op.equalIn, run_underlying hu]
theorem eqIn_map0 {t k e : TypeId} (hu : P.underlying t = some (.map k e)) (d : Nat) (w : World) : (Op.equalIn (d + 1) t (.map none) (.map none)).run P w = .ok true w := by
  simp [Op.equalIn, run_underlying hu]
theorem eqK_ok {t : TypeId} {x y : AV} {vx vy : Value} {F : Bool → Prop} (hx : Rel R μ x vx) (hy : Rel R μ y vy) (h : eqK (kdT P t) x y F) :
    ∃ b, F b ∧ (∀ w, (Op.equal t vx vy).run P w = .ok b w) ∧ (∀ op X Y w, (eqGuard op t X Y vx vy).run P w = .ok () w) ∧ (binOp .eql t vx vy = (do pure (.bool (← Op.equal t vx vy)))) ∧ (binOp .neq t vx vy = (do pure (.bool (!(← Op.equal t vx vy))))) := by
  unfold eqK at h
  split at h
  · rename_i hk
    cases hx; cases hy
    rename_i b c
    refine ⟨_, h, fun w => ?_, fun op X Y w => ?_, rfl, rfl⟩
    · rw [show decide (b = c) = (b == c) from by by_cases e : b = c <;> simp [e]]
      exact eqIn_bool (kd_bool hk) 9999 _ _ w
    · cases op <;> rfl
  · rename_i hk
    obtain ⟨e, hu⟩ := kd_ptr hk
    cases hx; cases hy
    exact ⟨_, h, fun w => eqIn_ptr' hu 9999 _ w, fun op X Y w => by cases op <;> rfl, rfl, rfl⟩
  · rename_i hk
    obtain ⟨e, hu⟩ := kd_ptr hk
    cases hx; cases hy
    exact ⟨_, h, fun w => eqIn_ptr hu 9999 _ w, fun op X Y w => by cases op <;> rfl, rfl, rfl⟩
  · rename_i hk
    obtain ⟨e, hu⟩ := kd_ptr hk
    cases hx; cases hy
    exact ⟨_, h, fun w => eqIn_ptr hu 9999 _ w, fun op X Y w => by cases op <;> rfl, rfl, rfl⟩
  · rename_i hk
    cases hx; cases hy
    exact ⟨_, h, fun w => eqIn_map (kd_mapE hk) 9999 _ w, fun op X Y w => by cases op <;> rfl, rfl, rfl⟩
  · rename_i hk
    cases hx; cases hy
    exact ⟨_, h, fun w => eqIn_map0 (kd_mapE hk) 9999 w, fun op X Y w => by cases op <;> rfl, rfl, rfl⟩
  · rename_i hk
    obtain ⟨e, hu⟩ := kd_iface hk
    cases hx; cases hy
    exact ⟨_, h, fun w => eqIn_iface hu 9999 _ _ w, fun op X Y w => by cases op <;> rfl, rfl, rfl⟩
  · exact h.elim

theorem eqGuard_int (op : BinOp) (t : TypeId) (X Y : Operand) (k k' : IntKind) (a b : Int) (w : World) : (eqGuard op t X Y (.int k a) (.int k' b)).run P w = .ok () w := by
  cases op <;> rfl
theorem eqGuard_str (op : BinOp) (t : TypeId) (X Y : Operand) (a b : ByteArray) (w : World) : (eqGuard op t X Y (.string a) (.string b)).run P w = .ok () w := by
  cases op <;> rfl
theorem Gives.guard {s : Sem Unit} {q : Sem Value} (hs : ∀ w, s.run P w = .ok () w) (h : Gives P R μ K q) : Gives P R μ K (do s; q) := by
  obtain ⟨v, av, h1, h2, h3⟩ := h
  exact ⟨v, av, h1, h2, fun w => by rw [Sem.run_bind, hs, Result.andThen_ok, h3]⟩

theorem kd_int {t : TypeId} {k : IntKind} (h : kdT P t = .int k) : P.underlying t = some (.int k) := by
  unfold kdT at h; split at h <;> simp_all
theorem kd_str {t : TypeId} (h : kdT P t = .str) : P.underlying t = some .string := by
  unfold kdT at h; split at h <;> simp_all
theorem kd_slice {t : TypeId} {e : TypeId} (h : kdT P t = .slice e) : P.underlying t = some (.slice e) := by
  unfold kdT at h; split at h <;> simp_all
theorem kd_array {t : TypeId} {n : Nat} {e : TypeId} (h : kdT P t = .array n e) : P.underlying t = some (.array n e) := by
  unfold kdT at h; split at h <;> simp_all
theorem kd_struct {t : TypeId} (h : kdT P t = .struct) : ∃ fs, P.underlying t = some (.struct fs) := by
  unfold kdT at h; split at h <;> simp_all
theorem kd_ne {t : TypeId} (h : kdT P t ≠ .other) : ∃ d, P.underlying t = some d := by
  unfold kdT at h
  cases hu : P.underlying t with
  | some d => exact ⟨d, rfl⟩
  | none => simp [hu] at h

def aggD : TypeDesc → Bool
  | .struct _ => true
  | .array _ _ => true
  | _ => false
theorem run_isAgg {t : TypeId} {d : TypeDesc} (hd : P.underlying t = some d) (w : World) : (isAgg t).run P w = .ok (aggD d) w := by
  simp only [isAgg, Sem.run_bind, run_underlying hd, Result.andThen_ok]
  cases d <;> rfl
theorem part_one {t : TypeId} {d : TypeDesc} (hd : P.underlying t = some d) (ha : aggD d = false) {vs : Array Value} {off : Nat} {v : Value} (hv : vs[off]? = some v) (w : World) : (part t vs off).run P w = .ok v w := by
  simp only [part, Sem.run_bind, run_isAgg hd, ha, Result.andThen_ok, if_false, hv, Sem.run_pure, Bool.false_eq_true]
theorem nth_some {l : List AV} {vs : List Value} (hl : LRel R μ l vs) {o : Nat} {a : AV} (h : nthA l o = a) (ha : a ≠ .any) : ∃ v, vs[o]? = some v ∧ Rel R μ a v := by
  cases e : vs[o]? with
  | some v => exact ⟨v, rfl, h ▸ hl.nth o e⟩
  | none =>
    have : l.length ≤ o := by rw [hl.len]; simpa using e
    rw [nthA_none l o this] at h
    exact absurd h.symm ha
theorem eqCell_ok {t : TypeId} {x y : AV} {vx vy : Value} {b : Bool} (hx : Rel R μ x vx) (hy : Rel R μ y vy) (h : eqCell (kdT P t) x y = some b) (d : Nat) (w : World) : (Op.equalIn (d + 1) t vx vy).run P w = .ok b w := by
  unfold eqCell at h
  split at h
  · rename_i k1 k2 a k3 c hk
    split at h
    · rename_i hkk
      subst hkk
      cases hx; cases hy
      simp only [Option.some.injEq] at h
      rw [run_equalIn_int w d t _ _ _ _ (kd_int hk), ← h]
      by_cases e : a = c <;> simp [e]
    · simp at h
  · rename_i a c hk
    cases hx; cases hy
    simp only [Option.some.injEq] at h
    rw [run_equalIn_bool' w d t _ _ (kd_bool hk), ← h]
    by_cases e : a = c <;> simp [e]
  · rename_i a c hk
    cases hx; cases hy
    simp only [Option.some.injEq] at h
    rw [run_equalIn_string w d t _ _ (kd_str hk), ← h]
    rw [ba_toList, ba_toList]
    by_cases e : a = c <;> simp [e]
  · simp at h
theorem eqCell_kd {k : Kd} {x y : AV} {b : Bool} (h : eqCell k x y = some b) : x ≠ .any ∧ y ≠ .any ∧ (k = .bool ∨ k = .str ∨ ∃ i, k = .int i) := by
  unfold eqCell at h
  split at h
  · exact ⟨by simp, by simp, .inr (.inr ⟨_, rfl⟩)⟩
  · exact ⟨by simp, by simp, .inl rfl⟩
  · exact ⟨by simp, by simp, .inr (.inl rfl)⟩
  · simp at h
theorem eqFlds_ok {l m : List AV} {us vs : List Value} (hl : LRel R μ l us) (hm : LRel R μ m vs) (d : Nat) (w : World) : ∀ (fs : List Field) {b : Bool}, (fs.all fun f => f.name != "_") = true → eqFlds P l m (fs.map fun f => (f.offset, f.type)) = some b → (Op.eqFields (d + 1) us.toArray vs.toArray fs).run P w = .ok b w
  | [], b, _, h => by
    simp only [List.map_nil, eqFlds, Option.some.injEq] at h
    subst h
    simp [Op.eqFields]
  | f :: fs, b, hn, h => by
    simp only [List.all_cons, Bool.and_eq_true, bne_iff_ne, ne_eq] at hn
    simp only [List.map_cons, eqFlds] at h
    split at h
    · rename_i a ha
      split at h
      · rename_i c hc
        simp only [Option.some.injEq] at h
        obtain ⟨hx, hy, hk⟩ := eqCell_kd ha
        obtain ⟨u, hu, hru⟩ := nth_some hl rfl hx
        obtain ⟨v, hv, hrv⟩ := nth_some hm rfl hy
        have hd : ∃ d, P.underlying f.type = some d ∧ aggD d = false := by
          rcases hk with hk | hk | ⟨i, hk⟩
          · exact ⟨_, kd_bool hk, rfl⟩
          · exact ⟨_, kd_str hk, rfl⟩
          · exact ⟨_, kd_int hk, rfl⟩
        obtain ⟨td, htd, hag⟩ := hd
        have ih := eqFlds_ok hl hm d w fs hn.2 hc
        simp only [Op.eqFields, hn.1, ne_eq, not_false_eq_true, if_true, Sem.run_bind, part_one htd hag (show us.toArray[f.offset]? = some u by simpa using hu), part_one htd hag (show vs.toArray[f.offset]? = some v by simpa using hv), Result.andThen_ok, eqCell_ok hru hrv ha d w]
        cases a
        · simp [← h]
        · simpa [← h] using ih
      · simp at h
    · simp at h
theorem eqSK_ok {t : TypeId} {l m : List AV} {us vs : List Value} {F : Bool → Prop} (hl : LRel R μ l us) (hm : LRel R μ m vs) (h : eqSK P t l m F) : ∃ b, F b ∧ (∀ w, (Op.equal t (.agg us.toArray) (.agg vs.toArray)).run P w = .ok b w) ∧ ∀ op X Y w, (eqGuard op t X Y (.agg us.toArray) (.agg vs.toArray)).run P w = .ok () w := by
  unfold eqSK at h
  split at h
  · rename_i fs hf
    split at h
    · rename_i b hb
      unfold fldsT at hf
      split at hf
      · rename_i fds hu
        split at hf
        · rename_i hc
          simp only [Option.some.injEq] at hf
          subst hf
          have hfo : P.fieldsOf t = fds := by unfold Program.fieldsOf; rw [hu]
          refine ⟨b, h, fun w => ?_, fun op X Y w => run_eqGuard_agg w op t X Y _ _ hc.2.1⟩
          show (Op.equalIn (9999 + 1) t _ _).run P w = _
          rw [run_equalIn_struct w 9999 t _ _ (by rw [hfo]; exact hu) hc.1, hfo]
          exact eqFlds_ok hl hm 9998 w _ hc.2.2 hb
        · simp at hf
      · simp at hf
    · exact h.elim
  · exact h.elim
theorem eqNK_ok {t e : TypeId} (hk : kdT P t = .slice e) {x : AV} {vx : Value} {F : Bool → Prop} (hx : Rel R μ x vx) (h : eqNK x F) : ∃ b, F b ∧ (∀ w, (Op.equal t vx (.slice none 0 0)).run P w = .ok b w) ∧ (∀ op X Y w, (eqGuard op t X Y vx (.slice none 0 0)).run P w = .ok () w) ∧ (binOp .eql t vx (.slice none 0 0) = (do pure (.bool (← Op.equal t vx (.slice none 0 0))))) ∧ (binOp .neq t vx (.slice none 0 0) = (do pure (.bool (!(← Op.equal t vx (.slice none 0 0)))))) := by
  have key : ∀ (a : Option Addr) (n c : Nat), (∀ w, (Op.equal t (.slice a n c) (.slice none 0 0)).run P w = .ok a.isNone w) ∧ (∀ op X Y w, (eqGuard op t X Y (.slice a n c) (.slice none 0 0)).run P w = .ok () w) ∧ (binOp .eql t (.slice a n c) (.slice none 0 0) = (do pure (.bool (← Op.equal t (.slice a n c) (.slice none 0 0))))) ∧ (binOp .neq t (.slice a n c) (.slice none 0 0) = (do pure (.bool (!(← Op.equal t (.slice a n c) (.slice none 0 0)))))) :=
    fun a n c => ⟨fun w => run_equal_slice_nil w t e a n c (kd_slice hk), fun op X Y w => by cases op <;> rfl, rfl, rfl⟩
  unfold eqNK at h
  split at h
  · cases hx
    exact ⟨true, h, key none 0 0⟩
  · cases hx with
    | ro hb hl hc hm => exact ⟨false, h.2, key _ _ _⟩
    | ro0 =>
      rename_i a c _
      cases a with
      | none => exact ⟨true, h.1 rfl, key _ _ _⟩
      | some a => exact ⟨false, h.2, key _ _ _⟩
  · cases hx with
    | sl => exact ⟨false, h.2, key _ _ _⟩
    | sl0 =>
      rename_i a _
      cases a with
      | none => exact ⟨true, h.1 rfl, key _ _ _⟩
      | some a => exact ⟨false, h.2, key _ _ _⟩
  · cases hx with
    | csl h1 h2 h3 h4 => exact ⟨false, h, key _ _ _⟩
  · exact h.elim

theorem binK_ok {op : BinOp} {t : TypeId} {X Y : Operand} {x y : AV} {vx vy : Value} (hx : Rel R μ x vx) (hy : Rel R μ y vy) (h : binK P op t x y K) :
    Gives P R μ K (do eqGuard op t X Y vx vy; binOp op t vx vy) := by
  unfold binK at h
  split at h
  · cases hx; cases hy; exact .guard (eqGuard_int _ _ _ _ _ _ _ _) (shK_ok (yk := .i64) (.inl rfl) h rfl)
  · cases hx; cases hy; exact .guard (eqGuard_int _ _ _ _ _ _ _ _) (shK_ok (yk := .i64) (.inr rfl) h rfl)
  · rename_i h1 h2
    have hop : op ≠ .shl ∧ op ≠ .shr := ⟨h1, h2⟩
    cases hx; cases hy
    obtain ⟨rfl, h⟩ := h
    exact .guard (eqGuard_int _ _ _ _ _ _ _ _) (ibin_ok hop h)
  · cases hx; cases hy; exact .guard (eqGuard_str _ _ _ _ _ _) (sbin_ok h)
  · cases hx with | agg hl => cases hy with | agg hm =>
    obtain ⟨b, h1, h2, h3⟩ := eqSK_ok hl hm h
    exact .guard (h3 _ _ _) (.mk h1 .bool fun w => by
      show ((do pure (.bool (← Op.equal t _ _)) : Sem Value)).run P w = _
      rw [Sem.run_bind, h2]; rfl)
  · cases hx with | agg hl => cases hy with | agg hm =>
    obtain ⟨b, h1, h2, h3⟩ := eqSK_ok hl hm h
    exact .guard (h3 _ _ _) (.mk h1 .bool fun w => by
      show ((do pure (.bool (!(← Op.equal t _ _))) : Sem Value)).run P w = _
      rw [Sem.run_bind, h2]; rfl)
  · obtain ⟨⟨e, hk⟩, h⟩ := h
    cases hy
    obtain ⟨b, h1, h2, h3, h4, _⟩ := eqNK_ok hk hx h
    exact .guard (h3 _ _ _) (h4 ▸ .mk h1 .bool fun w => by rw [Sem.run_bind, h2]; rfl)
  · obtain ⟨⟨e, hk⟩, h⟩ := h
    cases hy
    obtain ⟨b, h1, h2, h3, _, h4⟩ := eqNK_ok hk hx h
    exact .guard (h3 _ _ _) (h4 ▸ .mk h1 .bool fun w => by rw [Sem.run_bind, h2]; rfl)
  · obtain ⟨b, h1, h2, h3, h4, _⟩ := eqK_ok hx hy h
    exact .guard (h3 _ _ _) (h4 ▸ .mk h1 .bool fun w => by rw [Sem.run_bind, h2]; rfl)
  · obtain ⟨b, h1, h2, h3, _, h4⟩ := eqK_ok hx hy h
    exact .guard (h3 _ _ _) (h4 ▸ .mk h1 .bool fun w => by rw [Sem.run_bind, h2]; rfl)
  · exact h.elim

theorem unK_ok {op : UnOp} {x : AV} {vx : Value} (hx : Rel R μ x vx) (h : unK op x K) : Gives P R μ K (Op.unary op vx) := by
  unfold unK at h
  split at h
  · cases hx; exact .mk h .bool fun w => rfl
  · cases hx; exact .mk h .int fun w => rfl
  · cases hx; exact .mk h .int fun w => rfl
  · exact h.elim

theorem convK_ok {src dst : TypeId} {x : AV} {vx : Value} (hs : kdT P src ≠ .other) (hx : Rel R μ x vx) (h : convK (kdT P src) (kdT P dst) x K) : Gives P R μ K (convert src dst vx) := by
  obtain ⟨d, hd⟩ := kd_ne hs
  unfold convK at h
  split at h
  · rename_i hk
    cases hx
    exact .mk h .int fun w => by simp [convert, run_underlying hd, run_underlying (kd_int hk), Conv.intToInt]
  · rename_i hk1 hk2
    cases hx
    exact .mk h .str fun w => by simp [convert, run_underlying (kd_str hk1), run_underlying (kd_str hk2)]
  · exact h.elim

theorem extractK_ok {x : AV} {vx : Value} {i : Nat} (hx : Rel R μ x vx) (h : extractK x i K) : Gives P R μ K (Instr.extract vx i) := by
  unfold extractK at h
  split at h
  · split at h
    · rename_i l _ a ha
      cases hx
      rename_i vs hl
      obtain ⟨v, hv, hr⟩ := hl.get i ha
      exact .mk h hr fun w => by simp [Instr.extract, hv]
    · exact h.elim
  · exact h.elim

theorem addr_add (b o j : Nat) : (⟨b, o, none⟩ : Addr).add j = ⟨b, o + j, none⟩ := by
  unfold Addr.add
  split <;> simp_all

theorem fld_ok {s f : Nat} {o : Nat} {t : TypeId} (h : fldT P s f = some (o, t)) : ∃ fs x, P.underlying s = some (.struct fs) ∧ fs[f]? = some x ∧ x.offset = o ∧ x.type = t ∧ szT P t ≠ 0 := by
  unfold fldT at h
  split at h
  · rename_i fs hu
    split at h
    · rename_i x hx
      split at h
      · simp at h
      · rename_i hz
        simp only [Option.some.injEq, Prod.mk.injEq] at h
        obtain ⟨rfl, rfl⟩ := h
        exact ⟨fs, x, hu, hx, rfl, rfl, hz⟩
    · simp at h
  · simp at h
theorem sz_info {t : TypeId} (h : szT P t ≠ 0) : ∃ i, P.info? t = some i ∧ i.size = szT P t := by
  unfold szT at *
  split at h
  · rename_i i hi; exact ⟨i, hi, by simp⟩
  · simp at h
theorem run_sizeOf {t : TypeId} (h : szT P t ≠ 0) (w : World) : (sizeOf t).run P w = .ok (szT P t) w := by
  obtain ⟨i, hi, hs⟩ := sz_info h
  simp [sizeOf, typeInfo, hi, hs]
theorem run_fieldAt {s f o : Nat} {t : TypeId} (h : fldT P s f = some (o, t)) (a : Addr) (w : World) : (Instr.fieldAt s (.pointer (some a)) f).run P w = .ok (.pointer (some (a.add o))) w := by
  obtain ⟨fs, x, hu, hx, rfl, rfl, hz⟩ := fld_ok h
  simp [Instr.fieldAt, run_underlying hu, hx, Instr.sureAddr, fieldPlace, run_sizeOf hz, hz]
theorem fldAddrK_ok {s f : Nat} {x : AV} {vx : Value} (hx : Rel R μ x vx) (h : fldAddrK (fldT P s f) x K) : Gives P R μ K (Instr.fieldAt s vx f) := by
  unfold fldAddrK at h
  split at h
  · rename_i hf
    cases hx
    rename_i hB hb
    exact .mk h (.ptr hb hB) fun w => by rw [run_fieldAt hf, addr_add]
  · rename_i hf
    cases hx
    rename_i hb
    exact .mk h (.ep hb) fun w => by rw [run_fieldAt hf, addr_add, Nat.add_assoc]
  · rename_i hf
    cases hx with
    | rp hb hl hi => exact .mk h (.rp hb hl hi) fun w => by rw [run_fieldAt hf, addr_add, Nat.add_assoc]
  · exact h.elim
theorem run_indexAt {t el : TypeId} (hk : kdT P t = .slice el) (hz : szT P el ≠ 0) (a : Addr) (n c : Nat) (k : IntKind) (i : Int) (h0 : 0 ≤ i) (h1 : i < n) (w : World) :
    (Instr.indexAt t (.slice (some a) n c) (.int k i)).run P w = .ok (.pointer (some (a.add (i.toNat * szT P el)))) w := by
  simp [Instr.indexAt, asIntOf, run_underlying (kd_slice hk), run_sizeOf hz, h0, h1]
theorem run_indexAtA {t el : TypeId} {m : Nat} (hk : kdT P t = .array m el) (hz : szT P el ≠ 0) (a : Addr) (k : IntKind) (i : Int) (h0 : 0 ≤ i) (h1 : i < m) (w : World) :
    (Instr.indexAt t (.pointer (some a)) (.int k i)).run P w = .ok (.pointer (some (a.add (i.toNat * szT P el)))) w := by
  simp [Instr.indexAt, Instr.sureAddr, asIntOf, run_underlying (kd_array hk), run_sizeOf hz, h0, h1]
theorem idxAddrK_ok {t : TypeId} {x i : AV} {vx vi : Value} (hx : Rel R μ x vx) (hi : Rel R μ i vi) (h : idxAddrK P (kdT P t) x i K) : Gives P R μ K (Instr.indexAt t vx vi) := by
  unfold idxAddrK at h
  split at h
  · rename_i el e xs k i hk
    obtain ⟨⟨h0, h1⟩, hs, h⟩ := h
    cases hi
    have hz : szT P el ≠ 0 := by rw [hs]; exact Nat.pos_iff_ne_zero.1 e.sz_pos
    cases hx with
    | ro hb hl hc hm =>
      refine .mk h (.rp hb hl (by omega : i.toNat < xs.length)) fun w => ?_
      rw [run_indexAt hk hz _ _ _ _ _ h0 h1, addr_add, hs]
      rfl
    | ro0 => simp at h1; omega
  · rename_i el t' e s n k i hk
    obtain ⟨⟨h0, h1⟩, hs, h⟩ := h
    cases hi
    have hz : szT P el ≠ 0 := by rw [hs]; exact Nat.pos_iff_ne_zero.1 e.sz_pos
    cases hx with
    | sl hb hc hl hm =>
      refine .mk h (.ep hb) fun w => ?_
      rw [run_indexAt hk hz _ _ _ _ _ h0 h1, addr_add, hs, ← Nat.add_mul]
      rfl
    | sl0 => simp at h1; omega
  · rename_i el t' n c k i hk
    obtain ⟨⟨h0, h1⟩, hz, h⟩ := h
    cases hi
    cases hx with
    | csl hb hl hk2 hm => exact .mk h (.ptr hb rfl) fun w => by rw [run_indexAt hk hz _ _ _ _ _ h0 h1, addr_add, Nat.zero_add]
  · rename_i n el t' off k i hk
    obtain ⟨⟨h0, h1⟩, hz, h⟩ := h
    cases hi
    cases hx with
    | ptr hb hob => exact .mk h (.ptr hb hob) fun w => by rw [run_indexAtA hk hz _ _ _ h0 h1, addr_add]
  · rename_i n el e xs j off k i hk
    obtain ⟨⟨h0, h1⟩, hz, h⟩ := h
    cases hi
    cases hx with
    | rp hb hl hj => exact .mk h (.rp hb hl hj) fun w => by rw [run_indexAtA hk hz _ _ _ h0 h1, addr_add, Nat.add_assoc]
  · rename_i n el t' e j off k i hk
    obtain ⟨⟨h0, h1⟩, hz, h⟩ := h
    cases hi
    cases hx with
    | ep hb => exact .mk h (.ep hb) fun w => by rw [run_indexAtA hk hz _ _ _ h0 h1, addr_add, Nat.add_assoc]
  · exact h.elim
theorem allN_at {F : Nat → Prop} : ∀ (n : Nat), allN n F → ∀ j, j < n → F j
  | 0, _, j, hj => by omega
  | n + 1, h, j, hj => by
    rcases Nat.lt_or_ge j n with h1 | h1
    · exact allN_at n h.1 j h1
    · rw [show j = n from by omega]; exact h.2
theorem part_agg {t : TypeId} {d : TypeDesc} (hd : P.underlying t = some d) (ha : aggD d = true) (hz : szT P t ≠ 0) (vs : Array Value) (off : Nat) (w : World) : (part t vs off).run P w = .ok (.agg (vs.extract off (off + szT P t))) w := by
  simp only [part, Sem.run_bind, run_isAgg hd, ha, Result.andThen_ok, if_true, run_sizeOf hz, Sem.run_pure]
theorem partA_agg {t : TypeId} {d : TypeDesc} (hd : P.underlying t = some d) (ha : aggD d = true) (l : List AV) (off : Nat) : partA P t l off = .agg ((l.drop off).take (szT P t)) := by
  cases d <;> simp [aggD] at ha <;> simp [partA, kdT, hd]
theorem partA_one {t : TypeId} {d : TypeDesc} (hd : P.underlying t = some d) (ha : aggD d = false) (l : List AV) (off : Nat) : partA P t l off = nthA l off := by
  cases d <;> simp [aggD] at ha <;> simp [partA, kdT, hd]
theorem part_ok {t : TypeId} {l : List AV} {vs : List Value} (hz : szT P t ≠ 0) (hk : kdT P t ≠ .other) (hl : LRel R μ l vs) (off : Nat) (hlen : off + szT P t ≤ l.length) :
    ∃ v, Rel R μ (partA P t l off) v ∧ ∀ w, (part t vs.toArray off).run P w = .ok v w := by
  obtain ⟨d, hd⟩ := kd_ne hk
  have hlen' := hl.len
  cases ha : aggD d with
  | true =>
    rw [partA_agg hd ha]
    refine ⟨_, .agg ((hl.drop off).take (szT P t)), fun w => ?_⟩
    rw [part_agg hd ha hz]
    congr 2
    apply Array.ext'
    simp [List.take_drop]
  | false =>
    rw [partA_one hd ha]
    have h1 : off < vs.length := by have := Nat.pos_iff_ne_zero.2 hz; omega
    exact ⟨vs[off], hl.nth off (List.getElem?_eq_getElem h1), fun w => part_one hd ha (by simp [h1]) w⟩
theorem allN_at' {F : Nat → Prop} {n : Nat} (h : allN n F) {i : Int} (h0 : 0 ≤ i) (h1 : i < n) : F i.toNat := allN_at n h _ (by omega)

theorem idxK_ok {t : TypeId} {x i : AV} {vx vi : Value} (hx : Rel R μ x vx) (hi : Rel R μ i vi) (hel : ∀ n e, kdT P t = .array n e → szT P e ≠ 0 ∧ kdT P e ≠ .other) (h : idxK P (kdT P t) x i K) : Gives P R μ K (Instr.index t vx vi) := by
  unfold idxK at h
  split at h
  · rename_i n el l k i hk
    obtain ⟨⟨h0, h1⟩, hlen, h⟩ := h
    obtain ⟨hz, hko⟩ := hel _ _ hk
    cases hi
    cases hx with
    | agg hl =>
      have hj := allN_at' h h0 h1 (by omega)
      have hb : i.toNat * szT P el + szT P el ≤ l.length := by
        rw [hlen, ← Nat.succ_mul]
        exact Nat.mul_le_mul_right _ (by omega)
      obtain ⟨v, hv, hr⟩ := part_ok hz hko hl (i.toNat * szT P el) hb
      refine .mk hj hv fun w => ?_
      simp [Instr.index, asIntOf, run_underlying (kd_array hk), run_sizeOf hz, h0, h1, hr]
  · rename_i s k i hk
    obtain ⟨⟨h0, h1⟩, h⟩ := h
    cases hi
    cases hx
    refine .mk h .int fun w => ?_
    have hb : (ByteArray.mk s.toArray)[i.toNat]? = some (s.getD i.toNat 0) := by
      have hlt : i.toNat < (ByteArray.mk s.toArray).size := by simp [ByteArray.size]; omega
      rw [getElem?_pos (ByteArray.mk s.toArray) i.toNat hlt]
      simp [ByteArray.getElem_eq_getElem_data, List.getD_eq_getElem?_getD, List.getElem?_eq_getElem (show i.toNat < s.length by omega)]
    simp [Instr.index, asIntOf, run_underlying (kd_str hk), h0, hb]
  · exact h.elim

theorem loK_ok {x : Option AV} {v : Option Value} {d : Int} {F : Int → Prop} (h : loK x d F) (hr : ∀ a, x = some a → ∃ u, v = some u ∧ Rel R μ a u) (hn : x = none → v = none) :
    ∃ n, F n ∧ ((v = none ∧ n = d) ∨ ∃ k, v = some (.int k n)) := by
  unfold loK at h
  split at h
  · exact ⟨d, h, .inl ⟨hn rfl, rfl⟩⟩
  · obtain ⟨u, hu, hr⟩ := hr _ rfl
    cases hr
    exact ⟨_, h, .inr ⟨_, hu⟩⟩
  · exact h.elim
theorem run_sliceBounds {isS : Bool} {len cap : Nat} {lo hi : Option Value} {l h : Int} (hl : (lo = none ∧ l = 0) ∨ ∃ k, lo = some (.int k l)) (hh : (hi = none ∧ h = len) ∨ ∃ k, hi = some (.int k h)) (h0 : 0 ≤ l) (h1 : l ≤ h) (h2 : h ≤ cap) (w : World) :
    (Instr.sliceBounds isS len cap lo hi none).run P w = .ok (l.toNat, h.toNat, cap) w := by
  have hh0 : 0 ≤ h := by omega
  have hth : ((h.toNat : Nat) : Int) = h := by omega
  rcases hl with ⟨rfl, rfl⟩ | ⟨k, rfl⟩ <;> rcases hh with ⟨rfl, rfl⟩ | ⟨k', rfl⟩ <;> simp [Instr.sliceBounds, Instr.sliceBound, asIntOf, h0, h1, h2, hh0, hth]

theorem sliceK_ok {t : TypeId} {x : AV} {vx : Value} {lo hi : Option AV} {vlo vhi : Option Value} (hx : Rel R μ x vx) (hlo : ∀ a, lo = some a → ∃ u, vlo = some u ∧ Rel R μ a u) (hlo' : lo = none → vlo = none) (hhi : ∀ a, hi = some a → ∃ u, vhi = some u ∧ Rel R μ a u) (hhi' : hi = none → vhi = none)
    (h : sliceK P (kdT P t) x lo hi K) : Gives P R μ K (Instr.sliceAt t vx vlo vhi none) := by
  unfold sliceK at h
  split at h
  · rename_i el e xs hk
    obtain ⟨hs, h⟩ := h
    have hz : szT P el ≠ 0 := by rw [hs]; exact Nat.pos_iff_ne_zero.1 e.sz_pos
    obtain ⟨l, h, hl⟩ := loK_ok h hlo hlo'
    obtain ⟨m, ⟨⟨h0, h1, h2⟩, h⟩, hm⟩ := loK_ok h hhi hhi'
    have hu := kd_slice hk
    cases hx with
    | @ro _ _ _ b o arr ty fr c hb hr hc hcm =>
      have hbd := fun w => run_sliceBounds (P := P) (isS := true) (len := xs.length) (cap := c) hl hm h0 h1 (by omega) w
      have hrun : ∀ w, (Instr.sliceAt t (.slice (some ⟨b, o, none⟩) xs.length c) vlo vhi none).run P w = .ok (.slice (if c = l.toNat then some ⟨b, o, none⟩ else some ⟨b, o + l.toNat * e.sz, none⟩) (m.toNat - l.toNat) (c - l.toNat)) w := by
        intro w
        simp [Instr.sliceAt, Instr.slice, run_underlying hu, hbd, run_sizeOf hz, addr_add, hs]
      by_cases he : m.toNat = l.toNat
      · refine .mk h (v := .slice (if c = l.toNat then some ⟨b, o, none⟩ else some ⟨b, o + l.toNat * e.sz, none⟩) 0 (c - l.toNat)) ?_ fun w => by rw [hrun, he, Nat.sub_self]
        have : (xs.take m.toNat).drop l.toNat = [] := by
          apply List.drop_eq_nil_of_le; simp; omega
        rw [this]
        exact .ro0 (by omega)
      · have hcl : c ≠ l.toNat := by omega
        have hlen : ((xs.take m.toNat).drop l.toNat).length = m.toNat - l.toNat := by simp; omega
        refine .mk h (v := .slice (some ⟨b, o + l.toNat * e.sz, none⟩) ((xs.take m.toNat).drop l.toNat).length (c - l.toNat)) ?_ fun w => by rw [hrun, if_neg hcl, hlen]
        refine .ro hb ?_ (by omega) (by omega)
        have h3 := (hr.take (m.toNat * e.sz)).drop (l.toNat * e.sz)
        rw [flat_drop, flat_take, hlen]
        have e1 : ((arr.toList.drop (o + l.toNat * e.sz)).take ((m.toNat - l.toNat) * e.sz)) = ((((arr.toList.drop o).take (xs.length * e.sz)).take (m.toNat * e.sz)).drop (l.toNat * e.sz)) := by
          rw [List.take_take, Nat.min_eq_left (Nat.mul_le_mul_right _ (by omega)), List.drop_take, List.drop_drop, Nat.sub_mul]
        rw [e1]
        exact h3
    | @ro0 _ _ a c hcm =>
      have hl0 : l = 0 := by simp at h2; omega
      have hm0 : m = 0 := by simp at h2; omega
      subst hl0; subst hm0
      have hbd := fun w => run_sliceBounds (P := P) (isS := true) (len := 0) (cap := c) hl hm h0 h1 (by omega) w
      refine .mk h (v := .slice a 0 c) (by simp; exact .ro0 hcm) fun w => ?_
      simp [Instr.sliceAt, Instr.slice, run_underlying hu, hbd, run_sizeOf hz]
      cases a <;> simp [Addr.add]
  · rename_i el t' e s n hk
    obtain ⟨hs, h⟩ := h
    have hz : szT P el ≠ 0 := by rw [hs]; exact Nat.pos_iff_ne_zero.1 e.sz_pos
    obtain ⟨l, h, hl⟩ := loK_ok h hlo hlo'
    obtain ⟨m, ⟨⟨h0, h1, h2⟩, h⟩, hm⟩ := loK_ok h hhi hhi'
    have hu := kd_slice hk
    cases hx with
    | @sl _ _ _ _ _ b cap c hb hc hcl hcm =>
      have hbd := fun w => run_sliceBounds (P := P) (isS := true) (len := n) (cap := c) hl hm h0 h1 (by omega) w
      have hrun : ∀ w, (Instr.sliceAt t (.slice (some ⟨b, s * e.sz, none⟩) n c) vlo vhi none).run P w = .ok (.slice (if c = l.toNat then some ⟨b, s * e.sz, none⟩ else some ⟨b, (s + l.toNat) * e.sz, none⟩) (m.toNat - l.toNat) (c - l.toNat)) w := by
        intro w
        simp [Instr.sliceAt, Instr.slice, run_underlying hu, hbd, run_sizeOf hz, addr_add, hs, Nat.add_mul]
      by_cases he : c = l.toNat
      · refine .mk h (v := .slice (some ⟨b, s * e.sz, none⟩) (m.toNat - l.toNat) (c - l.toNat)) ?_ fun w => by rw [hrun, if_pos he]
        by_cases h00 : s + l.toNat = 0
        · have hs0 : s = 0 := by omega
          have hl0 : l.toNat = 0 := by omega
          subst hs0
          rw [hl0]
          exact .sl hb (by omega) (by omega) hcm
        · rw [show m.toNat - l.toNat = 0 from by omega, show c - l.toNat = 0 from by omega]
          exact .sl0 (.inr ⟨by omega, (List.getElem?_eq_some_iff.1 hb).1⟩)
      · exact .mk h (v := .slice (some ⟨b, (s + l.toNat) * e.sz, none⟩) (m.toNat - l.toNat) (c - l.toNat)) (.sl hb (by omega) (by omega) hcm) fun w => by rw [hrun, if_neg he]
    | @sl0 _ _ _ _ a ht =>
      have hl0 : l = 0 := by simp at h2; omega
      have hm0 : m = 0 := by simp at h2; omega
      subst hl0; subst hm0
      have hbd := fun w => run_sliceBounds (P := P) (isS := true) (len := 0) (cap := 0) hl hm h0 h1 (by omega) w
      refine .mk h (v := .slice a 0 0) (by simp; exact .sl0 ht) fun w => ?_
      simp [Instr.sliceAt, Instr.slice, run_underlying hu, hbd, run_sizeOf hz]
  · rename_i el hk
    obtain ⟨hz, h⟩ := h
    obtain ⟨l, h, hl⟩ := loK_ok h hlo hlo'
    obtain ⟨m, ⟨⟨hl0, hm0⟩, hK3⟩, hm⟩ := loK_ok h hhi hhi'
    subst hl0
    subst hm0
    have hu := kd_slice hk
    cases hx
    have hbd := fun w => run_sliceBounds (P := P) (isS := true) (len := 0) (cap := 0) hl hm (by omega) (by omega) (by omega) w
    refine .mk hK3 (v := .slice none 0 0) .lit fun w => ?_
    simp [Instr.sliceAt, Instr.slice, run_underlying hu, hbd, run_sizeOf hz]
  · rename_i s hk
    obtain ⟨l, h, hl⟩ := loK_ok h hlo hlo'
    obtain ⟨m, ⟨⟨h0, h1, h2⟩, h⟩, hm⟩ := loK_ok h hhi hhi'
    have hu := kd_str hk
    cases hx
    have hsz : (ByteArray.mk s.toArray).size = s.length := by simp [ByteArray.size]
    have hbd := fun w => run_sliceBounds (P := P) (isS := false) (len := s.length) (cap := s.length) hl hm h0 h1 (by omega) w
    refine .mk h .str fun w => ?_
    simp [Instr.sliceAt, Instr.slice, run_underlying hu, hsz, hbd]
    apply ByteArray.ext
    simp [ByteArray.data_extract, List.drop_take]
  · exact h.elim

theorem run_len_slice {t e ty : TypeId} (hk : kdT P t = .slice e) (a : Option Addr) (n c : Nat) (w : World) : (Builtin.len_ #[t] ty #[.slice a n c]).run P w = .ok (.int .i64 n) w := by
  simp [Builtin.len_, run_underlying (kd_slice hk), goInt]
theorem size_str (s : List UInt8) : (ByteArray.mk s.toArray).size = s.length := by simp [ByteArray.size]
theorem run_len_str {t ty : TypeId} (hk : kdT P t = .str) (s : List UInt8) (w : World) : (Builtin.len_ #[t] ty #[.string ⟨s.toArray⟩]).run P w = .ok (.int .i64 s.length) w := by
  rw [← size_str]
  generalize ByteArray.mk s.toArray = b
  simp [Builtin.len_, run_underlying (kd_str hk), goInt]
/-- 'len' of a slice or a string, by its type -/
def lenTK (k : Kd) (x : AV) (K : AV → Prop) : Prop :=
  match k, x with
  | .slice _, .ro _ xs => K (.int .i64 xs.length)
  | .slice _, .sl _ _ _ n => K (.int .i64 n)
  | .slice _, .csl _ n _ => K (.int .i64 n)
  | .slice _, .lit (.slice none 0 0) => K (.int .i64 0)
  | .str, .str s => K (.int .i64 s.length)
  | _, _ => False
theorem lenK_ok {t : TypeId} {x : AV} {vx : Value} {ty : TypeId} (hx : Rel R μ x vx) (h : lenTK (kdT P t) x K) : Gives P R μ K (Builtin.len_ #[t] ty #[vx]) := by
  unfold lenTK at h
  split at h
  · rename_i hk
    cases hx with
    | ro => exact .mk h .int fun w => run_len_slice hk _ _ _ w
    | ro0 => exact .mk h .int fun w => run_len_slice hk _ _ _ w
  · rename_i hk
    cases hx with
    | sl => exact .mk h .int fun w => run_len_slice hk _ _ _ w
    | sl0 => exact .mk h .int fun w => run_len_slice hk _ _ _ w
  · rename_i hk
    cases hx with
    | csl => exact .mk h .int fun w => run_len_slice hk _ _ _ w
  · rename_i hk
    cases hx
    exact .mk h .int fun w => run_len_slice hk _ _ _ w
  · rename_i hk
    cases hx
    exact .mk h .int fun w => run_len_str hk _ w
  · exact h.elim
end Go.V

namespace Go.V

def Ety.get (e : Ety) (xs : List e.T) (i : Nat) : e.T := xs.getD i e.dflt

theorem HRel.get {R : RO} {w : World} {μ : List Bind} : ∀ {h : List Ch} {m : List Bind} {t : Nat} {c : Ch}, HRel R w μ h m → h[t]? = some c → ∃ B, m[t]? = some B ∧ CRel R w μ c B ∧ ∀ n ∈ ownC c B, n ∈ ownH h m
  | [], _, _, _, _, e => by simp at e
  | c :: l, B :: m, 0, _, h, e => by simp at e; subst e; exact ⟨B, rfl, h.1, fun n hn => by simp [ownH, hn]⟩
  | c :: l, B :: m, t + 1, _, h, e => by
    obtain ⟨B', h1, h2, h3⟩ := HRel.get h.2 (by simpa using e)
    exact ⟨B', by simpa using h1, h2, fun n hn => by simp [ownH, h3 n hn]⟩
  | _ :: _, [], _, _, h, _ => h.elim
theorem ownH_set_sub {c' : Ch} : ∀ {h : List Ch} {m : List Bind} {t : Nat}, (∀ c B, h[t]? = some c → m[t]? = some B → (ownC c' B).Sublist (ownC c B)) → (ownH (h.set t c') m).Sublist (ownH h m)
  | [], m, t, _ => by simp
  | _ :: _, [], t, _ => by cases t <;> simp [ownH]
  | c :: l, B :: m, 0, hs => by simp only [List.set_cons_zero, ownH]; exact (hs c B rfl rfl).append (List.Sublist.refl _)
  | c :: l, B :: m, t + 1, hs => by simp only [List.set_cons_succ, ownH]; exact (List.Sublist.refl _).append (ownH_set_sub fun c B h1 h2 => hs c B (by simpa using h1) (by simpa using h2))
theorem HRel.set {R R' : RO} (hR : R.le R') {w w' : World} {μ : List Bind} {c c' : Ch} {B : Bind} : ∀ {h : List Ch} {m : List Bind} {t : Nat}, HRel R w μ h m → (ownH h m).Nodup → h[t]? = some c → m[t]? = some B →
    (∀ n ∈ ownH h m, n ∉ ownC c B → w'.heap[n]? = w.heap[n]?) → CRel R' w' μ c' B → HRel R' w' μ (h.set t c') m
  | [], _, _, _, _, e, _, _, _ => by simp at e
  | _ :: _, [], _, h, _, _, _, _, _ => h.elim
  | c0 :: l, B0 :: m, 0, h, hn, e, e', hk, hc => by
    simp at e e'; subst e; subst e'
    simp only [ownH, List.nodup_append] at hn
    refine ⟨hc, HRel.keep hR (Ext.refl μ) l m h.2 fun n hm => hk n (by simp [ownH, hm]) fun hx => hn.2.2 n hx n hm rfl⟩
  | c0 :: l, B0 :: m, t + 1, h, hn, e, e', hk, hc => by
    simp only [ownH, List.nodup_append] at hn
    obtain ⟨B1, h1, _, h3⟩ := HRel.get h.2 (by simpa using e)
    have hB : B1 = B := by
      rw [List.getElem?_cons_succ] at e'
      rw [e'] at h1
      exact (Option.some.inj h1).symm
    subst hB
    refine ⟨CRel.keep hR (Ext.refl μ) c0 B0 h.1 fun n hm => hk n (by simp [ownH, hm]) fun hx => hn.2.2 n hm n (h3 n hx) rfl, ?_⟩
    exact HRel.set hR h.2 hn.2.1 (by simpa using e) (by simpa using e') (fun n hm hx => hk n (by simp [ownH, hm]) hx) hc

/-- chunk t is changed; the worlds differ at its blocks alone (and in new blocks) -/
theorem HOk.set {R : RO} {μ : List Bind} {h : List Ch} {w w' : World} {t : Nat} {c c' : Ch} {B : Bind} (H : HOk R μ h w) (hc : h[t]? = some c) (hB : μ[t]? = some B)
    (hs : (ownC c' B).Sublist (ownC c B)) (hk : ∀ n, n < w.heap.size → n ∉ ownC c B → w'.heap[n]? = w.heap[n]?) (hz : w.heap.size ≤ w'.heap.size) (hr : CRel R w' μ c' B)
    (hos : w'.os = w.os) (htp : w'.tape = w.tape) (hou : w'.output = w.output) (hdr : w.drawn ≤ w'.drawn := by first | exact Nat.le_refl _ | exact Nat.le_succ _ | exact Nat.le_add_right _ _) :
    HOk R μ (h.set t c') w' ∧ Step (ownH h μ) R w (ownH (h.set t c') μ) R w' := by
  have hsub : (ownH (h.set t c') μ).Sublist (ownH h μ) := ownH_set_sub fun c0 B0 h1 h2 => by
    rw [hc] at h1; rw [hB] at h2
    rw [← Option.some.inj h1, ← Option.some.inj h2]; exact hs
  obtain ⟨B', h1, _, h3⟩ := H.rel.get hc
  have : B' = B := by rw [hB] at h1; exact (Option.some.inj h1).symm
  subst this
  refine ⟨⟨H.rel.set (RO.le.refl R) H.nodup hc hB (fun n hn hx => hk n (H.own n hn).1 hx) hr, H.nodup.sublist hsub, fun b hb => ⟨Nat.lt_of_lt_of_le (H.own b (hsub.subset hb)).1 hz, (H.own b (hsub.subset hb)).2⟩, fun b o hb => ?_⟩, ?_⟩
  · have h4 := H.ro b o hb
    have hlt : b < w.heap.size := (Array.getElem?_eq_some_iff.1 h4).1
    rw [hk b hlt (fun hx => by have := (H.own b (h3 b hx)).2; rw [this] at hb; simp at hb)]
    exact h4
  · exact ⟨RO.le.refl R, hz, fun b hb hx => hk b hb (fun hy => hx (h3 b hy)), fun b hb => .inl (hsub.subset hb), fun _ _ hb => .inl hb, hos, htp, hou, hdr⟩

/-- a new chunk in new blocks -/
theorem HOk.push {R : RO} {μ : List Bind} {h : List Ch} {w w' : World} {c : Ch} {B : Bind} (H : HOk R μ h w) (hk : ∀ n, n < w.heap.size → w'.heap[n]? = w.heap[n]?) (hz : w.heap.size ≤ w'.heap.size)
    (hn : (ownC c B).Nodup) (ho : ∀ n ∈ ownC c B, w.heap.size ≤ n ∧ n < w'.heap.size) (hr : CRel R w' (μ ++ [B]) c B)
    (hos : w'.os = w.os) (htp : w'.tape = w.tape) (hou : w'.output = w.output) (hdr : w.drawn ≤ w'.drawn := by first | exact Nat.le_refl _ | exact Nat.le_succ _ | exact Nat.le_add_right _ _) :
    HOk R (μ ++ [B]) (h ++ [c]) w' ∧ Step (ownH h μ) R w (ownH (h ++ [c]) (μ ++ [B])) R w' := by
  have he : ownH (h ++ [c]) (μ ++ [B]) = ownH h μ ++ ownC c B := by
    rw [ownH_app _ _ _ _ H.rel.len]; simp [ownH]
  refine ⟨⟨?_, ?_, fun b hb => ?_, fun b o hb => ?_⟩, ⟨RO.le.refl R, hz, fun b hb _ => hk b hb, fun b hb => ?_, fun _ _ hb => .inl hb, hos, htp, hou, hdr⟩⟩
  · exact HRel.app (HRel.keep (RO.le.refl R) (Ext.app _ _) h μ H.rel fun n hn => hk n (H.own n hn).1) ⟨hr, trivial⟩
  · rw [he, List.nodup_append]
    exact ⟨H.nodup, hn, fun a ha b hb e => by subst e; have := (H.own a ha).1; have := (ho a hb).1; omega⟩
  · rw [he, List.mem_append] at hb
    rcases hb with hb | hb
    · exact ⟨Nat.lt_of_lt_of_le (H.own b hb).1 hz, (H.own b hb).2⟩
    · refine ⟨(ho b hb).2, ?_⟩
      cases hR : R b with
      | none => rfl
      | some o =>
        have := (Array.getElem?_eq_some_iff.1 (H.ro b o hR)).1
        have := (ho b hb).1
        omega
  · have h4 := H.ro b o hb
    rw [hk b (Array.getElem?_eq_some_iff.1 h4).1]; exact h4
  · rw [he, List.mem_append] at hb
    rcases hb with hb | hb
    · exact .inl hb
    · exact .inr (ho b hb).1

/-- nothing at hand changes -/
theorem HOk.same {R : RO} {μ : List Bind} {h : List Ch} {w w' : World} (H : HOk R μ h w) (hk : ∀ n, n < w.heap.size → w'.heap[n]? = w.heap[n]?) (hz : w.heap.size ≤ w'.heap.size)
    (hos : w'.os = w.os) (htp : w'.tape = w.tape) (hou : w'.output = w.output) (hdr : w.drawn ≤ w'.drawn := by first | exact Nat.le_refl _ | exact Nat.le_succ _ | exact Nat.le_add_right _ _) : HOk R μ h w' ∧ Step (ownH h μ) R w (ownH h μ) R w' :=
  ⟨⟨HRel.keep (RO.le.refl R) (Ext.refl μ) h μ H.rel fun n hn => hk n (H.own n hn).1, H.nodup, fun b hb => ⟨Nat.lt_of_lt_of_le (H.own b hb).1 hz, (H.own b hb).2⟩, fun b o hb => by
    have h4 := H.ro b o hb
    rw [hk b (Array.getElem?_eq_some_iff.1 h4).1]; exact h4⟩, ⟨RO.le.refl R, hz, fun b hb _ => hk b hb, fun _ hb => .inl hb, fun _ _ hb => .inl hb, hos, htp, hou, hdr⟩⟩

/-- a new block that lies for good -/
def RO.put (R : RO) (b : Nat) (o : Obj) : RO := fun x => if x = b then some o else R x
theorem HOk.lay {R : RO} {μ : List Bind} {h : List Ch} {w w' : World} {b : Nat} {o : Obj} (H : HOk R μ h w) (hb : w.heap.size ≤ b) (ho : w'.heap[b]? = some o) (hk : ∀ n, n < w.heap.size → w'.heap[n]? = w.heap[n]?) (hz : w.heap.size ≤ w'.heap.size)
    (hos : w'.os = w.os) (htp : w'.tape = w.tape) (hou : w'.output = w.output) (hdr : w.drawn ≤ w'.drawn := by first | exact Nat.le_refl _ | exact Nat.le_succ _ | exact Nat.le_add_right _ _) : HOk (R.put b o) μ h w' ∧ Step (ownH h μ) R w (ownH h μ) (R.put b o) w' ∧ R.le (R.put b o) := by
  have hle : R.le (R.put b o) := fun x y hx => by
    unfold RO.put
    have := (Array.getElem?_eq_some_iff.1 (H.ro x y hx)).1
    rw [if_neg (by omega)]; exact hx
  refine ⟨⟨HRel.keep hle (Ext.refl μ) h μ H.rel fun n hn => hk n (H.own n hn).1, H.nodup, fun x hx => ⟨Nat.lt_of_lt_of_le (H.own x hx).1 hz, ?_⟩, fun x y hx => ?_⟩, ⟨hle, hz, fun n hn _ => hk n hn, fun _ hx => .inl hx, fun x y hx => ?_, hos, htp, hou, hdr⟩, hle⟩
  · unfold RO.put
    have := (H.own x hx).1
    rw [if_neg (by omega)]; exact (H.own x hx).2
  · unfold RO.put at hx
    split at hx
    · rename_i e; subst e; rw [← hx]; exact ho
    · have h4 := H.ro x y hx
      rw [hk x (Array.getElem?_eq_some_iff.1 h4).1]; exact h4
  · unfold RO.put at hx
    split at hx
    · rename_i e; subst e; exact .inr (.inr hb)
    · exact .inl hx

theorem ownC_gone (B : Bind) : ownC .gone B = [] := by cases B <;> rfl
theorem gone_sub (B : Bind) (l : List Nat) : (ownC .gone B).Sublist l := by rw [ownC_gone]; exact List.nil_sublist l
theorem own_mem {c : Ch} {B : Bind} : ∀ {h : List Ch} {m : List Bind} {t : Nat}, h[t]? = some c → m[t]? = some B → ∀ b ∈ ownC c B, b ∈ ownH h m
  | [], _, _, e, _, _, _ => by simp at e
  | _ :: _, [], _, _, e, _, _ => by simp at e
  | _ :: _, _ :: _, 0, e1, e2, b, hb => by simp at e1 e2; subst e1; subst e2; simp [ownH, hb]
  | _ :: l, _ :: m, t + 1, e1, e2, b, hb => by
    simp only [ownH, List.mem_append]; exact .inr (own_mem (by simpa using e1) (by simpa using e2) b hb)
theorem own_gone {c : Ch} {B : Bind} : ∀ {h : List Ch} {m : List Bind} {t : Nat}, (ownH h m).Nodup → h[t]? = some c → m[t]? = some B → ∀ b ∈ ownC c B, b ∉ ownH (h.set t .gone) m
  | [], _, _, _, e, _, _, _ => by simp at e
  | _ :: _, [], _, _, _, e, _, _ => by simp at e
  | c0 :: l, B0 :: m, 0, hn, e1, e2, b, hb => by
    simp at e1 e2; subst e1; subst e2
    simp only [ownH, List.nodup_append] at hn
    simp only [List.set_cons_zero, ownH, ownC, List.nil_append]
    exact fun hx => hn.2.2 b hb b hx rfl
  | c0 :: l, B0 :: m, t + 1, hn, e1, e2, b, hb => by
    simp only [ownH, List.nodup_append] at hn
    simp only [List.set_cons_succ, ownH, List.mem_append]
    rintro (hx | hx)
    · exact hn.2.2 b hx b (own_mem (by simpa using e1) (by simpa using e2) b hb) rfl
    · exact own_gone hn.2.1 (by simpa using e1) (by simpa using e2) b hb hx

/-- chunk t goes over into a new chunk -/
theorem HOk.move {R : RO} {μ : List Bind} {h : List Ch} {w w' : World} {t : Nat} {c c' : Ch} {B B' : Bind} (H : HOk R μ h w) (hc : h[t]? = some c) (hB : μ[t]? = some B)
    (hs : (ownC c' B').Sublist (ownC c B)) (hk : ∀ n, n < w.heap.size → n ∉ ownC c B → w'.heap[n]? = w.heap[n]?) (hz : w.heap.size ≤ w'.heap.size) (hr : CRel R w' (μ ++ [B']) c' B')
    (hos : w'.os = w.os) (htp : w'.tape = w.tape) (hou : w'.output = w.output) (hdr : w.drawn ≤ w'.drawn := by first | exact Nat.le_refl _ | exact Nat.le_succ _ | exact Nat.le_add_right _ _) :
    HOk R (μ ++ [B']) (h.set t .gone ++ [c']) w' ∧ Step (ownH h μ) R w (ownH (h.set t .gone ++ [c']) (μ ++ [B'])) R w' := by
  obtain ⟨H1, hst⟩ := H.set (c' := .gone) hc hB (gone_sub _ _) hk hz trivial hos htp hou hdr
  have he : ownH (h.set t .gone ++ [c']) (μ ++ [B']) = ownH (h.set t .gone) μ ++ ownC c' B' := by
    rw [ownH_app _ _ _ _ H1.rel.len]; simp [ownH]
  have hsub : ∀ b ∈ ownC c' B', b ∈ ownH h μ := fun b hb => own_mem hc hB b (hs.subset hb)
  have hnd : (ownC c B).Nodup := by
    have key : ∀ (h : List Ch) (m : List Bind) (t : Nat), (ownH h m).Nodup → h[t]? = some c → m[t]? = some B → (ownC c B).Nodup := by
      intro h
      induction h with
      | nil => intro m t _ e; simp at e
      | cons a l ih =>
        intro m t hn e1 e2
        cases m with
        | nil => simp at e2
        | cons b m =>
          simp only [ownH, List.nodup_append] at hn
          cases t with
          | zero => simp at e1 e2; subst e1; subst e2; exact hn.1
          | succ t => exact ih m t hn.2.1 (by simpa using e1) (by simpa using e2)
    exact key h μ t H.nodup hc hB
  refine ⟨⟨HRel.app (HRel.keep (RO.le.refl R) (Ext.app _ _) _ _ H1.rel fun _ _ => rfl) ⟨hr, trivial⟩, ?_, fun b hb => ?_, H1.ro⟩, ⟨RO.le.refl R, hz, hst.out, fun b hb => ?_, fun _ _ hb => .inl hb, hos, htp, hou, hdr⟩⟩
  · rw [he, List.nodup_append]
    exact ⟨H1.nodup, hnd.sublist hs, fun a ha b hb e => by subst e; exact own_gone H.nodup hc hB a (hs.subset hb) ha⟩
  · rw [he, List.mem_append] at hb
    rcases hb with hb | hb
    · exact H1.own b hb
    · exact ⟨Nat.lt_of_lt_of_le (H.own b (hsub b hb)).1 hz, (H.own b (hsub b hb)).2⟩
  · rw [he, List.mem_append] at hb
    rcases hb with hb | hb
    · exact hst.own b hb
    · exact .inl (hsub b hb)

/-- chunk t, a row, lies for good from now on -/
theorem HOk.freeze {R : RO} {μ : List Bind} {h : List Ch} {w : World} {t : Nat} {e : Ety} {xs : List e.T} (H : HOk R μ h w) (hc : h[t]? = some (.rows e xs)) :
    ∃ R', HOk R' μ (h.set t .gone) w ∧ Step (ownH h μ) R w (ownH (h.set t .gone) μ) R' w ∧ R.le R' ∧
      ∀ (s n : Nat) (v : Value), Rel R μ (.sl t e s n) v → s + n ≤ xs.length → Rel R' μ (.ro e ((xs.drop s).take n)) v := by
  obtain ⟨B, hB, hr, hown⟩ := H.rel.get hc
  have hsub : (ownH (h.set t .gone) μ).Sublist (ownH h μ) := ownH_set_sub fun c0 B0 h1 h2 => by simp [ownC]
  rcases hr with ⟨rfl, rfl⟩ | ⟨b, cap, arr, ty, rfl, hb, hsz, hlen, hcap, hrel⟩
  · refine ⟨R, ⟨H.rel.set (RO.le.refl R) H.nodup hc hB (fun _ _ _ => rfl) trivial, H.nodup.sublist hsub, fun b hb => H.own b (hsub.subset hb), H.ro⟩, ⟨RO.le.refl R, Nat.le_refl _, fun _ _ _ => rfl, fun b hb => .inl (hsub.subset hb), fun _ _ hb => .inl hb, rfl, rfl, rfl, Nat.le_refl _⟩, RO.le.refl R, fun s n v hv hl => ?_⟩
    have hn : n = 0 := by simpa using (show n ≤ 0 by simp at hl; omega)
    subst hn
    simp only [List.drop_nil, List.take_nil]
    cases hv with
    | sl h1 => rw [hB] at h1; simp at h1
    | sl0 => exact .ro0 (Nat.zero_le _)
  · have hbo : b ∈ ownH h μ := hown b (by simp [ownC])
    have hRb := (H.own b hbo).2
    have hle : R.le (R.put b (.cells arr ty (0, 0))) := fun x y hx => by
      unfold RO.put
      by_cases e : x = b
      · subst e; rw [hRb] at hx; simp at hx
      · rw [if_neg e]; exact hx
    have hnot : b ∉ ownH (h.set t .gone) μ := by
      have key : ∀ (h : List Ch) (m : List Bind) (t : Nat), (ownH h m).Nodup → h[t]? = some (.rows e xs) → m[t]? = some (.blk b cap) → b ∉ ownH (h.set t .gone) m := by
        intro h
        induction h with
        | nil => intro m t _ e _; simp at e
        | cons c l ih =>
          intro m t hn e1 e2
          cases m with
          | nil => simp at e2
          | cons B m =>
            simp only [ownH, List.nodup_append] at hn
            cases t with
            | zero =>
              simp at e1 e2
              subst e1; subst e2
              simp only [List.set_cons_zero, ownH, ownC, List.nil_append]
              exact fun hx => hn.2.2 b (by simp [ownC]) b hx rfl
            | succ t =>
              simp only [List.set_cons_succ, ownH, List.mem_append]
              rintro (hx | hx)
              · have : b ∈ ownH l m := by
                  have key2 : ∀ (h : List Ch) (m : List Bind) (t : Nat), h[t]? = some (.rows e xs) → m[t]? = some (.blk b cap) → b ∈ ownH h m := by
                    intro h
                    induction h with
                    | nil => intro m t e1 _; simp at e1
                    | cons c l ih =>
                      intro m t e1 e2
                      cases m with
                      | nil => simp at e2
                      | cons B m =>
                        cases t with
                        | zero => simp at e1 e2; subst e1; subst e2; simp [ownH, ownC]
                        | succ t => simp only [ownH, List.mem_append]; exact .inr (ih m t (by simpa using e1) (by simpa using e2))
                  exact key2 l m t (by simpa using e1) (by simpa using e2)
                exact hn.2.2 b hx b this rfl
              · exact ih m t hn.2.1 (by simpa using e1) (by simpa using e2) hx
      exact key h μ t H.nodup hc hB
    refine ⟨R.put b (.cells arr ty (0, 0)), ⟨H.rel.set hle H.nodup hc hB (fun _ _ _ => rfl) trivial, H.nodup.sublist hsub, fun x hx => ⟨(H.own x (hsub.subset hx)).1, ?_⟩, fun x y hx => ?_⟩, ⟨hle, Nat.le_refl _, fun _ _ _ => rfl, fun x hx => .inl (hsub.subset hx), fun x y hx => ?_, rfl, rfl, rfl, Nat.le_refl _⟩, hle, fun s n v hv hl => ?_⟩
    · unfold RO.put
      rw [if_neg (fun e : x = b => hnot (e ▸ hx))]; exact (H.own x (hsub.subset hx)).2
    · unfold RO.put at hx
      split at hx
      · rename_i e; subst e; rw [← hx]; exact hb
      · exact H.ro x y hx
    · unfold RO.put at hx
      split at hx
      · rename_i e; subst e; exact .inr (.inl hbo)
      · exact .inl hx
    · have hll : ((xs.drop s).take n).length = n := by simp; omega
      cases hv with
      | @sl _ _ _ _ _ b' cap' c h1 hc1 hl1 hm1 =>
        rw [hB] at h1
        simp only [Option.some.injEq, Bind.blk.injEq] at h1
        obtain ⟨rfl, rfl⟩ := h1
        have h2 : Rel (R.put b (.cells arr ty (0, 0))) μ (.ro e ((xs.drop s).take n)) (.slice (some ⟨b, s * e.sz, none⟩) ((xs.drop s).take n).length c) := by
          refine .ro (arr := arr) (ty := ty) (fr := (0, 0)) (by simp [RO.put]) ?_ (by omega) (by omega)
          have h3 := ((hrel.drop (s * e.sz)).take (n * e.sz)).mono hle (Ext.refl _)
          rw [flat_take, flat_drop, hll]
          have e1 : ((arr.toList.drop (s * e.sz)).take (n * e.sz)) = ((arr.toList.take (xs.length * e.sz)).drop (s * e.sz)).take (n * e.sz) := by
            rw [List.drop_take, List.take_take, Nat.min_eq_left]
            rw [← Nat.sub_mul]
            exact Nat.mul_le_mul_right _ (by omega)
          rw [e1]
          exact h3
        rw [hll] at h2
        exact h2
      | sl0 => simp; exact .ro0 (Nat.zero_le _)
end Go.V

namespace Go.V

/-! ### Definitions -/
def hth : List Ch → Nat → Ch
  | [], _ => .gone
  | c :: _, 0 => c
  | _ :: l, n + 1 => hth l n
theorem hth_get {h : List Ch} : ∀ {t : Nat} {c : Ch}, hth h t = c → c ≠ .gone → h[t]? = some c := by
  induction h with
  | nil => intro t c e hc; exact absurd e.symm hc
  | cons a l ih =>
    intro t c e hc
    cases t with
    | zero => simpa [hth] using e
    | succ n => simpa using ih (by simpa [hth] using e) hc
def setA : List AV → Nat → List AV → List AV
  | vs, _, [] => vs
  | vs, off, a :: l => setA (vs.set off a) (off + 1) l
def cellsA : AV → List AV
  | .agg l => l
  | a => [a]
def okCells : List AV → Prop
  | [] => True
  | a :: l => (a.cell = true) ∧ okCells l
def tfs : List AV → Prop
  | [] => True
  | a :: l => (a.tf = true) ∧ tfs l
def aggT (P : Program) (t : TypeId) : Option Bool := match kdT P t with | .struct => some true | .array _ _ => some true | .other => none | _ => some false
/-- cells of a row's block that a load meets -/
def loadCellsK (P : Program) (t : TypeId) (vs : List AV) (off : Nat) (K : AV → Prop) : Prop :=
  match aggT P t with
  | some true => (off + szT P t ≤ vs.length ∧ szT P t ≠ 0) ∧ K (.agg ((vs.drop off).take (szT P t)))
  | some false => (off < vs.length) ∧ K (nthA vs off)
  | none => False
def loadK (P : Program) (t : TypeId) (a : AV) (h : List Ch) (K : AV → Prop) : Prop :=
  match a with
  | .ptr b off => (match hth h b with
    | .cells vs => loadCellsK P t vs off K
    | .crow vs => loadCellsK P t vs off K
    | _ => False)
  | .ep b e i off => (match hth h b with
    | .rows e' xs => (match asE e e' xs with
      | some xs => (i < xs.length) ∧ loadCellsK P t (e.enc (e.get xs i)) off K
      | none => False)
    | _ => False)
  | .rp e xs i off => loadCellsK P t (e.enc (e.get xs i)) off K
  | _ => False
def storeK (P : Program) (t : TypeId) (a x : AV) (h : List Ch) (K : List Ch → Prop) : Prop :=
  match a with
  | .ptr b off => (match hth h b with
    | .cells vs => ((cellsA x).length = szT P t ∧ off + szT P t ≤ vs.length ∧ szT P t ≠ 0) ∧ okCells (cellsA x) ∧ K (h.set b (.cells (setA vs off (cellsA x))))
    | .crow vs => ((cellsA x).length = szT P t ∧ off + szT P t ≤ vs.length ∧ szT P t ≠ 0) ∧ okCells (cellsA x) ∧ K (h.set b (.crow (setA vs off (cellsA x))))
    | _ => False)
  | .ep b e i off => (match hth h b with
    | .rows e' xs => (match asE e e' xs with
      | some xs => (match e.dec (setA (e.enc (e.get xs i)) off (cellsA x)) with
        | some y => (i < xs.length ∧ (cellsA x).length = szT P t ∧ off + szT P t ≤ e.sz ∧ szT P t ≠ 0) ∧ okCells (cellsA x) ∧ tfs (cellsA x) ∧ e.decOk (setA (e.enc (e.get xs i)) off (cellsA x)) ∧ K (h.set b (.rows e (xs.set i y)))
        | none => False)
      | none => False)
    | _ => False)
  | _ => False
def allocK (P : Program) (t : TypeId) (h : List Ch) (K : AV → List Ch → Prop) : Prop :=
  match zeroT P t with
  | some zs => K (.ptr h.length 0) (h ++ [.cells zs])
  | none => False
def boxK (x : AV) (h : List Ch) (K : AV → List Ch → Prop) : Prop :=
  okCells (cellsA x) ∧ K (.ptr h.length 0) (h ++ [.cells (cellsA x)])
/-- the elements that a slice value has -/
def srcK (e : Ety) (h : List Ch) (x : AV) (F : List e.T → Prop) : Prop :=
  match x with
  | .ro e' ys => (match asE e e' ys with | some ys => F ys | none => False)
  | .sl b e' s n => (match hth h b with
    | .rows e'' xs => (match asE e e'' xs with
      | some xs => (e' = e) ∧ (s + n ≤ xs.length) ∧ F ((xs.drop s).take n)
      | none => False)
    | _ => False)
  | .lit (.slice none 0 0) => F []
  | _ => False
def bytesOf (e : Ety) (s : List UInt8) : Option (List e.T) := asE e .byte s
/-- 'append': what is appended -/
def appSrcK (k : Kd) (e : Ety) (h : List Ch) (x : AV) (F : List e.T → Prop) : Prop :=
  match k, x with
  | .str, .str s => (match bytesOf e s with | some ys => F ys | none => False)
  | .slice _, x => srcK e h x F
  | _, _ => False
def maxBytes : Nat := 140737488355328
/-- cells of the zero value -/
def zlenT (P : Program) (t : TypeId) : Nat := match zeroT P t with | some zs => zs.length | none => 0
def appK [ETab] (P : Program) (t tx : TypeId) (s x : AV) (h : List Ch) (K : AV → List Ch → Prop) : Prop :=
  match kdT P t with
  | .slice el => (match s with
    | .sl b e 0 n => (match hth h b with
      | .rows e' xs => (match asE e e' xs with
        | some xs => (szT P el = e.sz ∧ zlenT P el = e.sz) ∧ n = xs.length ∧ appSrcK (kdT P tx) e h x fun ys => ((xs.length + ys.length) * bytesT P el ≤ maxBytes ∧ xs.length + ys.length ≤ maxBytes) ∧ K (.sl h.length e 0 (xs.length + ys.length)) (h.set b .gone ++ [.rows e (xs ++ ys)])
        | none => False)
      | _ => False)
    | .lit (.slice none 0 0) => (match ETab.of t with
      | some e => (szT P el = e.sz ∧ zlenT P el = e.sz) ∧ appSrcK (kdT P tx) e h x fun ys => (ys.length * bytesT P el ≤ maxBytes ∧ ys.length ≤ maxBytes) ∧ K (.sl h.length e 0 ys.length) (h ++ [.rows e ys])
      | none => False)
    | _ => False)
  | _ => False
/-- n times the same; no rule unfolds it -/
def repN {α : Type} (n : Nat) (y : α) : List α := if n = 0 then [] else y :: repN (n - 1) y
termination_by n
theorem repN_eq {α : Type} (y : α) : ∀ n : Nat, repN n y = List.replicate n y
  | 0 => by rw [repN]; rfl
  | n + 1 => by rw [repN, if_neg (by omega), Nat.add_sub_cancel, repN_eq y n]; rfl
@[simp] theorem repN_len {α : Type} (y : α) (n : Nat) : (repN n y).length = n := by rw [repN_eq, List.length_replicate]
/-- 'make' of a slice -/
def mkK [ETab] (P : Program) (t : TypeId) (l c : AV) (h : List Ch) (K : AV → List Ch → Prop) : Prop :=
  match kdT P t, l, c with
  | .slice el, .int _ a, .int _ b => (match ETab.of t, zeroT P el with
    | some e, some zs => (match e.dec zs with
      | some y => ((szT P el = e.sz ∧ zs.length = e.sz) ∧ (0 ≤ a ∧ a ≤ b) ∧ (bytesT P el : Int) * b ≤ 281474976710656 ∧ b ≤ 9223372036854775807 ∧ tfs zs ∧ e.decOk zs) ∧ K (.sl h.length e 0 a.toNat) (h ++ [.rows e (repN a.toNat y)])
      | none => False)
    | _, _ => False)
  | _, _, _ => False
end Go.V

namespace Go.V

variable {P : Program} {R : RO} {μ : List Bind} {h : List Ch} {w : World}

def GivesH (P : Program) (R : RO) (μ : List Bind) (h : List Ch) (w : World) (K : AV → List Ch → Prop) (s : Sem Value) : Prop :=
  ∃ v w' R' μ' h' av, s.run P w = .ok v w' ∧ K av h' ∧ Rel R' μ' av v ∧ HOk R' μ' h' w' ∧ Ext μ μ' ∧ Step (ownH h μ) R w (ownH h' μ') R' w'

theorem Rel.one {a : AV} {v : Value} (h : Rel R μ a v) (hc : a.cell = true) : v.oneCell' = true := by
  cases h <;> first | rfl | simp [AV.cell] at hc
  exact hc
theorem cells_rel {x : AV} {v : Value} (hx : Rel R μ x v) (ho : okCells (cellsA x)) : LRel R μ (cellsA x) v.cells.toList ∧ ∀ u ∈ v.cells.toList, u.oneCell' = true := by
  have key : ∀ (l : List AV) (vs : List Value), LRel R μ l vs → okCells l → ∀ u ∈ vs, u.oneCell' = true := by
    intro l
    induction l with
    | nil => intro vs h _ u hu; cases h; simp at hu
    | cons a l ih =>
      intro vs h ho u hu
      cases h with
      | cons h1 h2 =>
        rcases List.mem_cons.1 hu with rfl | hu
        · exact h1.one ho.1
        · exact ih _ h2 ho.2 u hu
  have one : ∀ (x : AV) (v : Value), Rel R μ x v → x.cell = true → LRel R μ [x] v.cells.toList ∧ ∀ u ∈ v.cells.toList, u.oneCell' = true := by
    intro x v hx hc
    have h1 := hx.one hc
    have h2 : v.cells = #[v] := by cases v <;> first | rfl | simp [Value.oneCell'] at h1
    rw [h2]
    exact ⟨.cons hx .nil, fun u hu => by simp at hu; subst hu; exact h1⟩
  cases x with
  | agg l =>
    cases hx with
    | agg hl => exact ⟨by simpa [cellsA, Value.cells] using hl, key _ _ (by simpa [cellsA, Value.cells] using hl) ho⟩
  | _ => exact one _ _ hx ho.1

theorem agg_true {t : TypeId} (h : aggT P t = some true) : ∃ d, P.underlying t = some d ∧ aggD d = true := by
  unfold aggT at h
  split at h <;> simp at h
  · rename_i hk; obtain ⟨fs, hk⟩ := kd_struct hk; exact ⟨_, hk, rfl⟩
  · rename_i hk; exact ⟨_, kd_array hk, rfl⟩
theorem agg_false {t : TypeId} (h : aggT P t = some false) : ∃ d, P.underlying t = some d ∧ aggD d = false := by
  unfold aggT at h
  have hk : kdT P t ≠ .other := by intro e; simp [e] at h
  obtain ⟨d, hd⟩ := kd_ne hk
  refine ⟨d, hd, ?_⟩
  cases d <;> first | rfl | simp [kdT, hd] at h

theorem cell_at {b : Nat} {arr : Array Value} {ty : TypeId} {fr : Nat × Nat} (hb : w.heap[b]? = some (.cells arr ty fr)) (o : Nat) : w.cell? ⟨b, o, none⟩ = arr[o]? := by
  simp [World.cell?, hb]
theorem loadCellsK_ok {t : TypeId} {vs : List AV} {off o b : Nat} {arr : Array Value} {ty : TypeId} {fr : Nat × Nat} {K : AV → Prop} (hb : w.heap[b]? = some (.cells arr ty fr)) (hl : LRel R μ vs ((arr.toList.drop o).take vs.length)) (hK : loadCellsK P t vs off K) :
    ∃ v av, K av ∧ Rel R μ av v ∧ (Instr.loadAt t (.pointer (some ⟨b, o + off, none⟩))).run P w = .ok v w := by
  unfold loadCellsK at hK
  split at hK
  · rename_i ha
    obtain ⟨⟨h1, hz⟩, hK⟩ := hK
    obtain ⟨d, hd, ha⟩ := agg_true ha
    have h2 := (hl.drop off).take (szT P t)
    have hlen := hl.len
    have h3 : (loadCells ⟨b, o + off, none⟩ (((arr.toList.drop o).take vs.length).drop off |>.take (szT P t)).length).run P w = .ok (((arr.toList.drop o).take vs.length).drop off |>.take (szT P t)).toArray w := by
      refine run_loadCells_list w _ _ fun j v hj => ?_
      rw [addr_add, cell_at hb, ← Array.getElem?_toList]
      rw [List.getElem?_take] at hj
      split at hj
      · rw [List.getElem?_drop, List.getElem?_take] at hj
        split at hj
        · rw [List.getElem?_drop] at hj; rw [← hj]; congr 1; omega
        · simp at hj
      · simp at hj
    have h4 : (((arr.toList.drop o).take vs.length).drop off |>.take (szT P t)).length = szT P t := by
      rw [List.length_take, List.length_drop, ← hlen]; omega
    rw [h4] at h3
    refine ⟨_, _, hK, .agg h2, ?_⟩
    simp [Instr.loadAt, Instr.sureAddr, loadVar, run_isAgg hd, ha, run_sizeOf hz, h3]
  · rename_i ha
    obtain ⟨h1, hK⟩ := hK
    obtain ⟨d, hd, ha⟩ := agg_false ha
    have hlen := hl.len
    have h2 : off < ((arr.toList.drop o).take vs.length).length := by omega
    refine ⟨_, _, hK, hl.nth off (List.getElem?_eq_getElem h2), ?_⟩
    have h3 : w.cell? ⟨b, o + off, none⟩ = some ((arr.toList.drop o).take vs.length)[off] := by
      rw [cell_at hb, ← Array.getElem?_toList, ← List.getElem?_eq_getElem h2, List.getElem?_take, if_pos h1, List.getElem?_drop]
    simp [Instr.loadAt, Instr.sureAddr, loadVar, run_isAgg hd, ha, run_load, h3]
  · exact hK.elim

theorem enc_at (e : Ety) (xs : List e.T) (i : Nat) (hi : i < xs.length) {vs : List Value} (hl : LRel R [] (xs.flatMap e.enc) (vs.take (xs.length * e.sz))) : LRel R [] (e.enc (e.get xs i)) ((vs.drop (i * e.sz)).take (e.enc (e.get xs i)).length) := by
  have h1 := (hl.drop (i * e.sz)).take e.sz
  rw [← flat_drop] at h1
  have h2 : ((xs.drop i).flatMap e.enc).take e.sz = e.enc (e.get xs i) := by
    rw [List.drop_eq_getElem_cons hi, List.flatMap_cons, List.take_append_of_le_length (by rw [e.enc_len]; exact Nat.le_refl _), List.take_of_length_le (by rw [e.enc_len]; exact Nat.le_refl _)]
    simp [Ety.get, List.getD_eq_getElem?_getD, List.getElem?_eq_getElem hi]
  rw [h2] at h1
  rw [e.enc_len]
  have h3 : (vs.drop (i * e.sz)).take e.sz = ((vs.take (xs.length * e.sz)).drop (i * e.sz)).take e.sz := by
    rw [List.drop_take, List.take_take, Nat.min_eq_left]
    rw [← Nat.sub_mul]
    exact Nat.le_mul_of_pos_left _ (by omega)
  rw [h3]; exact h1

theorem loadK_ok (H : HOk R μ h w) {t : TypeId} {a : AV} {va : Value} {K : AV → Prop} (ha : Rel R μ a va) (hK : loadK P t a h K) :
    ∃ v av, K av ∧ Rel R μ av v ∧ (Instr.loadAt t va).run P w = .ok v w := by
  unfold loadK at hK
  split at hK
  · rename_i b off
    split at hK
    · rename_i vs hc
      obtain ⟨B, hB, ⟨n, arr, ty, rfl, hb, hl⟩, _⟩ := H.rel.get (hth_get hc (by simp))
      cases ha with
      | ptr h1 h2 =>
        rw [hB] at h1
        obtain rfl := Option.some.inj h1
        simp only [Bind.obj, Option.some.injEq] at h2
        subst h2
        have := loadCellsK_ok (o := 0) hb (by rw [List.drop_zero, List.take_of_length_le (by rw [hl.len]; exact Nat.le_refl _)]; exact hl) hK
        rwa [Nat.zero_add] at this
    · rename_i vs hc
      obtain ⟨B, hB, ⟨n, arr, ty, rfl, hb, hl⟩, _⟩ := H.rel.get (hth_get hc (by simp))
      cases ha with
      | ptr h1 h2 =>
        rw [hB] at h1
        obtain rfl := Option.some.inj h1
        simp only [Bind.obj, Option.some.injEq] at h2
        subst h2
        have := loadCellsK_ok (o := 0) hb (by rw [List.drop_zero]; exact hl) hK
        rwa [Nat.zero_add] at this
    · exact hK.elim
  · rename_i b e i off
    split at hK
    · rename_i e' xs hc
      split at hK
      · rename_i ys hy
        obtain ⟨rfl, rfl⟩ := asE_some hy
        obtain ⟨hi, hK⟩ := hK
        obtain ⟨B, hB, hr, _⟩ := H.rel.get (hth_get hc (by simp))
        rcases hr with ⟨rfl, rfl⟩ | ⟨n, cap, arr, ty, rfl, hb, hsz, hlen, hcap, hl⟩
        · simp at hi
        · cases ha with
          | ep h1 =>
            rw [hB] at h1
            simp only [Option.some.injEq, Bind.blk.injEq] at h1
            obtain ⟨rfl, rfl⟩ := h1
            obtain ⟨v, av, h2, h3, h4⟩ := loadCellsK_ok (R := R) (μ := []) hb (enc_at e' xs i hi hl) hK
            exact ⟨v, av, h2, h3.mono (RO.le.refl R) (Ext.nil μ), h4⟩
      · exact hK.elim
    · exact hK.elim
  · rename_i e xs i off
    cases ha with
    | @rp _ _ _ b o _ _ arr ty fr hb hl hi =>
      have hb' := H.ro _ _ hb
      have hl' := enc_at e xs i hi hl
      rw [List.drop_drop] at hl'
      obtain ⟨v, av, h2, h3, h4⟩ := loadCellsK_ok (R := R) (μ := []) hb' hl' hK
      exact ⟨v, av, h2, h3.mono (RO.le.refl R) (Ext.nil μ), h4⟩
  · exact hK.elim
end Go.V
