/-
  Soundness of the pure operations over abstract values.
-/
import Derived.Test.YtmfhicbbhncddaaV2
import Derived.Laws.StructEq
import Derived.Laws.Cover3
set_option linter.unusedVariables false
set_option linter.unusedSimpArgs false
namespace Go.V

/-- a value that the machine computes without looking at the world -/
def Gives (P : Program) (R : RO) (μ : List Bind) (K : AV → Prop) (s : Sem Value) : Prop :=
  ∃ v av, K av ∧ Rel R μ av v ∧ ∀ w, s.run P w = .ok v w
theorem Gives.mk {P : Program} {R : RO} {μ : List Bind} {K : AV → Prop} {s : Sem Value} {v : Value} {av : AV} (h : K av) (hr : Rel R μ av v) (hs : ∀ w, s.run P w = .ok v w) : Gives P R μ K s := ⟨v, av, h, hr, hs⟩

variable {P : Program} {R : RO} {μ : List Bind} {K : AV → Prop}

theorem shK_ok {op : BinOp} (hop : op = .shl ∨ op = .shr) {k yk : IntKind} {a b : Int} {s : Sem Value} (h : shK op k a b K) (hs : s = Op.shift op k a yk b) : Gives P R μ K s := by
  subst hs
  rcases hop with rfl | rfl
  · obtain ⟨h1, h2⟩ := h
    exact .mk h2 .int fun w => by simp [Op.shift, show ¬ b < 0 from by omega]
  · obtain ⟨h1, h2⟩ := h
    exact .mk h2 .int fun w => by simp [Op.shift, show ¬ b < 0 from by omega]
theorem ibin_ok {op : BinOp} {t : TypeId} {k : IntKind} {a b : Int} (hop : op ≠ .shl ∧ op ≠ .shr) (h : ibin op k a b K) : Gives P R μ K (binOp op t (.int k a) (.int k b)) := by
  unfold ibin at h
  cases op <;> simp only at h
  case add => exact .mk h .int fun w => by simp [binOp, Op.intArith]
  case sub => exact .mk h .int fun w => by simp [binOp, Op.intArith]
  case mul => exact .mk h .int fun w => by simp [binOp, Op.intArith]
  case quo => exact .mk h.2 .int fun w => by simp [binOp, Op.intDiv, h.1]
  case rem => exact .mk h.2 .int fun w => by simp [binOp, Op.intDiv, h.1]
  case and => exact .mk h .int fun w => by simp [binOp, Op.intBits, bitsI]
  case or => exact .mk h .int fun w => by simp [binOp, Op.intBits, bitsI]
  case xor => exact .mk h .int fun w => by simp [binOp, Op.intBits, bitsI]
  case andNot => exact .mk h .int fun w => by simp [binOp, Op.intBits, bitsI]
  case eql => exact .mk h .bool fun w => by simp [binOp, Op.intCmp]; by_cases e : a = b <;> simp [e]
  case neq => exact .mk h .bool fun w => by simp [binOp, Op.intCmp]; by_cases e : a = b <;> simp [e]
  case lss => exact .mk h .bool fun w => by simp [binOp, Op.intCmp]
  case leq => exact .mk h .bool fun w => by simp [binOp, Op.intCmp]
  case gtr => exact .mk h .bool fun w => by simp [binOp, Op.intCmp]
  case geq => exact .mk h .bool fun w => by simp [binOp, Op.intCmp]
theorem ba_toList (l : List UInt8) : (⟨l.toArray⟩ : ByteArray).toList = l := by
  rw [ByteArray.toList_eq]
theorem sbin_ok {op : BinOp} {t : TypeId} {x y : List UInt8} (h : sbin op x y K) : Gives P R μ K (binOp op t (.string ⟨x.toArray⟩) (.string ⟨y.toArray⟩)) := by
  unfold sbin at h
  cases op <;> simp only at h
  case eql => exact .mk h .bool fun w => by simp [binOp, Op.stringOp]; by_cases e : x = y <;> simp [e]
  case neq => exact .mk h .bool fun w => by simp [binOp, Op.stringOp]; by_cases e : x = y <;> simp [e]
  case lss => exact .mk h .bool fun w => by simp [binOp, Op.stringOp]
  case add =>
    obtain ⟨h1, h2⟩ := h
    refine .mk h2 .str fun w => ?_
    have e : (ByteArray.mk x.toArray).size = x.length := by simp [ByteArray.size]
    have e2 : (ByteArray.mk y.toArray).size = y.length := by simp [ByteArray.size]
    have e3 : (ByteArray.mk x.toArray) ++ (ByteArray.mk y.toArray) = ByteArray.mk (x ++ y).toArray := by
      apply ByteArray.ext
      simp [ByteArray.data_append]
    simp only [binOp, Op.stringOp, e, e2, e3]
    rw [if_neg]
    · rfl
    · show ¬ (((x.length + y.length : Nat) : Int) > IntKind.i64.max)
      have : IntKind.i64.max = 9223372036854775807 := by decide
      omega
theorem eqIn_bool {t : TypeId} (hu : P.underlying t = some .bool) (d : Nat) (a b : Bool) (w : World) : (Op.equalIn (d + 1) t (.bool a) (.bool b)).run P w = .ok (a == b) w := by
  simp [Op.equalIn, run_underlying hu]
theorem eqIn_ptr {t e : TypeId} (hu : P.underlying t = some (.pointer e)) (d : Nat) (b : Option Addr) (w : World) : (Op.equalIn (d + 1) t (.pointer none) (.pointer b)).run P w = .ok b.isNone w := by
  simp [Op.equalIn, run_underlying hu]
theorem eqIn_ptr' {t e : TypeId} (hu : P.underlying t = some (.pointer e)) (d : Nat) (b : Addr) (w : World) : (Op.equalIn (d + 1) t (.pointer (some b)) (.pointer none)).run P w = .ok false w := by
  simp [Op.equalIn, run_underlying hu]
theorem kd_bool {t : TypeId} (h : kdT P t = .bool) : P.underlying t = some .bool := by
  unfold kdT at h; split at h <;> simp_all
theorem kd_ptr {t : TypeId} (h : kdT P t = .ptr) : ∃ e, P.underlying t = some (.pointer e) := by
  unfold kdT at h; split at h <;> simp_all
theorem eqK_ok {t : TypeId} {x y : AV} {vx vy : Value} {F : Bool → Prop} (hx : Rel R μ x vx) (hy : Rel R μ y vy) (h : eqK (kdT P t) x y F) :
    ∃ b, F b ∧ (∀ w, (Op.equal t vx vy).run P w = .ok b w) ∧ (∀ op X Y w, (eqGuard op t X Y vx vy).run P w = .ok () w) ∧ (binOp .eql t vx vy = (do pure (.bool (← Op.equal t vx vy)))) ∧ (binOp .neq t vx vy = (do pure (.bool (!(← Op.equal t vx vy))))) := by
  unfold eqK at h
  split at h
  · rename_i hk
    cases hx; cases hy
    rename_i b c
    refine ⟨_, h, fun w => ?_, fun op X Y w => ?_, rfl, rfl⟩
    · rw [show decide (b = c) = (b == c) from by by_cases e : b = c <;> simp [e]]
      exact eqIn_bool (kd_bool hk) 9999 _ _ w
    · cases op <;> rfl
  · rename_i hk
    obtain ⟨e, hu⟩ := kd_ptr hk
    cases hx; cases hy
    exact ⟨_, h, fun w => eqIn_ptr' hu 9999 _ w, fun op X Y w => by cases op <;> rfl, rfl, rfl⟩
  · rename_i hk
    obtain ⟨e, hu⟩ := kd_ptr hk
    cases hx; cases hy
    exact ⟨_, h, fun w => eqIn_ptr hu 9999 _ w, fun op X Y w => by cases op <;> rfl, rfl, rfl⟩
  · rename_i hk
    obtain ⟨e, hu⟩ := kd_ptr hk
    cases hx; cases hy
    exact ⟨_, h, fun w => eqIn_ptr hu 9999 _ w, fun op X Y w => by cases op <;> rfl, rfl, rfl⟩
  · exact h.elim

theorem eqGuard_int (op : BinOp) (t : TypeId) (X Y : Operand) (k k' : IntKind) (a b : Int) (w : World) : (eqGuard op t X Y (.int k a) (.int k' b)).run P w = .ok () w := by
  cases op <;> rfl
theorem eqGuard_str (op : BinOp) (t : TypeId) (X Y : Operand) (a b : ByteArray) (w : World) : (eqGuard op t X Y (.string a) (.string b)).run P w = .ok () w := by
  cases op <;> rfl
theorem Gives.guard {s : Sem Unit} {q : Sem Value} (hs : ∀ w, s.run P w = .ok () w) (h : Gives P R μ K q) : Gives P R μ K (do s; q) := by
  obtain ⟨v, av, h1, h2, h3⟩ := h
  exact ⟨v, av, h1, h2, fun w => by rw [Sem.run_bind, hs, Result.andThen_ok, h3]⟩

theorem kd_int {t : TypeId} {k : IntKind} (h : kdT P t = .int k) : P.underlying t = some (.int k) := by
  unfold kdT at h; split at h <;> simp_all
theorem kd_str {t : TypeId} (h : kdT P t = .str) : P.underlying t = some .string := by
  unfold kdT at h; split at h <;> simp_all
theorem kd_slice {t : TypeId} {e : TypeId} (h : kdT P t = .slice e) : P.underlying t = some (.slice e) := by
  unfold kdT at h; split at h <;> simp_all
theorem kd_array {t : TypeId} {n : Nat} {e : TypeId} (h : kdT P t = .array n e) : P.underlying t = some (.array n e) := by
  unfold kdT at h; split at h <;> simp_all
theorem kd_struct {t : TypeId} (h : kdT P t = .struct) : ∃ fs, P.underlying t = some (.struct fs) := by
  unfold kdT at h; split at h <;> simp_all
theorem kd_ne {t : TypeId} (h : kdT P t ≠ .other) : ∃ d, P.underlying t = some d := by
  unfold kdT at h
  cases hu : P.underlying t with
  | some d => exact ⟨d, rfl⟩
  | none => simp [hu] at h

def aggD : TypeDesc → Bool
  | .struct _ => true
  | .array _ _ => true
  | _ => false
theorem run_isAgg {t : TypeId} {d : TypeDesc} (hd : P.underlying t = some d) (w : World) : (isAgg t).run P w = .ok (aggD d) w := by
  simp only [isAgg, Sem.run_bind, run_underlying hd, Result.andThen_ok]
  cases d <;> rfl
theorem part_one {t : TypeId} {d : TypeDesc} (hd : P.underlying t = some d) (ha : aggD d = false) {vs : Array Value} {off : Nat} {v : Value} (hv : vs[off]? = some v) (w : World) : (part t vs off).run P w = .ok v w := by
  simp only [part, Sem.run_bind, run_isAgg hd, ha, Result.andThen_ok, if_false, hv, Sem.run_pure, Bool.false_eq_true]
theorem nth_some {l : List AV} {vs : List Value} (hl : LRel R μ l vs) {o : Nat} {a : AV} (h : nthA l o = a) (ha : a ≠ .any) : ∃ v, vs[o]? = some v ∧ Rel R μ a v := by
  cases e : vs[o]? with
  | some v => exact ⟨v, rfl, h ▸ hl.nth o e⟩
  | none =>
    have : l.length ≤ o := by rw [hl.len]; simpa using e
    rw [nthA_none l o this] at h
    exact absurd h.symm ha
theorem eqCell_ok {t : TypeId} {x y : AV} {vx vy : Value} {b : Bool} (hx : Rel R μ x vx) (hy : Rel R μ y vy) (h : eqCell (kdT P t) x y = some b) (d : Nat) (w : World) : (Op.equalIn (d + 1) t vx vy).run P w = .ok b w := by
  unfold eqCell at h
  split at h
  · rename_i k1 k2 a k3 c hk
    split at h
    · rename_i hkk
      subst hkk
      cases hx; cases hy
      simp only [Option.some.injEq] at h
      rw [run_equalIn_int w d t _ _ _ _ (kd_int hk), ← h]
      by_cases e : a = c <;> simp [e]
    · simp at h
  · rename_i a c hk
    cases hx; cases hy
    simp only [Option.some.injEq] at h
    rw [run_equalIn_bool' w d t _ _ (kd_bool hk), ← h]
    by_cases e : a = c <;> simp [e]
  · rename_i a c hk
    cases hx; cases hy
    simp only [Option.some.injEq] at h
    rw [run_equalIn_string w d t _ _ (kd_str hk), ← h]
    rw [ba_toList, ba_toList]
    by_cases e : a = c <;> simp [e]
  · simp at h
theorem eqCell_kd {k : Kd} {x y : AV} {b : Bool} (h : eqCell k x y = some b) : x ≠ .any ∧ y ≠ .any ∧ (k = .bool ∨ k = .str ∨ ∃ i, k = .int i) := by
  unfold eqCell at h
  split at h
  · exact ⟨by simp, by simp, .inr (.inr ⟨_, rfl⟩)⟩
  · exact ⟨by simp, by simp, .inl rfl⟩
  · exact ⟨by simp, by simp, .inr (.inl rfl)⟩
  · simp at h
theorem eqFlds_ok {l m : List AV} {us vs : List Value} (hl : LRel R μ l us) (hm : LRel R μ m vs) (d : Nat) (w : World) : ∀ (fs : List Field) {b : Bool}, (fs.all fun f => f.name != "_") = true → eqFlds P l m (fs.map fun f => (f.offset, f.type)) = some b → (Op.eqFields (d + 1) us.toArray vs.toArray fs).run P w = .ok b w
  | [], b, _, h => by
    simp only [List.map_nil, eqFlds, Option.some.injEq] at h
    subst h
    simp [Op.eqFields]
  | f :: fs, b, hn, h => by
    simp only [List.all_cons, Bool.and_eq_true, bne_iff_ne, ne_eq] at hn
    simp only [List.map_cons, eqFlds] at h
    split at h
    · rename_i a ha
      split at h
      · rename_i c hc
        simp only [Option.some.injEq] at h
        obtain ⟨hx, hy, hk⟩ := eqCell_kd ha
        obtain ⟨u, hu, hru⟩ := nth_some hl rfl hx
        obtain ⟨v, hv, hrv⟩ := nth_some hm rfl hy
        have hd : ∃ d, P.underlying f.type = some d ∧ aggD d = false := by
          rcases hk with hk | hk | ⟨i, hk⟩
          · exact ⟨_, kd_bool hk, rfl⟩
          · exact ⟨_, kd_str hk, rfl⟩
          · exact ⟨_, kd_int hk, rfl⟩
        obtain ⟨td, htd, hag⟩ := hd
        have ih := eqFlds_ok hl hm d w fs hn.2 hc
        simp only [Op.eqFields, hn.1, ne_eq, not_false_eq_true, if_true, Sem.run_bind, part_one htd hag (show us.toArray[f.offset]? = some u by simpa using hu), part_one htd hag (show vs.toArray[f.offset]? = some v by simpa using hv), Result.andThen_ok, eqCell_ok hru hrv ha d w]
        cases a
        · simp [← h]
        · simpa [← h] using ih
      · simp at h
    · simp at h
theorem eqSK_ok {t : TypeId} {l m : List AV} {us vs : List Value} {F : Bool → Prop} (hl : LRel R μ l us) (hm : LRel R μ m vs) (h : eqSK P t l m F) : ∃ b, F b ∧ (∀ w, (Op.equal t (.agg us.toArray) (.agg vs.toArray)).run P w = .ok b w) ∧ ∀ op X Y w, (eqGuard op t X Y (.agg us.toArray) (.agg vs.toArray)).run P w = .ok () w := by
  unfold eqSK at h
  split at h
  · rename_i fs hf
    split at h
    · rename_i b hb
      unfold fldsT at hf
      split at hf
      · rename_i fds hu
        split at hf
        · rename_i hc
          simp only [Option.some.injEq] at hf
          subst hf
          have hfo : P.fieldsOf t = fds := by unfold Program.fieldsOf; rw [hu]
          refine ⟨b, h, fun w => ?_, fun op X Y w => run_eqGuard_agg w op t X Y _ _ hc.2.1⟩
          show (Op.equalIn (9999 + 1) t _ _).run P w = _
          rw [run_equalIn_struct w 9999 t _ _ (by rw [hfo]; exact hu) hc.1, hfo]
          exact eqFlds_ok hl hm 9998 w _ hc.2.2 hb
        · simp at hf
      · simp at hf
    · exact h.elim
  · exact h.elim
theorem eqNK_ok {t e : TypeId} (hk : kdT P t = .slice e) {x : AV} {vx : Value} {F : Bool → Prop} (hx : Rel R μ x vx) (h : eqNK x F) : ∃ b, F b ∧ (∀ w, (Op.equal t vx (.slice none 0 0)).run P w = .ok b w) ∧ (∀ op X Y w, (eqGuard op t X Y vx (.slice none 0 0)).run P w = .ok () w) ∧ (binOp .eql t vx (.slice none 0 0) = (do pure (.bool (← Op.equal t vx (.slice none 0 0))))) ∧ (binOp .neq t vx (.slice none 0 0) = (do pure (.bool (!(← Op.equal t vx (.slice none 0 0)))))) := by
  have key : ∀ (a : Option Addr) (n c : Nat), (∀ w, (Op.equal t (.slice a n c) (.slice none 0 0)).run P w = .ok a.isNone w) ∧ (∀ op X Y w, (eqGuard op t X Y (.slice a n c) (.slice none 0 0)).run P w = .ok () w) ∧ (binOp .eql t (.slice a n c) (.slice none 0 0) = (do pure (.bool (← Op.equal t (.slice a n c) (.slice none 0 0))))) ∧ (binOp .neq t (.slice a n c) (.slice none 0 0) = (do pure (.bool (!(← Op.equal t (.slice a n c) (.slice none 0 0)))))) :=
    fun a n c => ⟨fun w => run_equal_slice_nil w t e a n c (kd_slice hk), fun op X Y w => by cases op <;> rfl, rfl, rfl⟩
  unfold eqNK at h
  split at h
  · cases hx
    exact ⟨true, h, key none 0 0⟩
  · cases hx with
    | ro hb hl hc hm => exact ⟨false, h.2, key _ _ _⟩
    | ro0 =>
      rename_i a c _
      cases a with
      | none => exact ⟨true, h.1 rfl, key _ _ _⟩
      | some a => exact ⟨false, h.2, key _ _ _⟩
  · cases hx with
    | sl => exact ⟨false, h.2, key _ _ _⟩
    | sl0 =>
      rename_i a _
      cases a with
      | none => exact ⟨true, h.1 rfl, key _ _ _⟩
      | some a => exact ⟨false, h.2, key _ _ _⟩
  · exact h.elim

theorem binK_ok {op : BinOp} {t : TypeId} {X Y : Operand} {x y : AV} {vx vy : Value} (hx : Rel R μ x vx) (hy : Rel R μ y vy) (h : binK P op t x y K) :
    Gives P R μ K (do eqGuard op t X Y vx vy; binOp op t vx vy) := by
  unfold binK at h
  split at h
  · cases hx; cases hy; exact .guard (eqGuard_int _ _ _ _ _ _ _ _) (shK_ok (yk := .i64) (.inl rfl) h rfl)
  · cases hx; cases hy; exact .guard (eqGuard_int _ _ _ _ _ _ _ _) (shK_ok (yk := .i64) (.inr rfl) h rfl)
  · rename_i h1 h2
    have hop : op ≠ .shl ∧ op ≠ .shr := ⟨h1, h2⟩
    cases hx; cases hy
    obtain ⟨rfl, h⟩ := h
    exact .guard (eqGuard_int _ _ _ _ _ _ _ _) (ibin_ok hop h)
  · cases hx; cases hy; exact .guard (eqGuard_str _ _ _ _ _ _) (sbin_ok h)
  · cases hx with | agg hl => cases hy with | agg hm =>
    obtain ⟨b, h1, h2, h3⟩ := eqSK_ok hl hm h
    exact .guard (h3 _ _ _) (.mk h1 .bool fun w => by
      show ((do pure (.bool (← Op.equal t _ _)) : Sem Value)).run P w = _
      rw [Sem.run_bind, h2]; rfl)
  · cases hx with | agg hl => cases hy with | agg hm =>
    obtain ⟨b, h1, h2, h3⟩ := eqSK_ok hl hm h
    exact .guard (h3 _ _ _) (.mk h1 .bool fun w => by
      show ((do pure (.bool (!(← Op.equal t _ _))) : Sem Value)).run P w = _
      rw [Sem.run_bind, h2]; rfl)
  · obtain ⟨⟨e, hk⟩, h⟩ := h
    cases hy
    obtain ⟨b, h1, h2, h3, h4, _⟩ := eqNK_ok hk hx h
    exact .guard (h3 _ _ _) (h4 ▸ .mk h1 .bool fun w => by rw [Sem.run_bind, h2]; rfl)
  · obtain ⟨⟨e, hk⟩, h⟩ := h
    cases hy
    obtain ⟨b, h1, h2, h3, _, h4⟩ := eqNK_ok hk hx h
    exact .guard (h3 _ _ _) (h4 ▸ .mk h1 .bool fun w => by rw [Sem.run_bind, h2]; rfl)
  · obtain ⟨b, h1, h2, h3, h4, _⟩ := eqK_ok hx hy h
    exact .guard (h3 _ _ _) (h4 ▸ .mk h1 .bool fun w => by rw [Sem.run_bind, h2]; rfl)
  · obtain ⟨b, h1, h2, h3, _, h4⟩ := eqK_ok hx hy h
    exact .guard (h3 _ _ _) (h4 ▸ .mk h1 .bool fun w => by rw [Sem.run_bind, h2]; rfl)
  · exact h.elim

theorem unK_ok {op : UnOp} {x : AV} {vx : Value} (hx : Rel R μ x vx) (h : unK op x K) : Gives P R μ K (Op.unary op vx) := by
  unfold unK at h
  split at h
  · cases hx; exact .mk h .bool fun w => rfl
  · cases hx; exact .mk h .int fun w => rfl
  · cases hx; exact .mk h .int fun w => rfl
  · exact h.elim

theorem convK_ok {src dst : TypeId} {x : AV} {vx : Value} (hs : kdT P src ≠ .other) (hx : Rel R μ x vx) (h : convK (kdT P src) (kdT P dst) x K) : Gives P R μ K (convert src dst vx) := by
  obtain ⟨d, hd⟩ := kd_ne hs
  unfold convK at h
  split at h
  · rename_i hk
    cases hx
    exact .mk h .int fun w => by simp [convert, run_underlying hd, run_underlying (kd_int hk), Conv.intToInt]
  · rename_i hk1 hk2
    cases hx
    exact .mk h .str fun w => by simp [convert, run_underlying (kd_str hk1), run_underlying (kd_str hk2)]
  · exact h.elim

theorem extractK_ok {x : AV} {vx : Value} {i : Nat} (hx : Rel R μ x vx) (h : extractK x i K) : Gives P R μ K (Instr.extract vx i) := by
  unfold extractK at h
  split at h
  · split at h
    · rename_i l _ a ha
      cases hx
      rename_i vs hl
      obtain ⟨v, hv, hr⟩ := hl.get i ha
      exact .mk h hr fun w => by simp [Instr.extract, hv]
    · exact h.elim
  · exact h.elim

theorem addr_add (b o j : Nat) : (⟨b, o, none⟩ : Addr).add j = ⟨b, o + j, none⟩ := by
  unfold Addr.add
  split <;> simp_all

theorem fld_ok {s f : Nat} {o : Nat} {t : TypeId} (h : fldT P s f = some (o, t)) : ∃ fs x, P.underlying s = some (.struct fs) ∧ fs[f]? = some x ∧ x.offset = o ∧ x.type = t ∧ szT P t ≠ 0 := by
  unfold fldT at h
  split at h
  · rename_i fs hu
    split at h
    · rename_i x hx
      split at h
      · simp at h
      · rename_i hz
        simp only [Option.some.injEq, Prod.mk.injEq] at h
        obtain ⟨rfl, rfl⟩ := h
        exact ⟨fs, x, hu, hx, rfl, rfl, hz⟩
    · simp at h
  · simp at h
theorem sz_info {t : TypeId} (h : szT P t ≠ 0) : ∃ i, P.info? t = some i ∧ i.size = szT P t := by
  unfold szT at *
  split at h
  · rename_i i hi; exact ⟨i, hi, by simp⟩
  · simp at h
theorem run_sizeOf {t : TypeId} (h : szT P t ≠ 0) (w : World) : (sizeOf t).run P w = .ok (szT P t) w := by
  obtain ⟨i, hi, hs⟩ := sz_info h
  simp [sizeOf, typeInfo, hi, hs]
theorem run_fieldAt {s f o : Nat} {t : TypeId} (h : fldT P s f = some (o, t)) (a : Addr) (w : World) : (Instr.fieldAt s (.pointer (some a)) f).run P w = .ok (.pointer (some (a.add o))) w := by
  obtain ⟨fs, x, hu, hx, rfl, rfl, hz⟩ := fld_ok h
  simp [Instr.fieldAt, run_underlying hu, hx, Instr.sureAddr, fieldPlace, run_sizeOf hz, hz]
theorem fldAddrK_ok {s f : Nat} {x : AV} {vx : Value} (hx : Rel R μ x vx) (h : fldAddrK (fldT P s f) x K) : Gives P R μ K (Instr.fieldAt s vx f) := by
  unfold fldAddrK at h
  split at h
  · rename_i hf
    cases hx
    rename_i hB hb
    exact .mk h (.ptr hb hB) fun w => by rw [run_fieldAt hf, addr_add]
  · rename_i hf
    cases hx
    rename_i hb
    exact .mk h (.ep hb) fun w => by rw [run_fieldAt hf, addr_add, Nat.add_assoc]
  · rename_i hf
    cases hx with
    | rp hb hl hi => exact .mk h (.rp hb hl hi) fun w => by rw [run_fieldAt hf, addr_add, Nat.add_assoc]
  · exact h.elim
theorem run_indexAt {t el : TypeId} (hk : kdT P t = .slice el) (hz : szT P el ≠ 0) (a : Addr) (n c : Nat) (k : IntKind) (i : Int) (h0 : 0 ≤ i) (h1 : i < n) (w : World) :
    (Instr.indexAt t (.slice (some a) n c) (.int k i)).run P w = .ok (.pointer (some (a.add (i.toNat * szT P el)))) w := by
  simp [Instr.indexAt, asIntOf, run_underlying (kd_slice hk), run_sizeOf hz, h0, h1]
theorem idxAddrK_ok {t : TypeId} {x i : AV} {vx vi : Value} (hx : Rel R μ x vx) (hi : Rel R μ i vi) (h : idxAddrK P (kdT P t) x i K) : Gives P R μ K (Instr.indexAt t vx vi) := by
  unfold idxAddrK at h
  split at h
  · rename_i el e xs k i hk
    obtain ⟨⟨h0, h1⟩, hs, h⟩ := h
    cases hi
    have hz : szT P el ≠ 0 := by rw [hs]; exact Nat.pos_iff_ne_zero.1 e.sz_pos
    cases hx with
    | ro hb hl hc hm =>
      refine .mk h (.rp hb hl (by omega : i.toNat < xs.length)) fun w => ?_
      rw [run_indexAt hk hz _ _ _ _ _ h0 h1, addr_add, hs]
      rfl
    | ro0 => simp at h1; omega
  · rename_i el t' e s n k i hk
    obtain ⟨⟨h0, h1⟩, hs, h⟩ := h
    cases hi
    have hz : szT P el ≠ 0 := by rw [hs]; exact Nat.pos_iff_ne_zero.1 e.sz_pos
    cases hx with
    | sl hb hc hl hm =>
      refine .mk h (.ep hb) fun w => ?_
      rw [run_indexAt hk hz _ _ _ _ _ h0 h1, addr_add, hs, ← Nat.add_mul]
      rfl
    | sl0 => simp at h1; omega
  · exact h.elim
theorem allN_at {F : Nat → Prop} : ∀ (n : Nat), allN n F → ∀ j, j < n → F j
  | 0, _, j, hj => by omega
  | n + 1, h, j, hj => by
    rcases Nat.lt_or_ge j n with h1 | h1
    · exact allN_at n h.1 j h1
    · rw [show j = n from by omega]; exact h.2
theorem part_agg {t : TypeId} {d : TypeDesc} (hd : P.underlying t = some d) (ha : aggD d = true) (hz : szT P t ≠ 0) (vs : Array Value) (off : Nat) (w : World) : (part t vs off).run P w = .ok (.agg (vs.extract off (off + szT P t))) w := by
  simp only [part, Sem.run_bind, run_isAgg hd, ha, Result.andThen_ok, if_true, run_sizeOf hz, Sem.run_pure]
theorem partA_agg {t : TypeId} {d : TypeDesc} (hd : P.underlying t = some d) (ha : aggD d = true) (l : List AV) (off : Nat) : partA P t l off = .agg ((l.drop off).take (szT P t)) := by
  cases d <;> simp [aggD] at ha <;> simp [partA, kdT, hd]
theorem partA_one {t : TypeId} {d : TypeDesc} (hd : P.underlying t = some d) (ha : aggD d = false) (l : List AV) (off : Nat) : partA P t l off = nthA l off := by
  cases d <;> simp [aggD] at ha <;> simp [partA, kdT, hd]
theorem part_ok {t : TypeId} {l : List AV} {vs : List Value} (hz : szT P t ≠ 0) (hk : kdT P t ≠ .other) (hl : LRel R μ l vs) (off : Nat) (hlen : off + szT P t ≤ l.length) :
    ∃ v, Rel R μ (partA P t l off) v ∧ ∀ w, (part t vs.toArray off).run P w = .ok v w := by
  obtain ⟨d, hd⟩ := kd_ne hk
  have hlen' := hl.len
  cases ha : aggD d with
  | true =>
    rw [partA_agg hd ha]
    refine ⟨_, .agg ((hl.drop off).take (szT P t)), fun w => ?_⟩
    rw [part_agg hd ha hz]
    congr 2
    apply Array.ext'
    simp [List.take_drop]
  | false =>
    rw [partA_one hd ha]
    have h1 : off < vs.length := by have := Nat.pos_iff_ne_zero.2 hz; omega
    exact ⟨vs[off], hl.nth off (List.getElem?_eq_getElem h1), fun w => part_one hd ha (by simp [h1]) w⟩
theorem allN_at' {F : Nat → Prop} {n : Nat} (h : allN n F) {i : Int} (h0 : 0 ≤ i) (h1 : i < n) : F i.toNat := allN_at n h _ (by omega)

theorem idxK_ok {t : TypeId} {x i : AV} {vx vi : Value} (hx : Rel R μ x vx) (hi : Rel R μ i vi) (hel : ∀ n e, kdT P t = .array n e → szT P e ≠ 0 ∧ kdT P e ≠ .other) (h : idxK P (kdT P t) x i K) : Gives P R μ K (Instr.index t vx vi) := by
  unfold idxK at h
  split at h
  · rename_i n el l k i hk
    obtain ⟨⟨h0, h1⟩, hlen, h⟩ := h
    obtain ⟨hz, hko⟩ := hel _ _ hk
    cases hi
    cases hx with
    | agg hl =>
      have hj := allN_at' h h0 h1 (by omega)
      have hb : i.toNat * szT P el + szT P el ≤ l.length := by
        rw [hlen, ← Nat.succ_mul]
        exact Nat.mul_le_mul_right _ (by omega)
      obtain ⟨v, hv, hr⟩ := part_ok hz hko hl (i.toNat * szT P el) hb
      refine .mk hj hv fun w => ?_
      simp [Instr.index, asIntOf, run_underlying (kd_array hk), run_sizeOf hz, h0, h1, hr]
  · rename_i s k i hk
    obtain ⟨⟨h0, h1⟩, h⟩ := h
    cases hi
    cases hx
    refine .mk h .int fun w => ?_
    have hb : (ByteArray.mk s.toArray)[i.toNat]? = some (s.getD i.toNat 0) := by
      have hlt : i.toNat < (ByteArray.mk s.toArray).size := by simp [ByteArray.size]; omega
      rw [getElem?_pos (ByteArray.mk s.toArray) i.toNat hlt]
      simp [ByteArray.getElem_eq_getElem_data, List.getD_eq_getElem?_getD, List.getElem?_eq_getElem (show i.toNat < s.length by omega)]
    simp [Instr.index, asIntOf, run_underlying (kd_str hk), h0, hb]
  · exact h.elim

theorem loK_ok {x : Option AV} {v : Option Value} {d : Int} {F : Int → Prop} (h : loK x d F) (hr : ∀ a, x = some a → ∃ u, v = some u ∧ Rel R μ a u) (hn : x = none → v = none) :
    ∃ n, F n ∧ ((v = none ∧ n = d) ∨ ∃ k, v = some (.int k n)) := by
  unfold loK at h
  split at h
  · exact ⟨d, h, .inl ⟨hn rfl, rfl⟩⟩
  · obtain ⟨u, hu, hr⟩ := hr _ rfl
    cases hr
    exact ⟨_, h, .inr ⟨_, hu⟩⟩
  · exact h.elim
theorem run_sliceBounds {isS : Bool} {len cap : Nat} {lo hi : Option Value} {l h : Int} (hl : (lo = none ∧ l = 0) ∨ ∃ k, lo = some (.int k l)) (hh : (hi = none ∧ h = len) ∨ ∃ k, hi = some (.int k h)) (h0 : 0 ≤ l) (h1 : l ≤ h) (h2 : h ≤ cap) (w : World) :
    (Instr.sliceBounds isS len cap lo hi none).run P w = .ok (l.toNat, h.toNat, cap) w := by
  have hh0 : 0 ≤ h := by omega
  have hth : ((h.toNat : Nat) : Int) = h := by omega
  rcases hl with ⟨rfl, rfl⟩ | ⟨k, rfl⟩ <;> rcases hh with ⟨rfl, rfl⟩ | ⟨k', rfl⟩ <;> simp [Instr.sliceBounds, Instr.sliceBound, asIntOf, h0, h1, h2, hh0, hth]

theorem sliceK_ok {t : TypeId} {x : AV} {vx : Value} {lo hi : Option AV} {vlo vhi : Option Value} (hx : Rel R μ x vx) (hlo : ∀ a, lo = some a → ∃ u, vlo = some u ∧ Rel R μ a u) (hlo' : lo = none → vlo = none) (hhi : ∀ a, hi = some a → ∃ u, vhi = some u ∧ Rel R μ a u) (hhi' : hi = none → vhi = none)
    (h : sliceK P (kdT P t) x lo hi K) : Gives P R μ K (Instr.sliceAt t vx vlo vhi none) := by
  unfold sliceK at h
  split at h
  · rename_i el e xs hk
    obtain ⟨hs, h⟩ := h
    have hz : szT P el ≠ 0 := by rw [hs]; exact Nat.pos_iff_ne_zero.1 e.sz_pos
    obtain ⟨l, h, hl⟩ := loK_ok h hlo hlo'
    obtain ⟨m, ⟨⟨h0, h1, h2⟩, h⟩, hm⟩ := loK_ok h hhi hhi'
    have hu := kd_slice hk
    cases hx with
    | @ro _ _ _ b o arr ty fr c hb hr hc hcm =>
      have hbd := fun w => run_sliceBounds (P := P) (isS := true) (len := xs.length) (cap := c) hl hm h0 h1 (by omega) w
      have hrun : ∀ w, (Instr.sliceAt t (.slice (some ⟨b, o, none⟩) xs.length c) vlo vhi none).run P w = .ok (.slice (if c = l.toNat then some ⟨b, o, none⟩ else some ⟨b, o + l.toNat * e.sz, none⟩) (m.toNat - l.toNat) (c - l.toNat)) w := by
        intro w
        simp [Instr.sliceAt, Instr.slice, run_underlying hu, hbd, run_sizeOf hz, addr_add, hs]
      by_cases he : m.toNat = l.toNat
      · refine .mk h (v := .slice (if c = l.toNat then some ⟨b, o, none⟩ else some ⟨b, o + l.toNat * e.sz, none⟩) 0 (c - l.toNat)) ?_ fun w => by rw [hrun, he, Nat.sub_self]
        have : (xs.take m.toNat).drop l.toNat = [] := by
          apply List.drop_eq_nil_of_le; simp; omega
        rw [this]
        exact .ro0 (by omega)
      · have hcl : c ≠ l.toNat := by omega
        have hlen : ((xs.take m.toNat).drop l.toNat).length = m.toNat - l.toNat := by simp; omega
        refine .mk h (v := .slice (some ⟨b, o + l.toNat * e.sz, none⟩) ((xs.take m.toNat).drop l.toNat).length (c - l.toNat)) ?_ fun w => by rw [hrun, if_neg hcl, hlen]
        refine .ro hb ?_ (by omega) (by omega)
        have h3 := (hr.take (m.toNat * e.sz)).drop (l.toNat * e.sz)
        rw [flat_drop, flat_take, hlen]
        have e1 : ((arr.toList.drop (o + l.toNat * e.sz)).take ((m.toNat - l.toNat) * e.sz)) = ((((arr.toList.drop o).take (xs.length * e.sz)).take (m.toNat * e.sz)).drop (l.toNat * e.sz)) := by
          rw [List.take_take, Nat.min_eq_left (Nat.mul_le_mul_right _ (by omega)), List.drop_take, List.drop_drop, Nat.sub_mul]
        rw [e1]
        exact h3
    | @ro0 _ _ a c hcm =>
      have hl0 : l = 0 := by simp at h2; omega
      have hm0 : m = 0 := by simp at h2; omega
      subst hl0; subst hm0
      have hbd := fun w => run_sliceBounds (P := P) (isS := true) (len := 0) (cap := c) hl hm h0 h1 (by omega) w
      refine .mk h (v := .slice a 0 c) (by simp; exact .ro0 hcm) fun w => ?_
      simp [Instr.sliceAt, Instr.slice, run_underlying hu, hbd, run_sizeOf hz]
      cases a <;> simp [Addr.add]
  · rename_i el t' e s n hk
    obtain ⟨hs, h⟩ := h
    have hz : szT P el ≠ 0 := by rw [hs]; exact Nat.pos_iff_ne_zero.1 e.sz_pos
    obtain ⟨l, h, hl⟩ := loK_ok h hlo hlo'
    obtain ⟨m, ⟨⟨h0, h1, h2⟩, h⟩, hm⟩ := loK_ok h hhi hhi'
    have hu := kd_slice hk
    cases hx with
    | @sl _ _ _ _ _ b cap c hb hc hcl hcm =>
      have hbd := fun w => run_sliceBounds (P := P) (isS := true) (len := n) (cap := c) hl hm h0 h1 (by omega) w
      have hrun : ∀ w, (Instr.sliceAt t (.slice (some ⟨b, s * e.sz, none⟩) n c) vlo vhi none).run P w = .ok (.slice (if c = l.toNat then some ⟨b, s * e.sz, none⟩ else some ⟨b, (s + l.toNat) * e.sz, none⟩) (m.toNat - l.toNat) (c - l.toNat)) w := by
        intro w
        simp [Instr.sliceAt, Instr.slice, run_underlying hu, hbd, run_sizeOf hz, addr_add, hs, Nat.add_mul]
      by_cases he : c = l.toNat
      · refine .mk h (v := .slice (some ⟨b, s * e.sz, none⟩) (m.toNat - l.toNat) (c - l.toNat)) ?_ fun w => by rw [hrun, if_pos he]
        rw [show m.toNat - l.toNat = 0 from by omega, show c - l.toNat = 0 from by omega]
        exact .sl0 (List.getElem?_eq_some_iff.1 hb).1
      · exact .mk h (v := .slice (some ⟨b, (s + l.toNat) * e.sz, none⟩) (m.toNat - l.toNat) (c - l.toNat)) (.sl hb (by omega) (by omega) hcm) fun w => by rw [hrun, if_neg he]
    | @sl0 _ _ _ _ a ht =>
      have hl0 : l = 0 := by simp at h2; omega
      have hm0 : m = 0 := by simp at h2; omega
      subst hl0; subst hm0
      have hbd := fun w => run_sliceBounds (P := P) (isS := true) (len := 0) (cap := 0) hl hm h0 h1 (by omega) w
      refine .mk h (v := .slice a 0 0) (by simp; exact .sl0 ht) fun w => ?_
      simp [Instr.sliceAt, Instr.slice, run_underlying hu, hbd, run_sizeOf hz]
  · rename_i s hk
    obtain ⟨l, h, hl⟩ := loK_ok h hlo hlo'
    obtain ⟨m, ⟨⟨h0, h1, h2⟩, h⟩, hm⟩ := loK_ok h hhi hhi'
    have hu := kd_str hk
    cases hx
    have hsz : (ByteArray.mk s.toArray).size = s.length := by simp [ByteArray.size]
    have hbd := fun w => run_sliceBounds (P := P) (isS := false) (len := s.length) (cap := s.length) hl hm h0 h1 (by omega) w
    refine .mk h .str fun w => ?_
    simp [Instr.sliceAt, Instr.slice, run_underlying hu, hsz, hbd]
    apply ByteArray.ext
    simp [ByteArray.data_extract, List.drop_take]
  · exact h.elim

theorem run_len_slice {t e ty : TypeId} (hk : kdT P t = .slice e) (a : Option Addr) (n c : Nat) (w : World) : (Builtin.len_ #[t] ty #[.slice a n c]).run P w = .ok (.int .i64 n) w := by
  simp [Builtin.len_, run_underlying (kd_slice hk), goInt]
theorem size_str (s : List UInt8) : (ByteArray.mk s.toArray).size = s.length := by simp [ByteArray.size]
theorem run_len_str {t ty : TypeId} (hk : kdT P t = .str) (s : List UInt8) (w : World) : (Builtin.len_ #[t] ty #[.string ⟨s.toArray⟩]).run P w = .ok (.int .i64 s.length) w := by
  rw [← size_str]
  generalize ByteArray.mk s.toArray = b
  simp [Builtin.len_, run_underlying (kd_str hk), goInt]
/-- 'len' of a slice or a string, by its type -/
def lenTK (k : Kd) (x : AV) (K : AV → Prop) : Prop :=
  match k, x with
  | .slice _, .ro _ xs => K (.int .i64 xs.length)
  | .slice _, .sl _ _ _ n => K (.int .i64 n)
  | .slice _, .lit (.slice none 0 0) => K (.int .i64 0)
  | .str, .str s => K (.int .i64 s.length)
  | _, _ => False
theorem lenK_ok {t : TypeId} {x : AV} {vx : Value} {ty : TypeId} (hx : Rel R μ x vx) (h : lenTK (kdT P t) x K) : Gives P R μ K (Builtin.len_ #[t] ty #[vx]) := by
  unfold lenTK at h
  split at h
  · rename_i hk
    cases hx with
    | ro => exact .mk h .int fun w => run_len_slice hk _ _ _ w
    | ro0 => exact .mk h .int fun w => run_len_slice hk _ _ _ w
  · rename_i hk
    cases hx with
    | sl => exact .mk h .int fun w => run_len_slice hk _ _ _ w
    | sl0 => exact .mk h .int fun w => run_len_slice hk _ _ _ w
  · rename_i hk
    cases hx
    exact .mk h .int fun w => run_len_slice hk _ _ _ w
  · rename_i hk
    cases hx
    exact .mk h .int fun w => run_len_str hk _ w
  · exact h.elim
end Go.V
