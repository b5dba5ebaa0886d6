/-
  The kinds of elements that slices hold in this seat, and how an element lies in cells.
  What the abstract values and memories of the verifier say of the machine's.
  Cells that decode to an element lie as the element does.
  The operations over abstract values.
-/
import Derived.WalkKit
import Derived.WalkSpells
import Derived.Laws.Cells
import Derived.Laws.Rows
import Derived.Laws.AppendOwn
import Derived.Below
set_option linter.unusedVariables false
set_option linter.unusedSimpArgs false
namespace Go.V

structure Mon where
  id : Int
  param : Int
  kind : Int
  low : Int
  high : Int
  rep : Int
  ev : Int
  sev : Int
deriving DecidableEq
structure Tra where
  time : Int
  mon : Int
  fr : Int
  tt : Int
  val : Int
deriving DecidableEq
structure Pdf where
  id : Int
  width : Int
  signed : Bool
  value : Int
deriving DecidableEq
structure One where
  m : Mon
  on : Bool
  state : Int
  result : Int
  count : Int
  before : Bool
  value : Int
deriving DecidableEq
structure Mop where
  call : Int
  id : Int
  v : Int
  on : Bool
deriving DecidableEq
inductive Ety where
  | int | byte | str | bool | i16 | mon | tra | pdf | one | mop
deriving DecidableEq
abbrev Ety.T : Ety → Type
  | .int => Int
  | .byte => UInt8
  | .str => List UInt8
  | .bool => Bool
  | .i16 => Int
  | .mon => Mon
  | .tra => Tra
  | .pdf => Pdf
  | .one => One
  | .mop => Mop

inductive AV : Type where
  | int (k : IntKind) (n : Int)
  | bool (b : Bool)
  | str (s : List UInt8)
  | lit (v : Value)
  | agg (l : List AV)
  | tup (l : List AV)
  | ptr (t off : Nat)
  | csl (t n s : Nat)
  | ep (t : Nat) (e : Ety) (i off : Nat)
  | sl (t : Nat) (e : Ety) (start len : Nat)
  | ro (e : Ety) (xs : List e.T)
  | rp (e : Ety) (xs : List e.T) (i off : Nat)
  | rc (e : Ety) (xs : List e.T)
  | fn (f : FuncId) (caps : List AV)
  | ifc (t : TypeId) (v : AV)
  | mp (t : Nat)
  | any

def asE (e e' : Ety) (xs : List e'.T) : Option (List e.T) := if h : e' = e then some (h ▸ xs) else none
/-- a slice that lies for good; the nil slice is one -/
def roA (e : Ety) : AV → Option (List e.T)
  | .ro e' xs => asE e e' xs
  | .lit (.slice none 0 0) => some []
  | _ => none
/-- the cells of a Mon -/
def Mon.cells (x : Mon) : List AV := [.int .i64 x.id, .int .i64 x.param, .int .i64 x.kind, .int .i64 x.low, .int .i64 x.high, .int .i64 x.rep, .int .i64 x.ev, .int .i64 x.sev]
/-- the cells of a Tra -/
def Tra.cells (x : Tra) : List AV := [.int .i64 x.time, .int .i64 x.mon, .int .i64 x.fr, .int .i64 x.tt, .int .i64 x.val]
/-- the cells of a Pdf -/
def Pdf.cells (x : Pdf) : List AV := [.int .i64 x.id, .int .i64 x.width, .bool x.signed, .int .i64 x.value]
/-- the cells of a One -/
def One.cells (x : One) : List AV := [.int .i64 x.m.id, .int .i64 x.m.param, .int .i64 x.m.kind, .int .i64 x.m.low, .int .i64 x.m.high, .int .i64 x.m.rep, .int .i64 x.m.ev, .int .i64 x.m.sev, .bool x.on, .int .i64 x.state, .int .i64 x.result, .int .i64 x.count, .bool x.before, .int .i64 x.value]
/-- the cells of a Mop -/
def Mop.cells (x : Mop) : List AV := [.int .i64 x.call, .int .i64 x.id, .int .i64 x.v, .bool x.on]
def Ety.enc : (e : Ety) → e.T → List AV
  | .int, x => [.int .i64 x]
  | .byte, x => [.int .u8 x.toNat]
  | .str, x => [.str x]
  | .bool, x => [.bool x]
  | .i16, x => [.int .i16 x]
  | .mon, x => [.int .i64 x.id, .int .i64 x.param, .int .i64 x.kind, .int .i64 x.low, .int .i64 x.high, .int .i64 x.rep, .int .i64 x.ev, .int .i64 x.sev]
  | .tra, x => [.int .i64 x.time, .int .i64 x.mon, .int .i64 x.fr, .int .i64 x.tt, .int .i64 x.val]
  | .pdf, x => [.int .i64 x.id, .int .i64 x.width, .bool x.signed, .int .i64 x.value]
  | .one, x => [.int .i64 x.m.id, .int .i64 x.m.param, .int .i64 x.m.kind, .int .i64 x.m.low, .int .i64 x.m.high, .int .i64 x.m.rep, .int .i64 x.m.ev, .int .i64 x.m.sev, .bool x.on, .int .i64 x.state, .int .i64 x.result, .int .i64 x.count, .bool x.before, .int .i64 x.value]
  | .mop, x => [.int .i64 x.call, .int .i64 x.id, .int .i64 x.v, .bool x.on]
def Ety.sz : Ety → Nat
  | .int => 1
  | .byte => 1
  | .str => 1
  | .bool => 1
  | .i16 => 1
  | .mon => 8
  | .tra => 5
  | .pdf => 4
  | .one => 14
  | .mop => 4
def dec_int : List AV → Option (Int)
  | [.int .i64 v1] => some v1
  | _ => none
def dec_byte : List AV → Option (UInt8)
  | [.int .u8 v2] => some (UInt8.ofNat v2.toNat)
  | _ => none
def dec_str : List AV → Option (List UInt8)
  | [.str v3] => some v3
  | _ => none
def dec_bool : List AV → Option (Bool)
  | [.bool v4] => some v4
  | _ => none
def dec_i16 : List AV → Option (Int)
  | [.int .i16 v5] => some v5
  | _ => none
def dec_mon : List AV → Option (Mon)
  | [.int .i64 v7, .int .i64 v8, .int .i64 v9, .int .i64 v10, .int .i64 v11, .int .i64 v12, .int .i64 v13, .int .i64 v14] => some ⟨v7, v8, v9, v10, v11, v12, v13, v14⟩
  | _ => none
def dec_tra : List AV → Option (Tra)
  | [.int .i64 v16, .int .i64 v17, .int .i64 v18, .int .i64 v19, .int .i64 v20] => some ⟨v16, v17, v18, v19, v20⟩
  | _ => none
def dec_pdf : List AV → Option (Pdf)
  | [.int .i64 v22, .int .i64 v23, .bool v24, .int .i64 v25] => some ⟨v22, v23, v24, v25⟩
  | _ => none
def dec_one : List AV → Option (One)
  | [.int .i64 v28, .int .i64 v29, .int .i64 v30, .int .i64 v31, .int .i64 v32, .int .i64 v33, .int .i64 v34, .int .i64 v35, .bool v36, .int .i64 v37, .int .i64 v38, .int .i64 v39, .bool v40, .int .i64 v41] => some ⟨⟨v28, v29, v30, v31, v32, v33, v34, v35⟩, v36, v37, v38, v39, v40, v41⟩
  | _ => none
def dec_mop : List AV → Option (Mop)
  | [.int .i64 v43, .int .i64 v44, .int .i64 v45, .bool v46] => some ⟨v43, v44, v45, v46⟩
  | _ => none
/-- an element out of its cells -/
def Ety.dec : (e : Ety) → List AV → Option e.T
  | .int => dec_int
  | .byte => dec_byte
  | .str => dec_str
  | .bool => dec_bool
  | .i16 => dec_i16
  | .mon => dec_mon
  | .tra => dec_tra
  | .pdf => dec_pdf
  | .one => dec_one
  | .mop => dec_mop
def okByte : List AV → Prop
  | [.int .u8 x] => 0 ≤ x ∧ x < 256
  | _ => True
/-- and the cells are those of the element -/
def Ety.decOk : (e : Ety) → List AV → Prop
  | .byte => okByte
  | _ => fun _ => True
def Ety.dflt : (e : Ety) → e.T
  | .int => (0 : Int)
  | .byte => (0 : UInt8)
  | .str => ([] : List UInt8)
  | .bool => (false : Bool)
  | .i16 => (0 : Int)
  | .mon => (⟨0, 0, 0, 0, 0, 0, 0, 0⟩ : Mon)
  | .tra => (⟨0, 0, 0, 0, 0⟩ : Tra)
  | .pdf => (⟨0, 0, false, 0⟩ : Pdf)
  | .one => (⟨⟨0, 0, 0, 0, 0, 0, 0, 0⟩, false, 0, 0, 0, false, 0⟩ : One)
  | .mop => (⟨0, 0, 0, false⟩ : Mop)
/-- no slices within the elements -/
def Ety.flat : Ety → Bool
  | .int => true
  | .byte => true
  | .str => true
  | .bool => true
  | .i16 => true
  | .mon => true
  | .tra => true
  | .pdf => true
  | .one => true
  | .mop => true
theorem Ety.enc_len (e : Ety) (x : e.T) : (e.enc x).length = e.sz := by cases e <;> rfl
theorem Ety.sz_pos (e : Ety) : 0 < e.sz := by cases e <;> decide
def AV.cell : AV → Bool
  | .agg _ | .tup _ | .any => false
  | .lit v => v.oneCell'
  | _ => true
/-- no address of the memory at hand -/
def AV.tf : AV → Bool
  | .int _ _ | .bool _ | .str _ | .lit _ | .ro _ _ => true
  | _ => false
/-- nor of what lies for good -/
def AV.ntf : AV → Bool
  | .int _ _ | .bool _ | .str _ | .lit _ => true
  | _ => false
theorem Ety.enc_tf (e : Ety) (x : e.T) : ∀ a ∈ e.enc x, a.tf = true := by cases e <;> simp [Ety.enc, AV.tf]
theorem Ety.enc_cell (e : Ety) (x : e.T) : ∀ a ∈ e.enc x, a.cell = true := by cases e <;> simp [Ety.enc, AV.cell]
theorem Ety.enc_flat (e : Ety) (he : e.flat = true) (x : e.T) : ∀ a ∈ e.enc x, a.ntf = true := by cases e <;> first | (simp [Ety.flat] at he; done) | simp [Ety.enc, AV.ntf]
theorem dec_len (e : Ety) (l : List AV) (x : e.T) (h : e.dec l = some x) : l.length = e.sz := by
  cases e <;> simp only [Ety.dec] at h
  · unfold dec_int at h; split at h <;> first | rfl | (simp at h; done)
  · unfold dec_byte at h; split at h <;> first | rfl | (simp at h; done)
  · unfold dec_str at h; split at h <;> first | rfl | (simp at h; done)
  · unfold dec_bool at h; split at h <;> first | rfl | (simp at h; done)
  · unfold dec_i16 at h; split at h <;> first | rfl | (simp at h; done)
  · unfold dec_mon at h; split at h <;> first | rfl | (simp at h; done)
  · unfold dec_tra at h; split at h <;> first | rfl | (simp at h; done)
  · unfold dec_pdf at h; split at h <;> first | rfl | (simp at h; done)
  · unfold dec_one at h; split at h <;> first | rfl | (simp at h; done)
  · unfold dec_mop at h; split at h <;> first | rfl | (simp at h; done)
end Go.V

namespace Go.V

/-- what lies for good: blocks that nobody writes any more -/
abbrev RO := Nat → Option Obj
def RO.le (R R' : RO) : Prop := ∀ b o, R b = some o → R' b = some o
theorem RO.le.refl (R : RO) : R.le R := fun _ _ h => h
theorem RO.le.trans {A B C : RO} (h : A.le B) (k : B.le C) : A.le C := fun b o x => k b o (h b o x)

inductive Bind where
  | blk (b cap : Nat)
  | cel (b : Nat)
  | arr (b k : Nat)
  | mp (b : Nat)
  | it (r m : Nat)
  | none
  | pack (l : List Bind)

/-- the block that a pointer to an object shows -/
def Bind.obj : Bind → Option Nat
  | .cel b => some b
  | .arr b _ => some b
  | .it r _ => some r
  | .pack (.cel b :: _) => some b
  | _ => .none

def nthA : List AV → Nat → AV
  | [], _ => .any
  | a :: _, 0 => a
  | _ :: l, n + 1 => nthA l n

/-- an object may be packed or open, its first block stays -/
def BLe (B B' : Bind) : Prop := B' = B ∨ ∃ b, B.obj = some b ∧ B'.obj = some b ∧ ∀ c k, B ≠ .arr c k
theorem BLe.refl (B : Bind) : BLe B B := .inl rfl
theorem BLe.trans {A B C : Bind} (h : BLe A B) (k : BLe B C) : BLe A C := by
  rcases h with rfl | ⟨b, h1, h2, h5⟩
  · exact k
  · rcases k with rfl | ⟨c, h3, h4, _⟩
    · exact .inr ⟨b, h1, h2, h5⟩
    · rw [h2] at h3
      cases h3
      exact .inr ⟨b, h1, h4, h5⟩
theorem BLe.obj {A B : Bind} (h : BLe A B) {b : Nat} (hb : A.obj = some b) : B.obj = some b := by
  rcases h with rfl | ⟨c, h1, h2, _⟩
  · exact hb
  · rw [hb] at h1
    cases h1
    exact h2
/-- one list goes on with what the other has -/
structure Ext (μ μ' : List Bind) : Prop where
  len : μ.length ≤ μ'.length
  get : ∀ {t : Nat} {B : Bind}, μ[t]? = some B → ∃ B', μ'[t]? = some B' ∧ BLe B B'
theorem Ext.refl (μ : List Bind) : Ext μ μ := ⟨Nat.le_refl _, fun h => ⟨_, h, .refl _⟩⟩
theorem Ext.trans {a b c : List Bind} (h : Ext a b) (k : Ext b c) : Ext a c :=
  ⟨Nat.le_trans h.len k.len, fun hb => by
    obtain ⟨B', h1, h2⟩ := h.get hb
    obtain ⟨B2, h3, h4⟩ := k.get h1
    exact ⟨B2, h3, h2.trans h4⟩⟩
theorem Ext.app (μ x : List Bind) : Ext μ (μ ++ x) := ⟨by simp, fun {t B} hb => ⟨B, by
  rw [List.getElem?_append_left (List.getElem?_eq_some_iff.1 hb).1]; exact hb, .refl _⟩⟩
theorem Ext.mp {μ μ' : List Bind} (h : Ext μ μ') {t b : Nat} (hb : μ[t]? = some (.mp b)) : μ'[t]? = some (.mp b) := by
  obtain ⟨B', h1, h2⟩ := h.get hb
  rcases h2 with rfl | ⟨_, h3, _⟩
  · exact h1
  · simp [Bind.obj] at h3
theorem Ext.arr {μ μ' : List Bind} (h : Ext μ μ') {t b k : Nat} (hb : μ[t]? = some (.arr b k)) : μ'[t]? = some (.arr b k) := by
  obtain ⟨B', h1, h2⟩ := h.get hb
  rcases h2 with rfl | ⟨_, _, _, h3⟩
  · exact h1
  · exact absurd rfl (h3 b k)
theorem Ext.nil (μ : List Bind) : Ext [] μ := ⟨by simp, fun h => by simp at h⟩
theorem Ext.blk {μ μ' : List Bind} (h : Ext μ μ') {t b c : Nat} (hb : μ[t]? = some (.blk b c)) : μ'[t]? = some (.blk b c) := by
  obtain ⟨B', h1, h2⟩ := h.get hb
  rcases h2 with rfl | ⟨_, h3, _⟩
  · exact h1
  · simp [Bind.obj] at h3

theorem Ext.none {μ μ' : List Bind} (h : Ext μ μ') {t : Nat} (hb : μ[t]? = some .none) : μ'[t]? = some .none := by
  obtain ⟨B', h1, h2⟩ := h.get hb
  rcases h2 with rfl | ⟨_, h3, _⟩
  · exact h1
  · simp [Bind.obj] at h3

mutual
inductive Rel (R : RO) : List Bind → AV → Value → Prop
  | int {μ k n} : Rel R μ (.int k n) (.int k n)
  | bool {μ b} : Rel R μ (.bool b) (.bool b)
  | str {μ s} : Rel R μ (.str s) (.string ⟨s.toArray⟩)
  | lit {μ v} : Rel R μ (.lit v) v
  | any {μ v} : Rel R μ .any v
  | agg {μ l vs} (h : LRel R μ l vs) : Rel R μ (.agg l) (.agg vs.toArray)
  | tup {μ l vs} (h : LRel R μ l vs) : Rel R μ (.tup l) (.tuple vs.toArray)
  | ptr {μ t off B b} (h : μ[t]? = some B) (hb : B.obj = some b) : Rel R μ (.ptr t off) (.pointer (some ⟨b, off, Option.none⟩))
  | csl {μ t n s b k c} (h : μ[t]? = some (.arr b k)) (hl : n ≤ c) (hk : c * s ≤ k) (hm : c ≤ maxLen) : Rel R μ (.csl t n s) (.slice (some ⟨b, 0, Option.none⟩) n c)
  | ep {μ t e i off b cap} (h : μ[t]? = some (.blk b cap)) : Rel R μ (.ep t e i off) (.pointer (some ⟨b, i * e.sz + off, Option.none⟩))
  | sl {μ t e start len b cap c} (h : μ[t]? = some (.blk b cap)) (hc : start + c = cap) (hl : len ≤ c) (hm : cap ≤ maxLen) : Rel R μ (.sl t e start len) (.slice (some ⟨b, start * e.sz, Option.none⟩) len c)
  | sl0 {μ t e start a} (h : μ[t]? = some .none ∨ (0 < start ∧ t < μ.length)) : Rel R μ (.sl t e start 0) (.slice a 0 0)
  | ro {μ e xs b o arr ty fr c} (h : R b = some (.cells arr ty fr)) (hl : LRel R [] (xs.flatMap (Ety.enc e)) ((arr.toList.drop o).take (xs.length * e.sz))) (hc : xs.length ≤ c) (hm : c ≤ maxLen) : Rel R μ (.ro e xs) (.slice (some ⟨b, o, Option.none⟩) xs.length c)
  | ro0 {μ e a c} (hm : c ≤ maxLen) : Rel R μ (.ro e []) (.slice a 0 c)
  | rp {μ e xs b o i off arr ty fr} (h : R b = some (.cells arr ty fr)) (hl : LRel R [] (xs.flatMap (Ety.enc e)) ((arr.toList.drop o).take (xs.length * e.sz))) (hi : i < xs.length) : Rel R μ (.rp e xs i off) (.pointer (some ⟨b, o + i * e.sz + off, Option.none⟩))
  | rc {μ e xs b o arr ty fr} (h : R b = some (.cells arr ty fr)) (hl : LRel R [] (xs.flatMap (Ety.enc e)) ((arr.toList.drop o).take (xs.length * e.sz))) (hm : xs.length ≤ maxLen) : Rel R μ (.rc e xs) (.slice (some ⟨b, o, Option.none⟩) xs.length xs.length)
  | rc0 {μ e a} : Rel R μ (.rc e []) (.slice a 0 0)
  | fn {μ f l vs} (h : LRel R μ l vs) : Rel R μ (.fn f l) (.func (.func f) #[] vs.toArray)
  | ifc {μ t a v} (h : Rel R μ a v) : Rel R μ (.ifc t a) (.iface t v)
  | mp {μ t b} (h : μ[t]? = some (.mp b)) : Rel R μ (.mp t) (.map (some b))
inductive LRel (R : RO) : List Bind → List AV → List Value → Prop
  | nil {μ} : LRel R μ [] []
  | cons {μ a v l vs} (h : Rel R μ a v) (hs : LRel R μ l vs) : LRel R μ (a :: l) (v :: vs)
end

mutual
theorem Rel.mono {R R' : RO} (hR : R.le R') : ∀ {μ μ' : List Bind} {a : AV} {v : Value}, Rel R μ a v → Ext μ μ' → Rel R' μ' a v
  | _, _, _, _, .int, _ => .int
  | _, _, _, _, .bool, _ => .bool
  | _, _, _, _, .str, _ => .str
  | _, _, _, _, .lit, _ => .lit
  | _, _, _, _, .any, _ => .any
  | _, _, _, _, .agg h, hm => .agg (LRel.mono hR h hm)
  | _, _, _, _, .tup h, hm => .tup (LRel.mono hR h hm)
  | _, _, _, _, .ptr h hb, hm => by
    obtain ⟨B', h1, h2⟩ := hm.get h
    exact .ptr h1 (h2.obj hb)
  | _, _, _, _, .csl h hl hk hx, hm => .csl (hm.arr h) hl hk hx
  | _, _, _, _, .ep h, hm => .ep (hm.blk h)
  | _, _, _, _, .sl h hc hl hx, hm => .sl (hm.blk h) hc hl hx
  | _, _, _, _, .sl0 h, hm => .sl0 (h.imp (fun q => hm.none q) fun q => ⟨q.1, Nat.lt_of_lt_of_le q.2 hm.len⟩)
  | _, _, _, _, .ro h hl hc hx, _ => .ro (hR _ _ h) (LRel.mono hR hl (Ext.refl _)) hc hx
  | _, _, _, _, .ro0 hx, _ => .ro0 hx
  | _, _, _, _, .rp h hl hi, _ => .rp (hR _ _ h) (LRel.mono hR hl (Ext.refl _)) hi
  | _, _, _, _, .rc h hl hx, _ => .rc (hR _ _ h) (LRel.mono hR hl (Ext.refl _)) hx
  | _, _, _, _, .rc0, _ => .rc0
  | _, _, _, _, .fn h, hm => .fn (LRel.mono hR h hm)
  | _, _, _, _, .ifc h, hm => .ifc (Rel.mono hR h hm)
  | _, _, _, _, .mp h, hm => .mp (hm.mp h)
theorem LRel.mono {R R' : RO} (hR : R.le R') : ∀ {μ μ' : List Bind} {l : List AV} {vs : List Value}, LRel R μ l vs → Ext μ μ' → LRel R' μ' l vs
  | _, _, _, _, .nil, _ => .nil
  | _, _, _, _, .cons h hs, hm => .cons (Rel.mono hR h hm) (LRel.mono hR hs hm)
end

theorem LRel.len {R : RO} : ∀ {μ : List Bind} {l : List AV} {vs : List Value}, LRel R μ l vs → l.length = vs.length
  | _, _, _, .nil => rfl
  | _, _, _, .cons _ hs => by simp [LRel.len hs]
theorem LRel.get {R : RO} : ∀ {μ : List Bind} {l : List AV} {vs : List Value} (n : Nat) {a : AV}, LRel R μ l vs → l[n]? = some a → ∃ v, vs[n]? = some v ∧ Rel R μ a v
  | _, _, _, _, _, .nil, h => by simp at h
  | _, _, _, 0, _, .cons h _, e => by simp at e; subst e; exact ⟨_, rfl, h⟩
  | _, _, _, n + 1, _, .cons _ hs, e => by simp at e; simpa using LRel.get n hs e
theorem LRel.nth {R : RO} : ∀ {μ : List Bind} {l : List AV} {vs : List Value} (n : Nat) {v : Value}, LRel R μ l vs → vs[n]? = some v → Rel R μ (nthA l n) v
  | _, _, _, _, _, .nil, h => by simp at h
  | _, _, _, 0, _, .cons h _, e => by simp at e; subst e; exact h
  | _, _, _, n + 1, _, .cons _ hs, e => by simp at e; simpa [nthA] using LRel.nth n hs e
theorem LRel.app {R : RO} : ∀ {μ : List Bind} {l l' : List AV} {vs vs' : List Value}, LRel R μ l vs → LRel R μ l' vs' → LRel R μ (l ++ l') (vs ++ vs')
  | _, _, _, _, _, .nil, k => k
  | _, _, _, _, _, .cons h hs, k => .cons h (LRel.app hs k)
theorem LRel.take {R : RO} : ∀ {μ : List Bind} {l : List AV} {vs : List Value} (n : Nat), LRel R μ l vs → LRel R μ (l.take n) (vs.take n)
  | _, _, _, _, .nil => by simp; exact .nil
  | _, _, _, 0, .cons _ _ => by simp; exact .nil
  | _, _, _, n + 1, .cons h hs => .cons h (LRel.take n hs)
theorem LRel.drop {R : RO} : ∀ {μ : List Bind} {l : List AV} {vs : List Value} (n : Nat), LRel R μ l vs → LRel R μ (l.drop n) (vs.drop n)
  | _, _, _, _, .nil => by simp; exact .nil
  | _, _, _, 0, .cons h hs => .cons h hs
  | _, _, _, n + 1, .cons _ hs => LRel.drop n hs
theorem LRel.set {R : RO} : ∀ {μ : List Bind} {l : List AV} {vs : List Value} (n : Nat) {a : AV} {v : Value}, LRel R μ l vs → Rel R μ a v → LRel R μ (l.set n a) (vs.set n v)
  | _, _, _, _, _, _, .nil, _ => by simp; exact .nil
  | _, _, _, 0, _, _, .cons _ hs, k => .cons k hs
  | _, _, _, n + 1, _, _, .cons h hs, k => .cons h (LRel.set n hs k)

/-! ### Rows laid flat -/
theorem flat_len (e : Ety) : ∀ ys : List e.T, (ys.flatMap e.enc).length = ys.length * e.sz
  | [] => by simp
  | y :: ys => by simp only [List.flatMap_cons, List.length_append, e.enc_len y, flat_len e ys, List.length_cons, Nat.succ_mul]; omega
theorem flat_take (e : Ety) : ∀ (ys : List e.T) (n : Nat), (ys.take n).flatMap e.enc = (ys.flatMap e.enc).take (n * e.sz)
  | [], n => by simp
  | y :: ys, 0 => by simp
  | y :: ys, n + 1 => by
    have hy := e.enc_len y
    rw [List.take_succ_cons, List.flatMap_cons, List.flatMap_cons, List.take_append, flat_take e ys n, hy, List.take_of_length_le (l := e.enc y) (by rw [hy]; exact Nat.le_mul_of_pos_left _ (by omega)), Nat.succ_mul, Nat.add_sub_cancel]
theorem flat_drop (e : Ety) : ∀ (ys : List e.T) (n : Nat), (ys.drop n).flatMap e.enc = (ys.flatMap e.enc).drop (n * e.sz)
  | [], n => by simp
  | y :: ys, 0 => by simp
  | y :: ys, n + 1 => by
    have hy := e.enc_len y
    rw [List.drop_succ_cons, List.flatMap_cons, List.drop_append, flat_drop e ys n, hy, List.drop_of_length_le (l := e.enc y) (by rw [hy]; exact Nat.le_mul_of_pos_left _ (by omega)), Nat.succ_mul, Nat.add_sub_cancel, List.nil_append]

/-! ### Maps -/
/-- the kinds of keys -/
inductive KTy where
  | int | str
deriving DecidableEq
abbrev KTy.T : KTy → Type
  | .int => Int
  | .str => List UInt8
instance : (k : KTy) → DecidableEq k.T
  | .int => inferInstanceAs (DecidableEq Int)
  | .str => inferInstanceAs (DecidableEq (List UInt8))
def KTy.av : (k : KTy) → k.T → AV
  | .int, n => .int .i64 n
  | .str, s => .str s
/-- an element as one value -/
def valA (e : Ety) (x : e.T) : AV := match e.enc x with
  | [a] => a
  | l => .agg l
section
variable {k : KTy} {e : Ety}
def mget : List (k.T × e.T) → k.T → Option e.T
  | [], _ => none
  | p :: r, x => if p.1 = x then some p.2 else mget r x
def mset : List (k.T × e.T) → k.T → e.T → List (k.T × e.T)
  | [], x, v => [(x, v)]
  | p :: r, x, v => if p.1 = x then (x, v) :: r else p :: mset r x v
def mdel : List (k.T × e.T) → k.T → List (k.T × e.T)
  | [], _ => []
  | p :: r, x => if p.1 = x then r else p :: mdel r x
end

/-! ### Memory -/
inductive Ch : Type where
  | cells (vs : List AV)
  | crow (vs : List AV)
  | rows (e : Ety) (xs : List e.T)
  | gone
  | pack (l : List Ch)
  | map (k : KTy) (e : Ety) (kv : List (k.T × e.T))
  | iter (g : Nat) (k : KTy) (e : Ety) (kv todo : List (k.T × e.T)) (last : Option (k.T × e.T))

/-- a map's stamps -/
def Born (es : Array MapEntry) (clock : Nat) : Prop := (∀ x ∈ es.toList, x.born < clock) ∧ (es.toList.map (·.born)).Nodup
/-- what a range over a map has not met yet -/
def leftB (es : Array MapEntry) (seen : Array Nat) : List MapEntry := es.toList.filter fun x => !seen.contains x.born
/-- the same entries in another order; no key twice -/
def Same {α β : Type} (l m : List (α × β)) : Prop := l.Perm m ∧ (l.map (·.1)).Nodup
mutual
def ownC : Ch → Bind → List Nat
  | .cells _, .cel b => [b]
  | .crow _, .arr b _ => [b]
  | .rows _ _, .blk b _ => [b]
  | .map _ _ _, .mp b => [b]
  | .iter _ _ _ _ _ _, .it r m => [r, m]
  | .pack l, .pack bl => ownH l bl
  | _, _ => []
def ownH : List Ch → List Bind → List Nat
  | c :: l, b :: bl => ownC c b ++ ownH l bl
  | _, _ => []
end

mutual
def CRel (R : RO) (w : World) (μ : List Bind) : Ch → Bind → Prop
  | .cells vs, b => ∃ n arr ty, b = .cel n ∧ w.heap[n]? = some (.cells arr ty (0, 0)) ∧ LRel R μ vs arr.toList
  | .crow vs, b => ∃ n arr ty, b = .arr n arr.size ∧ w.heap[n]? = some (.cells arr ty (0, 0)) ∧ LRel R μ vs (arr.toList.take vs.length)
  | .rows e xs, b => (b = .none ∧ xs = []) ∨ ∃ n cap arr ty, b = .blk n cap ∧ w.heap[n]? = some (.cells arr ty (0, 0)) ∧ arr.size = cap * e.sz ∧ xs.length ≤ cap ∧ cap ≤ maxLen ∧
      LRel R [] (xs.flatMap (Ety.enc e)) (arr.toList.take (xs.length * e.sz))
  | .gone, _ => True
  | .map k e kv, b => ∃ (n : Nat) (es : Array MapEntry) (clock : Nat) (kv0 : List (k.T × e.T)), b = .mp n ∧ w.heap[n]? = some (.map es clock) ∧ LRel R [] (kv0.map fun p => k.av p.1) (es.toList.map (·.key)) ∧ LRel R [] (kv0.map fun p => valA e p.2) (es.toList.map (·.val)) ∧ Born es clock ∧ Same kv0 kv
  | .iter g k e kv todo last, b => ∃ (r m : Nat) (es : Array MapEntry) (clock : Nat) (seen : Array Nat) (kv0 td0 : List (k.T × e.T)), b = .it r m ∧ μ[g]? = some (.mp m) ∧ w.heap[r]? = some (.mapIter (some m) clock seen clock) ∧ w.heap[m]? = some (.map es clock) ∧
      LRel R [] (kv0.map fun p => k.av p.1) (es.toList.map (·.key)) ∧ LRel R [] (kv0.map fun p => valA e p.2) (es.toList.map (·.val)) ∧ Born es clock ∧ Same kv0 kv ∧
      LRel R [] (td0.map fun p => k.av p.1) ((leftB es seen).map (·.key)) ∧ LRel R [] (td0.map fun p => valA e p.2) ((leftB es seen).map (·.val)) ∧ td0.Perm todo ∧
      ∀ p, last = some p → ∃ x ∈ es.toList, seen.back? = some x.born ∧ Rel R [] (k.av p.1) x.key ∧ Rel R [] (valA e p.2) x.val
  | .pack l, b => ∃ bl, b = .pack bl ∧ HRel R w bl l bl
def HRel (R : RO) (w : World) (μ : List Bind) : List Ch → List Bind → Prop
  | [], [] => True
  | c :: l, b :: bl => CRel R w μ c b ∧ HRel R w μ l bl
  | _, _ => False
end

/-- the memory at hand -/
structure HOk (R : RO) (μ : List Bind) (h : List Ch) (w : World) : Prop where
  rel : HRel R w μ h μ
  nodup : (ownH h μ).Nodup
  own : ∀ b ∈ ownH h μ, b < w.heap.size ∧ R b = none
  ro : ∀ b o, R b = some o → w.heap[b]? = some o

/-- one step: what the machine may have done to the world -/
structure Step (O : List Nat) (R : RO) (w : World) (O' : List Nat) (R' : RO) (w' : World) : Prop where
  ro : R.le R'
  size : w.heap.size ≤ w'.heap.size
  out : ∀ b, b < w.heap.size → b ∉ O → w'.heap[b]? = w.heap[b]?
  own : ∀ b ∈ O', b ∈ O ∨ w.heap.size ≤ b
  nro : ∀ b o, R' b = some o → R b = some o ∨ b ∈ O ∨ w.heap.size ≤ b
  os : w'.os = w.os
  tape : w'.tape = w.tape
  output : w'.output = w.output
  drawn : w.drawn ≤ w'.drawn
theorem Step.refl (O : List Nat) (R : RO) (w : World) : Step O R w O R w :=
  ⟨RO.le.refl R, Nat.le_refl _, fun _ _ _ => rfl, fun _ h => .inl h, fun _ _ h => .inl h, rfl, rfl, rfl, Nat.le_refl _⟩
theorem Step.trans {O O' O'' : List Nat} {R R' R'' : RO} {w w' w'' : World} (h : Step O R w O' R' w') (k : Step O' R' w' O'' R'' w'') : Step O R w O'' R'' w'' := by
  refine ⟨h.ro.trans k.ro, Nat.le_trans h.size k.size, fun b hb hn => ?_, fun b hb => ?_, fun b o ho => ?_, k.os.trans h.os, k.tape.trans h.tape, k.output.trans h.output, Nat.le_trans h.drawn k.drawn⟩
  · rw [k.out b (Nat.lt_of_lt_of_le hb h.size) (fun hm => (h.own b hm).elim hn (fun hl => by omega)), h.out b hb hn]
  · rcases k.own b hb with h1 | h1
    · exact h.own b h1
    · exact .inr (Nat.le_trans h.size h1)
  · rcases k.nro b o ho with h1 | h1 | h1
    · exact h.nro b o h1
    · exact .inr (h.own b h1)
    · exact .inr (.inr (Nat.le_trans h.size h1))

theorem ownH_app : ∀ (l l' : List Ch) (m m' : List Bind), l.length = m.length → ownH (l ++ l') (m ++ m') = ownH l m ++ ownH l' m'
  | [], _, [], _, _ => by simp [ownH]
  | _ :: l, l', _ :: m, m', h => by simp [ownH, ownH_app l l' m m' (by simpa using h)]
  | [], _, _ :: _, _, h => by simp at h
  | _ :: _, _, [], _, h => by simp at h
theorem HRel.len {R : RO} {w : World} {μ : List Bind} : ∀ {l : List Ch} {m : List Bind}, HRel R w μ l m → l.length = m.length
  | [], [], _ => rfl
  | _ :: _, _ :: _, h => by simp [HRel.len h.2]
  | [], _ :: _, h => h.elim
  | _ :: _, [], h => h.elim
theorem HRel.app {R : RO} {w : World} {μ : List Bind} : ∀ {l l' : List Ch} {m m' : List Bind}, HRel R w μ l m → HRel R w μ l' m' → HRel R w μ (l ++ l') (m ++ m')
  | [], _, [], _, _, k => k
  | _ :: l, _, _ :: m, _, h, k => ⟨h.1, HRel.app h.2 k⟩
  | [], _, _ :: _, _, h, _ => h.elim
  | _ :: _, _, [], _, h, _ => h.elim

-- what is owned stays as it is where the worlds agree
mutual
theorem CRel.keep {R R' : RO} (hR : R.le R') {w w' : World} {μ μ' : List Bind} (hm : Ext μ μ') : ∀ (c : Ch) (b : Bind), CRel R w μ c b → (∀ n ∈ ownC c b, w'.heap[n]? = w.heap[n]?) → CRel R' w' μ' c b
  | .cells _, _, h, hk => by
    obtain ⟨n, arr, ty, rfl, h1, h2⟩ := h
    exact ⟨n, arr, ty, rfl, by rw [hk n (by simp [ownC])]; exact h1, h2.mono hR hm⟩
  | .crow _, _, h, hk => by
    obtain ⟨n, arr, ty, rfl, h1, h2⟩ := h
    exact ⟨n, arr, ty, rfl, by rw [hk n (by simp [ownC])]; exact h1, h2.mono hR hm⟩
  | .rows _ _, _, h, hk => by
    rcases h with ⟨rfl, h⟩ | ⟨n, cap, arr, ty, rfl, h1, h2, h3, h4, h5⟩
    · exact .inl ⟨rfl, h⟩
    · exact .inr ⟨n, cap, arr, ty, rfl, by rw [hk n (by simp [ownC])]; exact h1, h2, h3, h4, h5.mono hR (Ext.refl _)⟩
  | .gone, _, _, _ => trivial
  | .map _ _ _, _, h, hk => by
    obtain ⟨n, es, clock, kv0, rfl, h1, h2, h3, h4⟩ := h
    exact ⟨n, es, clock, kv0, rfl, by rw [hk n (by simp [ownC])]; exact h1, h2.mono hR (Ext.refl _), h3.mono hR (Ext.refl _), h4⟩
  | .iter g k e kv todo last, _, h, hk => by
    obtain ⟨r, m, es, clock, seen, kv0, td0, rfl, h0, h1, h2, h3, h4, h5, hs, h6, h7, ht, h8⟩ := h
    refine ⟨r, m, es, clock, seen, kv0, td0, rfl, hm.mp h0, by rw [hk r (by simp [ownC])]; exact h1, by rw [hk m (by simp [ownC])]; exact h2, h3.mono hR (Ext.refl _), h4.mono hR (Ext.refl _), h5, hs, h6.mono hR (Ext.refl _), h7.mono hR (Ext.refl _), ht, fun p hp => ?_⟩
    obtain ⟨x, a1, a2, a3, a4⟩ := h8 p hp
    exact ⟨x, a1, a2, a3.mono hR (Ext.refl _), a4.mono hR (Ext.refl _)⟩
  | .pack l, _, h, hk => by
    obtain ⟨bl, rfl, h⟩ := h
    exact ⟨bl, rfl, HRel.keep hR (Ext.refl bl) l bl h (by simpa [ownC] using hk)⟩
theorem HRel.keep {R R' : RO} (hR : R.le R') {w w' : World} {μ μ' : List Bind} (hm : Ext μ μ') : ∀ (l : List Ch) (m : List Bind), HRel R w μ l m → (∀ n ∈ ownH l m, w'.heap[n]? = w.heap[n]?) → HRel R' w' μ' l m
  | [], [], _, _ => trivial
  | c :: l, b :: m, h, hk => ⟨CRel.keep hR hm c b h.1 (fun n hn => hk n (by simp [ownH, hn])), HRel.keep hR hm l m h.2 (fun n hn => hk n (by simp [ownH, hn]))⟩
  | [], _ :: _, h, _ => h.elim
  | _ :: _, [], h, _ => h.elim
end
end Go.V

namespace Go.V
theorem asE_self (e : Ety) (xs : List e.T) : asE e e xs = some xs := by simp [asE]
theorem asE_some {e e' : Ety} {xs : List e'.T} {ys : List e.T} (h : asE e e' xs = some ys) : ∃ he : e' = e, he ▸ xs = ys := by
  unfold asE at h
  split at h
  · rename_i he; exact ⟨he, by simpa using h⟩
  · simp at h
theorem byte_rel {R : RO} {μ : List Bind} {x : Int} {v : Value} (h : Rel R μ (.int .u8 x) v) (ho : 0 ≤ x ∧ x < 256) : Rel R μ (.int .u8 (UInt8.ofNat x.toNat).toNat) v := by
  have : ((UInt8.ofNat x.toNat).toNat : Int) = x := by
    rw [show (UInt8.ofNat x.toNat).toNat = x.toNat from by simp; omega]
    omega
  rw [this]
  exact h
theorem Ety.dec_ok {R : RO} {μ : List Bind} (e : Ety) {l : List AV} {x : e.T} {vs : List Value} (h : e.dec l = some x) (ho : e.decOk l) (hr : LRel R μ l vs) : LRel R μ (e.enc x) vs := by
  cases e <;> simp only [Ety.dec] at h
  · unfold dec_int at h
    split at h
    · simp only [Option.some.injEq] at h
      subst h
      cases hr with | cons h0 hr =>
      cases hr
      exact .cons h0 <| .nil
    · simp at h
  · unfold dec_byte at h
    split at h
    · simp only [Option.some.injEq] at h
      subst h
      cases hr with | cons h0 hr =>
      cases hr
      exact .cons (byte_rel h0 ho) .nil
    · simp at h
  · unfold dec_str at h
    split at h
    · simp only [Option.some.injEq] at h
      subst h
      cases hr with | cons h0 hr =>
      cases hr
      exact .cons h0 <| .nil
    · simp at h
  · unfold dec_bool at h
    split at h
    · simp only [Option.some.injEq] at h
      subst h
      cases hr with | cons h0 hr =>
      cases hr
      exact .cons h0 <| .nil
    · simp at h
  · unfold dec_i16 at h
    split at h
    · simp only [Option.some.injEq] at h
      subst h
      cases hr with | cons h0 hr =>
      cases hr
      exact .cons h0 <| .nil
    · simp at h
  · unfold dec_mon at h
    split at h
    · simp only [Option.some.injEq] at h
      subst h
      cases hr with | cons h0 hr =>
      cases hr with | cons h1 hr =>
      cases hr with | cons h2 hr =>
      cases hr with | cons h3 hr =>
      cases hr with | cons h4 hr =>
      cases hr with | cons h5 hr =>
      cases hr with | cons h6 hr =>
      cases hr with | cons h7 hr =>
      cases hr
      exact .cons h0 <| .cons h1 <| .cons h2 <| .cons h3 <| .cons h4 <| .cons h5 <| .cons h6 <| .cons h7 <| .nil
    · simp at h
  · unfold dec_tra at h
    split at h
    · simp only [Option.some.injEq] at h
      subst h
      cases hr with | cons h0 hr =>
      cases hr with | cons h1 hr =>
      cases hr with | cons h2 hr =>
      cases hr with | cons h3 hr =>
      cases hr with | cons h4 hr =>
      cases hr
      exact .cons h0 <| .cons h1 <| .cons h2 <| .cons h3 <| .cons h4 <| .nil
    · simp at h
  · unfold dec_pdf at h
    split at h
    · simp only [Option.some.injEq] at h
      subst h
      cases hr with | cons h0 hr =>
      cases hr with | cons h1 hr =>
      cases hr with | cons h2 hr =>
      cases hr with | cons h3 hr =>
      cases hr
      exact .cons h0 <| .cons h1 <| .cons h2 <| .cons h3 <| .nil
    · simp at h
  · unfold dec_one at h
    split at h
    · simp only [Option.some.injEq] at h
      subst h
      cases hr with | cons h0 hr =>
      cases hr with | cons h1 hr =>
      cases hr with | cons h2 hr =>
      cases hr with | cons h3 hr =>
      cases hr with | cons h4 hr =>
      cases hr with | cons h5 hr =>
      cases hr with | cons h6 hr =>
      cases hr with | cons h7 hr =>
      cases hr with | cons h8 hr =>
      cases hr with | cons h9 hr =>
      cases hr with | cons h10 hr =>
      cases hr with | cons h11 hr =>
      cases hr with | cons h12 hr =>
      cases hr with | cons h13 hr =>
      cases hr
      exact .cons h0 <| .cons h1 <| .cons h2 <| .cons h3 <| .cons h4 <| .cons h5 <| .cons h6 <| .cons h7 <| .cons h8 <| .cons h9 <| .cons h10 <| .cons h11 <| .cons h12 <| .cons h13 <| .nil
    · simp at h
  · unfold dec_mop at h
    split at h
    · simp only [Option.some.injEq] at h
      subst h
      cases hr with | cons h0 hr =>
      cases hr with | cons h1 hr =>
      cases hr with | cons h2 hr =>
      cases hr with | cons h3 hr =>
      cases hr
      exact .cons h0 <| .cons h1 <| .cons h2 <| .cons h3 <| .nil
    · simp at h
end Go.V

namespace Go.V

/-! ### Facts on types -/
inductive Kd where
  | int (k : IntKind) | bool | str | slice (e : TypeId) | array (n : Nat) (e : TypeId) | struct | ptr | map (k e : TypeId) | iface | func | other
def kdT (P : Program) (t : TypeId) : Kd :=
  match P.underlying t with
  | some (.int k) => .int k
  | some .bool => .bool
  | some .string => .str
  | some (.slice e) => .slice e
  | some (.array n e) => .array n e
  | some (.struct _) => .struct
  | some (.pointer _) => .ptr
  | some (.map k e) => .map k e
  | some (.interface _) => .iface
  | some (.func _ _ _) => .func
  | _ => .other
def szT (P : Program) (t : TypeId) : Nat := match P.info? t with | some i => i.size | none => 0
def bytesT (P : Program) (t : TypeId) : Nat := match P.info? t with | some i => i.bytes | none => 0
/-- offset, type of a field; its type's size is not 0 -/
def fldT (P : Program) (s f : Nat) : Option (Nat × TypeId) :=
  match P.underlying s with
  | some (.struct fs) => (match fs[f]? with
    | some x => if szT P x.type = 0 then none else some (x.offset, x.type)
    | none => none)
  | _ => none
def ofV : Value → AV
  | .int k n => .int k n
  | .bool b => .bool b
  | .string s => .str s.data.toList
  | v => .lit v
def zeroT (P : Program) (t : TypeId) : Option (List AV) := match P.info? t with | some i => (match i.zero with | some z => some (z.cells.toList.map ofV) | none => none) | none => none
/-- the kinds of elements that slices of a type hold -/
class ETab where
  of : TypeId → Option Ety
  mof : TypeId → Option (KTy × Ety) := fun _ => none

theorem ofV_rel (R : RO) (μ : List Bind) (v : Value) : Rel R μ (ofV v) v := by
  unfold ofV
  split
  · exact .int
  · exact .bool
  · rename_i s
    have : s = ⟨s.data.toList.toArray⟩ := by cases s; simp
    conv => rhs; rw [this]
    exact .str
  · exact .lit
theorem ofV_rels (R : RO) (μ : List Bind) : ∀ l : List Value, LRel R μ (l.map ofV) l
  | [] => .nil
  | v :: l => .cons (ofV_rel R μ v) (ofV_rels R μ l)

/-! ### Operands -/
def evA (tm : List AV) : Operand → AV
  | .tmp t => nthA tm t
  | .const v => ofV v
  | .func f => .fn f []
  | .global _ => .any
theorem nthA_none : ∀ (l : List AV) (n : Nat), l.length ≤ n → nthA l n = .any
  | [], _, _ => rfl
  | _ :: l, n + 1, h => nthA_none l n (by simpa using h)
  | _ :: _, 0, h => by simp at h
theorem evA_rel {R : RO} {μ : List Bind} {tm : List AV} {a : Act} (h : LRel R μ tm a.tmps.toList) (x : Operand) : Rel R μ (evA tm x) (a.eval x) := by
  cases x with
  | tmp t =>
    unfold evA Act.eval
    simp only [Array.getD_eq_getD_getElem?]
    cases e : a.tmps[t]? with
    | some v => exact h.nth t (by simpa using e)
    | none =>
      rw [nthA_none tm t (by rw [h.len]; simpa using e)]
      exact .any
  | const v => exact ofV_rel R μ v
  | func f => exact .fn .nil
  | global g => exact .any

/-! ### Pure operations -/
def splitB (b : Bool) (A B : Prop) : Prop := (b = true → A) ∧ (b = false → B)
theorem splitB_true (A B : Prop) : splitB true A B = A := by simp [splitB]
theorem splitB_false (A B : Prop) : splitB false A B = B := by simp [splitB]
theorem splitB_ite {b : Bool} {A B : Prop} (h : splitB b A B) : if b then A else B := by
  cases b
  · exact h.2 rfl
  · exact h.1 rfl

def bitsI (op : BinOp) (k : IntKind) (x y : Int) : Int :=
  match op with
  | .and => k.wrap (BitVec.ofInt k.bits x &&& BitVec.ofInt k.bits y).toNat
  | .or => k.wrap (BitVec.ofInt k.bits x ||| BitVec.ofInt k.bits y).toNat
  | .xor => k.wrap (BitVec.ofInt k.bits x ^^^ BitVec.ofInt k.bits y).toNat
  | _ => k.wrap (BitVec.ofInt k.bits x &&& ~~~BitVec.ofInt k.bits y).toNat
def ibin (op : BinOp) (k : IntKind) (a b : Int) (K : AV → Prop) : Prop :=
  match op with
  | .add => K (.int k (k.wrap (a + b)))
  | .sub => K (.int k (k.wrap (a - b)))
  | .mul => K (.int k (k.wrap (a * b)))
  | .quo => b ≠ 0 ∧ K (.int k (k.wrap (a.tdiv b)))
  | .rem => b ≠ 0 ∧ K (.int k (a.tmod b))
  | .and => K (.int k (bitsI .and k a b))
  | .or => K (.int k (bitsI .or k a b))
  | .xor => K (.int k (bitsI .xor k a b))
  | .andNot => K (.int k (bitsI .andNot k a b))
  | .eql => K (.bool (decide (a = b)))
  | .neq => K (.bool (decide (a ≠ b)))
  | .lss => K (.bool (decide (a < b)))
  | .leq => K (.bool (decide (a ≤ b)))
  | .gtr => K (.bool (decide (b < a)))
  | .geq => K (.bool (decide (b ≤ a)))
  | _ => False
def sbin (op : BinOp) (s t : List UInt8) (K : AV → Prop) : Prop :=
  match op with
  | .eql => K (.bool (decide (s = t)))
  | .neq => K (.bool (decide (s ≠ t)))
  | .lss => K (.bool (Op.bytesLess s t))
  | .add => (s.length + t.length ≤ 9223372036854775807) ∧ K (.str (s ++ t))
  | _ => False
def eqK (k : Kd) (x y : AV) (K : Bool → Prop) : Prop :=
  match k, x, y with
  | .bool, .bool a, .bool b => K (decide (a = b))
  | .ptr, .ptr _ _, .lit (.pointer none) => K false
  | .ptr, .lit (.pointer none), .ptr _ _ => K false
  | .ptr, .lit (.pointer none), .lit (.pointer none) => K true
  | .map _ _, .mp _, .lit (.map none) => K false
  | .map _ _, .lit (.map none), .lit (.map none) => K true
  | .iface, .ifc _ _, .lit .nilIface => K false
  | _, _, _ => False
def shK (op : BinOp) (k : IntKind) (a b : Int) (K : AV → Prop) : Prop :=
  match op with
  | .shl => (0 ≤ b) ∧ K (.int k (k.wrap (a * 2 ^ (min b.toNat k.bits))))
  | _ => (0 ≤ b) ∧ K (.int k (a.fdiv (2 ^ (min b.toNat k.bits))))
def eqCell (k : Kd) (x y : AV) : Option Bool :=
  match k, x, y with
  | .int _, .int k a, .int k' b => if k = k' then some (decide (a = b)) else none
  | .bool, .bool a, .bool b => some (decide (a = b))
  | .str, .str a, .str b => some (decide (a = b))
  | _, _, _ => none
def eqFlds (P : Program) (l m : List AV) : List (Nat × TypeId) → Option Bool
  | [] => some true
  | f :: r => match eqCell (kdT P f.2) (nthA l f.1) (nthA m f.1) with
    | some a => (match eqFlds P l m r with | some b => some (a && b) | none => none)
    | none => none
/-- fields that a comparison of two structs looks at -/
def fldsT (P : Program) (t : TypeId) : Option (List (Nat × TypeId)) :=
  match P.underlying t with
  | some (.struct fs) => if P.stoodInHeld t = false ∧ P.eqGuardType P.depth t = false ∧ (fs.toList.all fun f => f.name != "_") = true then some (fs.toList.map fun f => (f.offset, f.type)) else none
  | _ => none
def eqSK (P : Program) (t : TypeId) (l m : List AV) (K : Bool → Prop) : Prop :=
  match fldsT P t with
  | some fs => (match eqFlds P l m fs with | some b => K b | none => False)
  | none => False
def eqNK (x : AV) (K : Bool → Prop) : Prop :=
  match x with
  | .lit (.slice none 0 0) => K true
  | .ro _ xs => (xs = [] → K true) ∧ K false
  | .sl _ _ _ n => (n = 0 → K true) ∧ K false
  | .csl _ _ _ => K false
  | _ => False
def binK (P : Program) (op : BinOp) (t : TypeId) (x y : AV) (K : AV → Prop) : Prop :=
  match op, x, y with
  | .shl, .int k a, .int _ b => shK .shl k a b K
  | .shr, .int k a, .int _ b => shK .shr k a b K
  | _, .int k a, .int k' b => k = k' ∧ ibin op k a b K
  | _, .str s, .str t => sbin op s t K
  | .eql, .agg l, .agg m => eqSK P t l m fun b => K (.bool b)
  | .neq, .agg l, .agg m => eqSK P t l m fun b => K (.bool (!b))
  | .eql, x, .lit (.slice none 0 0) => (∃ e, kdT P t = .slice e) ∧ eqNK x fun b => K (.bool b)
  | .neq, x, .lit (.slice none 0 0) => (∃ e, kdT P t = .slice e) ∧ eqNK x fun b => K (.bool (!b))
  | .eql, x, y => eqK (kdT P t) x y fun b => K (.bool b)
  | .neq, x, y => eqK (kdT P t) x y fun b => K (.bool (!b))
  | _, _, _ => False
def unK (op : UnOp) (x : AV) (K : AV → Prop) : Prop :=
  match op, x with
  | .not, .bool b => K (.bool (!b))
  | .neg, .int k n => K (.int k (k.wrap (0 - n)))
  | .xor, .int k n => K (.int k (bitsI .xor k (if k.signed then -1 else k.max) n))
  | _, _ => False
def convK (src dst : Kd) (x : AV) (K : AV → Prop) : Prop :=
  match src, dst, x with
  | _, .int k, .int _ n => K (.int k (k.wrap n))
  | .str, .str, .str s => K (.str s)
  | _, _, _ => False
def partA (P : Program) (t : TypeId) (l : List AV) (off : Nat) : AV :=
  match kdT P t with
  | .struct => .agg ((l.drop off).take (szT P t))
  | .array _ _ => .agg ((l.drop off).take (szT P t))
  | _ => nthA l off
def fldAddrK (f : Option (Nat × TypeId)) (x : AV) (K : AV → Prop) : Prop :=
  match f, x with
  | some (o, _), .ptr t off => K (.ptr t (off + o))
  | some (o, _), .ep t e i off => K (.ep t e i (off + o))
  | some (o, _), .rp e xs i off => K (.rp e xs i (off + o))
  | _, _ => False
def idxAddrK (P : Program) (k : Kd) (x i : AV) (K : AV → Prop) : Prop :=
  match k, x, i with
  | .slice el, .ro e xs, .int _ i => (0 ≤ i ∧ i < xs.length) ∧ szT P el = e.sz ∧ K (.rp e xs i.toNat 0)
  | .slice el, .sl t e s n, .int _ i => (0 ≤ i ∧ i < n) ∧ szT P el = e.sz ∧ K (.ep t e (s + i.toNat) 0)
  | .slice el, .csl t n _, .int _ i => (0 ≤ i ∧ i < n) ∧ szT P el ≠ 0 ∧ K (.ptr t (i.toNat * szT P el))
  | .array n el, .ptr t off, .int _ i => (0 ≤ i ∧ i < n) ∧ szT P el ≠ 0 ∧ K (.ptr t (off + i.toNat * szT P el))
  | .array n el, .rp e xs j off, .int _ i => (0 ≤ i ∧ i < n) ∧ szT P el ≠ 0 ∧ K (.rp e xs j (off + i.toNat * szT P el))
  | .array n el, .ep t e j off, .int _ i => (0 ≤ i ∧ i < n) ∧ szT P el ≠ 0 ∧ K (.ep t e j (off + i.toNat * szT P el))
  | _, _, _ => False
def allN : Nat → (Nat → Prop) → Prop
  | 0, _ => True
  | n + 1, F => allN n F ∧ F n
def idxK (P : Program) (k : Kd) (x i : AV) (K : AV → Prop) : Prop :=
  match k, x, i with
  | .array n el, .agg l, .int _ i => (0 ≤ i ∧ i < n) ∧ (l.length = n * szT P el) ∧ allN n fun j => i = j → K (partA P el l (j * szT P el))
  | .str, .str s, .int _ i => (0 ≤ i ∧ i < s.length) ∧ K (.int .u8 (s.getD i.toNat 0).toNat)
  | _, _, _ => False
def loK (x : Option AV) (d : Int) (K : Int → Prop) : Prop :=
  match x with
  | none => K d
  | some (.int _ n) => K n
  | _ => False
def sliceK (P : Program) (k : Kd) (x : AV) (lo hi : Option AV) (K : AV → Prop) : Prop :=
  match k, x with
  | .slice el, .ro e xs => szT P el = e.sz ∧ loK lo 0 fun l => loK hi xs.length fun h => (0 ≤ l ∧ l ≤ h ∧ h ≤ xs.length) ∧ K (.ro e ((xs.take h.toNat).drop l.toNat))
  | .slice el, .sl t e s n => szT P el = e.sz ∧ loK lo 0 fun l => loK hi n fun h => (0 ≤ l ∧ l ≤ h ∧ h ≤ n) ∧ K (.sl t e (s + l.toNat) (h.toNat - l.toNat))
  | .slice el, .lit (.slice none 0 0) => szT P el ≠ 0 ∧ loK lo 0 fun l => loK hi 0 fun h => (l = 0 ∧ h = 0) ∧ K (.lit (.slice none 0 0))
  | .str, .str s => loK lo 0 fun l => loK hi s.length fun h => (0 ≤ l ∧ l ≤ h ∧ h ≤ s.length) ∧ K (.str ((s.take h.toNat).drop l.toNat))
  | _, _ => False
def nilCheckK (x : AV) (K : AV → Prop) : Prop :=
  match x with
  | .ptr t o => K (.ptr t o)
  | .ep t e i o => K (.ep t e i o)
  | .rp e xs i o => K (.rp e xs i o)
  | .fn f c => K (.fn f c)
  | _ => False
def extractK (x : AV) (i : Nat) (K : AV → Prop) : Prop :=
  match x with
  | .tup l => (match l[i]? with | some a => K a | none => False)
  | _ => False
def pickK (c a b : AV) (K : AV → Prop) : Prop :=
  match c with
  | .bool c => splitB c (K a) (K b)
  | _ => False
end Go.V
