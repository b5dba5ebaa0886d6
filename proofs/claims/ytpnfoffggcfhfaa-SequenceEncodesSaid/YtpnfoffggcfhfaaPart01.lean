/-
  The kinds of elements that slices hold in this seat, and how an element lies in cells.
  What the abstract values and memories of the verifier say of the machine's.
  Cells that decode to an element lie as the element does.
  The operations over abstract values.
  Soundness of the pure operations over abstract values.
-/
import Derived.WalkKit
import Derived.WalkSpells
import Derived.Laws.Cells
import Derived.Laws.Rows
import Derived.Laws.AppendOwn
import Derived.Below
import Derived.Laws.StructEq
import Derived.Laws.Cover3
set_option linter.unusedVariables false
set_option linter.unusedSimpArgs false
namespace Go.V

structure Cmd where
  src : Int
  num : Int
  srv : Int
  args : List Int
  data : List UInt8
deriving DecidableEq
structure Stp where
  kind : Int
  param : Int
  op : Int
  value : Int
  next : Int
  ticks : Int
  c : Cmd
deriving DecidableEq
structure Prg where
  id : Int
  res : Int
  steps : List Stp
  run : Bool
  pos : Int
  wt : Bool
  unt : Int
deriving DecidableEq
structure Pdf where
  id : Int
  width : Int
  signed : Bool
  value : Int
deriving DecidableEq
inductive Ety where
  | int | byte | str | bool | ints | cmd | stp | prg | pdf
deriving DecidableEq
abbrev Ety.T : Ety → Type
  | .int => Int
  | .byte => UInt8
  | .str => List UInt8
  | .bool => Bool
  | .ints => List Int
  | .cmd => Cmd
  | .stp => Stp
  | .prg => Prg
  | .pdf => Pdf

inductive AV : Type where
  | int (k : IntKind) (n : Int)
  | bool (b : Bool)
  | str (s : List UInt8)
  | lit (v : Value)
  | agg (l : List AV)
  | tup (l : List AV)
  | ptr (t off : Nat)
  | ep (t : Nat) (e : Ety) (i off : Nat)
  | sl (t : Nat) (e : Ety) (start len : Nat)
  | ro (e : Ety) (xs : List e.T)
  | rp (e : Ety) (xs : List e.T) (i off : Nat)
  | rc (e : Ety) (xs : List e.T)
  | fn (f : FuncId) (caps : List AV)
  | ifc (t : TypeId) (v : AV)
  | mp (t : Nat)
  | any

def asE (e e' : Ety) (xs : List e'.T) : Option (List e.T) := if h : e' = e then some (h ▸ xs) else none
/-- a slice that lies for good; the nil slice is one -/
def roA (e : Ety) : AV → Option (List e.T)
  | .ro e' xs => asE e e' xs
  | .lit (.slice none 0 0) => some []
  | _ => none
/-- the cells of a Cmd -/
def Cmd.cells (x : Cmd) : List AV := [.int .i64 x.src, .int .i64 x.num, .int .i64 x.srv, .ro .int x.args, .ro .byte x.data]
/-- the cells of a Stp -/
def Stp.cells (x : Stp) : List AV := [.int .i64 x.kind, .int .i64 x.param, .int .i64 x.op, .int .i64 x.value, .int .i64 x.next, .int .i64 x.ticks, .int .i64 x.c.src, .int .i64 x.c.num, .int .i64 x.c.srv, .ro .int x.c.args, .ro .byte x.c.data]
/-- the cells of a Prg -/
def Prg.cells (x : Prg) : List AV := [.int .i64 x.id, .int .i64 x.res, .ro .stp x.steps, .bool x.run, .int .i64 x.pos, .bool x.wt, .int .i64 x.unt]
/-- the cells of a Pdf -/
def Pdf.cells (x : Pdf) : List AV := [.int .i64 x.id, .int .i64 x.width, .bool x.signed, .int .i64 x.value]
def Ety.enc : (e : Ety) → e.T → List AV
  | .int, x => [.int .i64 x]
  | .byte, x => [.int .u8 x.toNat]
  | .str, x => [.str x]
  | .bool, x => [.bool x]
  | .ints, x => [.ro .int x]
  | .cmd, x => [.int .i64 x.src, .int .i64 x.num, .int .i64 x.srv, .ro .int x.args, .ro .byte x.data]
  | .stp, x => [.int .i64 x.kind, .int .i64 x.param, .int .i64 x.op, .int .i64 x.value, .int .i64 x.next, .int .i64 x.ticks, .int .i64 x.c.src, .int .i64 x.c.num, .int .i64 x.c.srv, .ro .int x.c.args, .ro .byte x.c.data]
  | .prg, x => [.int .i64 x.id, .int .i64 x.res, .ro .stp x.steps, .bool x.run, .int .i64 x.pos, .bool x.wt, .int .i64 x.unt]
  | .pdf, x => [.int .i64 x.id, .int .i64 x.width, .bool x.signed, .int .i64 x.value]
def Ety.sz : Ety → Nat
  | .int => 1
  | .byte => 1
  | .str => 1
  | .bool => 1
  | .ints => 1
  | .cmd => 5
  | .stp => 11
  | .prg => 7
  | .pdf => 4
def dec_int : List AV → Option (Int)
  | [.int .i64 v1] => some v1
  | _ => none
def dec_byte : List AV → Option (UInt8)
  | [.int .u8 v2] => some (UInt8.ofNat v2.toNat)
  | _ => none
def dec_str : List AV → Option (List UInt8)
  | [.str v3] => some v3
  | _ => none
def dec_bool : List AV → Option (Bool)
  | [.bool v4] => some v4
  | _ => none
def dec_ints : List AV → Option (List Int)
  | [v5] => (match roA .int v5 with | some v5' => some v5' | _ => none)
  | _ => none
def dec_cmd : List AV → Option (Cmd)
  | [.int .i64 v7, .int .i64 v8, .int .i64 v9, v10, v11] => (match roA .int v10, roA .byte v11 with | some v10', some v11' => some ⟨v7, v8, v9, v10', v11'⟩ | _, _ => none)
  | _ => none
def dec_stp : List AV → Option (Stp)
  | [.int .i64 v13, .int .i64 v14, .int .i64 v15, .int .i64 v16, .int .i64 v17, .int .i64 v18, .int .i64 v20, .int .i64 v21, .int .i64 v22, v23, v24] => (match roA .int v23, roA .byte v24 with | some v23', some v24' => some ⟨v13, v14, v15, v16, v17, v18, ⟨v20, v21, v22, v23', v24'⟩⟩ | _, _ => none)
  | _ => none
def dec_prg : List AV → Option (Prg)
  | [.int .i64 v26, .int .i64 v27, v28, .bool v29, .int .i64 v30, .bool v31, .int .i64 v32] => (match roA .stp v28 with | some v28' => some ⟨v26, v27, v28', v29, v30, v31, v32⟩ | _ => none)
  | _ => none
def dec_pdf : List AV → Option (Pdf)
  | [.int .i64 v34, .int .i64 v35, .bool v36, .int .i64 v37] => some ⟨v34, v35, v36, v37⟩
  | _ => none
/-- an element out of its cells -/
def Ety.dec : (e : Ety) → List AV → Option e.T
  | .int => dec_int
  | .byte => dec_byte
  | .str => dec_str
  | .bool => dec_bool
  | .ints => dec_ints
  | .cmd => dec_cmd
  | .stp => dec_stp
  | .prg => dec_prg
  | .pdf => dec_pdf
def okByte : List AV → Prop
  | [.int .u8 x] => 0 ≤ x ∧ x < 256
  | _ => True
/-- and the cells are those of the element -/
def Ety.decOk : (e : Ety) → List AV → Prop
  | .byte => okByte
  | _ => fun _ => True
def Ety.dflt : (e : Ety) → e.T
  | .int => (0 : Int)
  | .byte => (0 : UInt8)
  | .str => ([] : List UInt8)
  | .bool => (false : Bool)
  | .ints => ([] : List Int)
  | .cmd => (⟨0, 0, 0, [], []⟩ : Cmd)
  | .stp => (⟨0, 0, 0, 0, 0, 0, ⟨0, 0, 0, [], []⟩⟩ : Stp)
  | .prg => (⟨0, 0, [], false, 0, false, 0⟩ : Prg)
  | .pdf => (⟨0, 0, false, 0⟩ : Pdf)
/-- no slices within the elements -/
def Ety.flat : Ety → Bool
  | .int => true
  | .byte => true
  | .str => true
  | .bool => true
  | .ints => false
  | .cmd => false
  | .stp => false
  | .prg => false
  | .pdf => true
theorem Ety.enc_len (e : Ety) (x : e.T) : (e.enc x).length = e.sz := by cases e <;> rfl
theorem Ety.sz_pos (e : Ety) : 0 < e.sz := by cases e <;> decide
def AV.cell : AV → Bool
  | .agg _ | .tup _ | .any => false
  | .lit v => v.oneCell'
  | _ => true
/-- no address of the memory at hand -/
def AV.tf : AV → Bool
  | .int _ _ | .bool _ | .str _ | .lit _ | .ro _ _ => true
  | _ => false
/-- nor of what lies for good -/
def AV.ntf : AV → Bool
  | .int _ _ | .bool _ | .str _ | .lit _ => true
  | _ => false
theorem Ety.enc_tf (e : Ety) (x : e.T) : ∀ a ∈ e.enc x, a.tf = true := by cases e <;> simp [Ety.enc, AV.tf]
theorem Ety.enc_cell (e : Ety) (x : e.T) : ∀ a ∈ e.enc x, a.cell = true := by cases e <;> simp [Ety.enc, AV.cell]
theorem Ety.enc_flat (e : Ety) (he : e.flat = true) (x : e.T) : ∀ a ∈ e.enc x, a.ntf = true := by cases e <;> first | (simp [Ety.flat] at he; done) | simp [Ety.enc, AV.ntf]
theorem dec_len (e : Ety) (l : List AV) (x : e.T) (h : e.dec l = some x) : l.length = e.sz := by
  cases e <;> simp only [Ety.dec] at h
  · unfold dec_int at h; split at h <;> first | rfl | (simp at h; done)
  · unfold dec_byte at h; split at h <;> first | rfl | (simp at h; done)
  · unfold dec_str at h; split at h <;> first | rfl | (simp at h; done)
  · unfold dec_bool at h; split at h <;> first | rfl | (simp at h; done)
  · unfold dec_ints at h; split at h <;> first | rfl | (simp at h; done)
  · unfold dec_cmd at h; split at h <;> first | rfl | (simp at h; done)
  · unfold dec_stp at h; split at h <;> first | rfl | (simp at h; done)
  · unfold dec_prg at h; split at h <;> first | rfl | (simp at h; done)
  · unfold dec_pdf at h; split at h <;> first | rfl | (simp at h; done)
end Go.V

namespace Go.V

/-- what lies for good: blocks that nobody writes any more -/
abbrev RO := Nat → Option Obj
def RO.le (R R' : RO) : Prop := ∀ b o, R b = some o → R' b = some o
theorem RO.le.refl (R : RO) : R.le R := fun _ _ h => h
theorem RO.le.trans {A B C : RO} (h : A.le B) (k : B.le C) : A.le C := fun b o x => k b o (h b o x)

inductive Bind where
  | blk (b cap : Nat)
  | cel (b : Nat)
  | mp (b : Nat)
  | it (r m : Nat)
  | none
  | pack (l : List Bind)

/-- the block that a pointer to an object shows -/
def Bind.obj : Bind → Option Nat
  | .cel b => some b
  | .it r _ => some r
  | .pack (.cel b :: _) => some b
  | _ => .none

def nthA : List AV → Nat → AV
  | [], _ => .any
  | a :: _, 0 => a
  | _ :: l, n + 1 => nthA l n

/-- an object may be packed or open, its first block stays -/
def BLe (B B' : Bind) : Prop := B' = B ∨ ∃ b, B.obj = some b ∧ B'.obj = some b
theorem BLe.refl (B : Bind) : BLe B B := .inl rfl
theorem BLe.trans {A B C : Bind} (h : BLe A B) (k : BLe B C) : BLe A C := by
  rcases h with rfl | ⟨b, h1, h2⟩
  · exact k
  · rcases k with rfl | ⟨c, h3, h4⟩
    · exact .inr ⟨b, h1, h2⟩
    · rw [h2] at h3
      cases h3
      exact .inr ⟨b, h1, h4⟩
theorem BLe.obj {A B : Bind} (h : BLe A B) {b : Nat} (hb : A.obj = some b) : B.obj = some b := by
  rcases h with rfl | ⟨c, h1, h2⟩
  · exact hb
  · rw [hb] at h1
    cases h1
    exact h2
/-- one list goes on with what the other has -/
structure Ext (μ μ' : List Bind) : Prop where
  len : μ.length ≤ μ'.length
  get : ∀ {t : Nat} {B : Bind}, μ[t]? = some B → ∃ B', μ'[t]? = some B' ∧ BLe B B'
theorem Ext.refl (μ : List Bind) : Ext μ μ := ⟨Nat.le_refl _, fun h => ⟨_, h, .refl _⟩⟩
theorem Ext.trans {a b c : List Bind} (h : Ext a b) (k : Ext b c) : Ext a c :=
  ⟨Nat.le_trans h.len k.len, fun hb => by
    obtain ⟨B', h1, h2⟩ := h.get hb
    obtain ⟨B2, h3, h4⟩ := k.get h1
    exact ⟨B2, h3, h2.trans h4⟩⟩
theorem Ext.app (μ x : List Bind) : Ext μ (μ ++ x) := ⟨by simp, fun {t B} hb => ⟨B, by
  rw [List.getElem?_append_left (List.getElem?_eq_some_iff.1 hb).1]; exact hb, .refl _⟩⟩
theorem Ext.mp {μ μ' : List Bind} (h : Ext μ μ') {t b : Nat} (hb : μ[t]? = some (.mp b)) : μ'[t]? = some (.mp b) := by
  obtain ⟨B', h1, h2⟩ := h.get hb
  rcases h2 with rfl | ⟨_, h3, _⟩
  · exact h1
  · simp [Bind.obj] at h3
theorem Ext.nil (μ : List Bind) : Ext [] μ := ⟨by simp, fun h => by simp at h⟩
theorem Ext.blk {μ μ' : List Bind} (h : Ext μ μ') {t b c : Nat} (hb : μ[t]? = some (.blk b c)) : μ'[t]? = some (.blk b c) := by
  obtain ⟨B', h1, h2⟩ := h.get hb
  rcases h2 with rfl | ⟨_, h3, _⟩
  · exact h1
  · simp [Bind.obj] at h3

theorem Ext.none {μ μ' : List Bind} (h : Ext μ μ') {t : Nat} (hb : μ[t]? = some .none) : μ'[t]? = some .none := by
  obtain ⟨B', h1, h2⟩ := h.get hb
  rcases h2 with rfl | ⟨_, h3, _⟩
  · exact h1
  · simp [Bind.obj] at h3


namespace Go.V
theorem asE_self (e : Ety) (xs : List e.T) : asE e e xs = some xs := by simp [asE]
theorem asE_some {e e' : Ety} {xs : List e'.T} {ys : List e.T} (h : asE e e' xs = some ys) : ∃ he : e' = e, he ▸ xs = ys := by
  unfold asE at h
  split at h
  · rename_i he; exact ⟨he, by simpa using h⟩
  · simp at h
theorem roA_ok {R : RO} {μ : List Bind} {e : Ety} {a : AV} {xs : List e.T} {v : Value} (h : roA e a = some xs) (hr : Rel R μ a v) : Rel R μ (.ro e xs) v := by
  unfold roA at h
  split at h
  · obtain ⟨rfl, h⟩ := asE_some h
    subst h
    exact hr
  · simp only [Option.some.injEq] at h
    subst h
    cases hr
    exact .ro0 (Nat.zero_le _)
  · simp at h
theorem byte_rel {R : RO} {μ : List Bind} {x : Int} {v : Value} (h : Rel R μ (.int .u8 x) v) (ho : 0 ≤ x ∧ x < 256) : Rel R μ (.int .u8 (UInt8.ofNat x.toNat).toNat) v := by
  have : ((UInt8.ofNat x.toNat).toNat : Int) = x := by
    rw [show (UInt8.ofNat x.toNat).toNat = x.toNat from by simp; omega]
    omega
  rw [this]
  exact h
theorem Ety.dec_ok {R : RO} {μ : List Bind} (e : Ety) {l : List AV} {x : e.T} {vs : List Value} (h : e.dec l = some x) (ho : e.decOk l) (hr : LRel R μ l vs) : LRel R μ (e.enc x) vs := by
  cases e <;> simp only [Ety.dec] at h
  · unfold dec_int at h
    split at h
    · simp only [Option.some.injEq] at h
      subst h
      cases hr with | cons h0 hr =>
      cases hr
      exact .cons h0 <| .nil
    · simp at h
  · unfold dec_byte at h
    split at h
    · simp only [Option.some.injEq] at h
      subst h
      cases hr with | cons h0 hr =>
      cases hr
      exact .cons (byte_rel h0 ho) .nil
    · simp at h
  · unfold dec_str at h
    split at h
    · simp only [Option.some.injEq] at h
      subst h
      cases hr with | cons h0 hr =>
      cases hr
      exact .cons h0 <| .nil
    · simp at h
  · unfold dec_bool at h
    split at h
    · simp only [Option.some.injEq] at h
      subst h
      cases hr with | cons h0 hr =>
      cases hr
      exact .cons h0 <| .nil
    · simp at h
  · unfold dec_ints at h
    split at h
    · split at h
      · rename_i e0
        simp only [Option.some.injEq] at h
        subst h
        cases hr with | cons h0 hr =>
        cases hr
        exact .cons (roA_ok e0 h0) <| .nil
      · simp at h
    · simp at h
  · unfold dec_cmd at h
    split at h
    · split at h
      · rename_i e0 e1
        simp only [Option.some.injEq] at h
        subst h
        cases hr with | cons h0 hr =>
        cases hr with | cons h1 hr =>
        cases hr with | cons h2 hr =>
        cases hr with | cons h3 hr =>
        cases hr with | cons h4 hr =>
        cases hr
        exact .cons h0 <| .cons h1 <| .cons h2 <| .cons (roA_ok e0 h3) <| .cons (roA_ok e1 h4) <| .nil
      · simp at h
    · simp at h
  · unfold dec_stp at h
    split at h
    · split at h
      · rename_i e0 e1
        simp only [Option.some.injEq] at h
        subst h
        cases hr with | cons h0 hr =>
        cases hr with | cons h1 hr =>
        cases hr with | cons h2 hr =>
        cases hr with | cons h3 hr =>
        cases hr with | cons h4 hr =>
        cases hr with | cons h5 hr =>
        cases hr with | cons h6 hr =>
        cases hr with | cons h7 hr =>
        cases hr with | cons h8 hr =>
        cases hr with | cons h9 hr =>
        cases hr with | cons h10 hr =>
        cases hr
        exact .cons h0 <| .cons h1 <| .cons h2 <| .cons h3 <| .cons h4 <| .cons h5 <| .cons h6 <| .cons h7 <| .cons h8 <| .cons (roA_ok e0 h9) <| .cons (roA_ok e1 h10) <| .nil
      · simp at h
    · simp at h
  · unfold dec_prg at h
    split at h
    · split at h
      · rename_i e0
        simp only [Option.some.injEq] at h
        subst h
        cases hr with | cons h0 hr =>
        cases hr with | cons h1 hr =>
        cases hr with | cons h2 hr =>
        cases hr with | cons h3 hr =>
        cases hr with | cons h4 hr =>
        cases hr with | cons h5 hr =>
        cases hr with | cons h6 hr =>
        cases hr
        exact .cons h0 <| .cons h1 <| .cons (roA_ok e0 h2) <| .cons h3 <| .cons h4 <| .cons h5 <| .cons h6 <| .nil
      · simp at h
    · simp at h
  · unfold dec_pdf at h
    split at h
    · simp only [Option.some.injEq] at h
      subst h
      cases hr with | cons h0 hr =>
      cases hr with | cons h1 hr =>
      cases hr with | cons h2 hr =>
      cases hr with | cons h3 hr =>
      cases hr
      exact .cons h0 <| .cons h1 <| .cons h2 <| .cons h3 <| .nil
    · simp at h
end Go.V

namespace Go.V

/-! ### Facts on types -/
inductive Kd where
  | int (k : IntKind) | bool | str | slice (e : TypeId) | array (n : Nat) (e : TypeId) | struct | ptr | map (k e : TypeId) | iface | func | other
def kdT (P : Program) (t : TypeId) : Kd :=
  match P.underlying t with
  | some (.int k) => .int k
  | some .bool => .bool
  | some .string => .str
  | some (.slice e) => .slice e
  | some (.array n e) => .array n e
  | some (.struct _) => .struct
  | some (.pointer _) => .ptr
  | some (.map k e) => .map k e
  | some (.interface _) => .iface
  | some (.func _ _ _) => .func
  | _ => .other
def szT (P : Program) (t : TypeId) : Nat := match P.info? t with | some i => i.size | none => 0
def bytesT (P : Program) (t : TypeId) : Nat := match P.info? t with | some i => i.bytes | none => 0
/-- offset, type of a field; its type's size is not 0 -/
def fldT (P : Program) (s f : Nat) : Option (Nat × TypeId) :=
  match P.underlying s with
  | some (.struct fs) => (match fs[f]? with
    | some x => if szT P x.type = 0 then none else some (x.offset, x.type)
    | none => none)
  | _ => none
def ofV : Value → AV
  | .int k n => .int k n
  | .bool b => .bool b
  | .string s => .str s.data.toList
  | v => .lit v
def zeroT (P : Program) (t : TypeId) : Option (List AV) := match P.info? t with | some i => (match i.zero with | some z => some (z.cells.toList.map ofV) | none => none) | none => none
/-- the kinds of elements that slices of a type hold -/
class ETab where
  of : TypeId → Option Ety
  mof : TypeId → Option (KTy × Ety) := fun _ => none

theorem ofV_rel (R : RO) (μ : List Bind) (v : Value) : Rel R μ (ofV v) v := by
  unfold ofV
  split
  · exact .int
  · exact .bool
  · rename_i s
    have : s = ⟨s.data.toList.toArray⟩ := by cases s; simp
    conv => rhs; rw [this]
    exact .str
  · exact .lit
theorem ofV_rels (R : RO) (μ : List Bind) : ∀ l : List Value, LRel R μ (l.map ofV) l
  | [] => .nil
  | v :: l => .cons (ofV_rel R μ v) (ofV_rels R μ l)

/-! ### Operands -/
def evA (tm : List AV) : Operand → AV
  | .tmp t => nthA tm t
  | .const v => ofV v
  | .func f => .fn f []
  | .global _ => .any
theorem nthA_none : ∀ (l : List AV) (n : Nat), l.length ≤ n → nthA l n = .any
  | [], _, _ => rfl
  | _ :: l, n + 1, h => nthA_none l n (by simpa using h)
  | _ :: _, 0, h => by simp at h
theorem evA_rel {R : RO} {μ : List Bind} {tm : List AV} {a : Act} (h : LRel R μ tm a.tmps.toList) (x : Operand) : Rel R μ (evA tm x) (a.eval x) := by
  cases x with
  | tmp t =>
    unfold evA Act.eval
    simp only [Array.getD_eq_getD_getElem?]
    cases e : a.tmps[t]? with
    | some v => exact h.nth t (by simpa using e)
    | none =>
      rw [nthA_none tm t (by rw [h.len]; simpa using e)]
      exact .any
  | const v => exact ofV_rel R μ v
  | func f => exact .fn .nil
  | global g => exact .any

/-! ### Pure operations -/
def splitB (b : Bool) (A B : Prop) : Prop := (b = true → A) ∧ (b = false → B)
theorem splitB_true (A B : Prop) : splitB true A B = A := by simp [splitB]
theorem splitB_false (A B : Prop) : splitB false A B = B := by simp [splitB]
theorem splitB_ite {b : Bool} {A B : Prop} (h : splitB b A B) : if b then A else B := by
  cases b
  · exact h.2 rfl
  · exact h.1 rfl

def bitsI (op : BinOp) (k : IntKind) (x y : Int) : Int :=
  match op with
  | .and => k.wrap (BitVec.ofInt k.bits x &&& BitVec.ofInt k.bits y).toNat
  | .or => k.wrap (BitVec.ofInt k.bits x ||| BitVec.ofInt k.bits y).toNat
  | .xor => k.wrap (BitVec.ofInt k.bits x ^^^ BitVec.ofInt k.bits y).toNat
  | _ => k.wrap (BitVec.ofInt k.bits x &&& ~~~BitVec.ofInt k.bits y).toNat
def ibin (op : BinOp) (k : IntKind) (a b : Int) (K : AV → Prop) : Prop :=
  match op with
  | .add => K (.int k (k.wrap (a + b)))
  | .sub => K (.int k (k.wrap (a - b)))
  | .mul => K (.int k (k.wrap (a * b)))
  | .quo => b ≠ 0 ∧ K (.int k (k.wrap (a.tdiv b)))
  | .rem => b ≠ 0 ∧ K (.int k (a.tmod b))
  | .and => K (.int k (bitsI .and k a b))
  | .or => K (.int k (bitsI .or k a b))
  | .xor => K (.int k (bitsI .xor k a b))
  | .andNot => K (.int k (bitsI .andNot k a b))
  | .eql => K (.bool (decide (a = b)))
  | .neq => K (.bool (decide (a ≠ b)))
  | .lss => K (.bool (decide (a < b)))
  | .leq => K (.bool (decide (a ≤ b)))
  | .gtr => K (.bool (decide (b < a)))
  | .geq => K (.bool (decide (b ≤ a)))
  | _ => False
def sbin (op : BinOp) (s t : List UInt8) (K : AV → Prop) : Prop :=
  match op with
  | .eql => K (.bool (decide (s = t)))
  | .neq => K (.bool (decide (s ≠ t)))
  | .lss => K (.bool (Op.bytesLess s t))
  | .add => (s.length + t.length ≤ 9223372036854775807) ∧ K (.str (s ++ t))
  | _ => False
def eqK (k : Kd) (x y : AV) (K : Bool → Prop) : Prop :=
  match k, x, y with
  | .bool, .bool a, .bool b => K (decide (a = b))
  | .ptr, .ptr _ _, .lit (.pointer none) => K false
  | .ptr, .lit (.pointer none), .ptr _ _ => K false
  | .ptr, .lit (.pointer none), .lit (.pointer none) => K true
  | .map _ _, .mp _, .lit (.map none) => K false
  | .map _ _, .lit (.map none), .lit (.map none) => K true
  | _, _, _ => False
def shK (op : BinOp) (k : IntKind) (a b : Int) (K : AV → Prop) : Prop :=
  match op with
  | .shl => (0 ≤ b) ∧ K (.int k (k.wrap (a * 2 ^ (min b.toNat k.bits))))
  | _ => (0 ≤ b) ∧ K (.int k (a.fdiv (2 ^ (min b.toNat k.bits))))
def eqCell (k : Kd) (x y : AV) : Option Bool :=
  match k, x, y with
  | .int _, .int k a, .int k' b => if k = k' then some (decide (a = b)) else none
  | .bool, .bool a, .bool b => some (decide (a = b))
  | .str, .str a, .str b => some (decide (a = b))
  | _, _, _ => none
def eqFlds (P : Program) (l m : List AV) : List (Nat × TypeId) → Option Bool
  | [] => some true
  | f :: r => match eqCell (kdT P f.2) (nthA l f.1) (nthA m f.1) with
    | some a => (match eqFlds P l m r with | some b => some (a && b) | none => none)
    | none => none
/-- fields that a comparison of two structs looks at -/
def fldsT (P : Program) (t : TypeId) : Option (List (Nat × TypeId)) :=
  match P.underlying t with
  | some (.struct fs) => if P.stoodInHeld t = false ∧ P.eqGuardType P.depth t = false ∧ (fs.toList.all fun f => f.name != "_") = true then some (fs.toList.map fun f => (f.offset, f.type)) else none
  | _ => none
def eqSK (P : Program) (t : TypeId) (l m : List AV) (K : Bool → Prop) : Prop :=
  match fldsT P t with
  | some fs => (match eqFlds P l m fs with | some b => K b | none => False)
  | none => False
def eqNK (x : AV) (K : Bool → Prop) : Prop :=
  match x with
  | .lit (.slice none 0 0) => K true
  | .ro _ xs => (xs = [] → K true) ∧ K false
  | .sl _ _ _ n => (n = 0 → K true) ∧ K false
  | _ => False
def binK (P : Program) (op : BinOp) (t : TypeId) (x y : AV) (K : AV → Prop) : Prop :=
  match op, x, y with
  | .shl, .int k a, .int _ b => shK .shl k a b K
  | .shr, .int k a, .int _ b => shK .shr k a b K
  | _, .int k a, .int k' b => k = k' ∧ ibin op k a b K
  | _, .str s, .str t => sbin op s t K
  | .eql, .agg l, .agg m => eqSK P t l m fun b => K (.bool b)
  | .neq, .agg l, .agg m => eqSK P t l m fun b => K (.bool (!b))
  | .eql, x, .lit (.slice none 0 0) => (∃ e, kdT P t = .slice e) ∧ eqNK x fun b => K (.bool b)
  | .neq, x, .lit (.slice none 0 0) => (∃ e, kdT P t = .slice e) ∧ eqNK x fun b => K (.bool (!b))
  | .eql, x, y => eqK (kdT P t) x y fun b => K (.bool b)
  | .neq, x, y => eqK (kdT P t) x y fun b => K (.bool (!b))
  | _, _, _ => False
def unK (op : UnOp) (x : AV) (K : AV → Prop) : Prop :=
  match op, x with
  | .not, .bool b => K (.bool (!b))
  | .neg, .int k n => K (.int k (k.wrap (0 - n)))
  | .xor, .int k n => K (.int k (bitsI .xor k (if k.signed then -1 else k.max) n))
  | _, _ => False
def convK (src dst : Kd) (x : AV) (K : AV → Prop) : Prop :=
  match src, dst, x with
  | _, .int k, .int _ n => K (.int k (k.wrap n))
  | .str, .str, .str s => K (.str s)
  | _, _, _ => False
def partA (P : Program) (t : TypeId) (l : List AV) (off : Nat) : AV :=
  match kdT P t with
  | .struct => .agg ((l.drop off).take (szT P t))
  | .array _ _ => .agg ((l.drop off).take (szT P t))
  | _ => nthA l off
def fldAddrK (f : Option (Nat × TypeId)) (x : AV) (K : AV → Prop) : Prop :=
  match f, x with
  | some (o, _), .ptr t off => K (.ptr t (off + o))
  | some (o, _), .ep t e i off => K (.ep t e i (off + o))
  | some (o, _), .rp e xs i off => K (.rp e xs i (off + o))
  | _, _ => False
def idxAddrK (P : Program) (k : Kd) (x i : AV) (K : AV → Prop) : Prop :=
  match k, x, i with
  | .slice el, .ro e xs, .int _ i => (0 ≤ i ∧ i < xs.length) ∧ szT P el = e.sz ∧ K (.rp e xs i.toNat 0)
  | .slice el, .sl t e s n, .int _ i => (0 ≤ i ∧ i < n) ∧ szT P el = e.sz ∧ K (.ep t e (s + i.toNat) 0)
  | .array n el, .ptr t off, .int _ i => (0 ≤ i ∧ i < n) ∧ szT P el ≠ 0 ∧ K (.ptr t (off + i.toNat * szT P el))
  | .array n el, .rp e xs j off, .int _ i => (0 ≤ i ∧ i < n) ∧ szT P el ≠ 0 ∧ K (.rp e xs j (off + i.toNat * szT P el))
  | .array n el, .ep t e j off, .int _ i => (0 ≤ i ∧ i < n) ∧ szT P el ≠ 0 ∧ K (.ep t e j (off + i.toNat * szT P el))
  | _, _, _ => False
def allN : Nat → (Nat → Prop) → Prop
  | 0, _ => True
  | n + 1, F => allN n F ∧ F n
def idxK (P : Program) (k : Kd) (x i : AV) (K : AV → Prop) : Prop :=
  match k, x, i with
  | .array n el, .agg l, .int _ i => (0 ≤ i ∧ i < n) ∧ (l.length = n * szT P el) ∧ allN n fun j => i = j → K (partA P el l (j * szT P el))
  | .str, .str s, .int _ i => (0 ≤ i ∧ i < s.length) ∧ K (.int .u8 (s.getD i.toNat 0).toNat)
  | _, _, _ => False
def loK (x : Option AV) (d : Int) (K : Int → Prop) : Prop :=
  match x with
  | none => K d
  | some (.int _ n) => K n
  | _ => False
def sliceK (P : Program) (k : Kd) (x : AV) (lo hi : Option AV) (K : AV → Prop) : Prop :=
  match k, x with
  | .slice el, .ro e xs => szT P el = e.sz ∧ loK lo 0 fun l => loK hi xs.length fun h => (0 ≤ l ∧ l ≤ h ∧ h ≤ xs.length) ∧ K (.ro e ((xs.take h.toNat).drop l.toNat))
  | .slice el, .sl t e s n => szT P el = e.sz ∧ loK lo 0 fun l => loK hi n fun h => (0 ≤ l ∧ l ≤ h ∧ h ≤ n) ∧ K (.sl t e (s + l.toNat) (h.toNat - l.toNat))
  | .str, .str s => loK lo 0 fun l => loK hi s.length fun h => (0 ≤ l ∧ l ≤ h ∧ h ≤ s.length) ∧ K (.str ((s.take h.toNat).drop l.toNat))
  | _, _ => False
def nilCheckK (x : AV) (K : AV → Prop) : Prop :=
  match x with
  | .ptr t o => K (.ptr t o)
  | .ep t e i o => K (.ep t e i o)
  | .rp e xs i o => K (.rp e xs i o)
  | .fn f c => K (.fn f c)
  | _ => False
def extractK (x : AV) (i : Nat) (K : AV → Prop) : Prop :=
  match x with
  | .tup l => (match l[i]? with | some a => K a | none => False)
  | _ => False
def pickK (c a b : AV) (K : AV → Prop) : Prop :=
  match c with
  | .bool c => splitB c (K a) (K b)
  | _ => False
end Go.V

namespace Go.V

/-- a value that the machine computes without looking at the world -/
def Gives (P : Program) (R : RO) (μ : List Bind) (K : AV → Prop) (s : Sem Value) : Prop :=
  ∃ v av, K av ∧ Rel R μ av v ∧ ∀ w, s.run P w = .ok v w
theorem Gives.mk {P : Program} {R : RO} {μ : List Bind} {K : AV → Prop} {s : Sem Value} {v : Value} {av : AV} (h : K av) (hr : Rel R μ av v) (hs : ∀ w, s.run P w = .ok v w) : Gives P R μ K s := ⟨v, av, h, hr, hs⟩

variable {P : Program} {R : RO} {μ : List Bind} {K : AV → Prop}

theorem shK_ok {op : BinOp} (hop : op = .shl ∨ op = .shr) {k yk : IntKind} {a b : Int} {s : Sem Value} (h : shK op k a b K) (hs : s = Op.shift op k a yk b) : Gives P R μ K s := by
  subst hs
  rcases hop with rfl | rfl
  · obtain ⟨h1, h2⟩ := h
    exact .mk h2 .int fun w => by simp [Op.shift, show ¬ b < 0 from by omega]
  · obtain ⟨h1, h2⟩ := h
    exact .mk h2 .int fun w => by simp [Op.shift, show ¬ b < 0 from by omega]
theorem ibin_ok {op : BinOp} {t : TypeId} {k : IntKind} {a b : Int} (hop : op ≠ .shl ∧ op ≠ .shr) (h : ibin op k a b K) : Gives P R μ K (binOp op t (.int k a) (.int k b)) := by
  unfold ibin at h
  cases op <;> simp only at h
  case add => exact .mk h .int fun w => by simp [binOp, Op.intArith]
  case sub => exact .mk h .int fun w => by simp [binOp, Op.intArith]
  case mul => exact .mk h .int fun w => by simp [binOp, Op.intArith]
  case quo => exact .mk h.2 .int fun w => by simp [binOp, Op.intDiv, h.1]
  case rem => exact .mk h.2 .int fun w => by simp [binOp, Op.intDiv, h.1]
  case and => exact .mk h .int fun w => by simp [binOp, Op.intBits, bitsI]
  case or => exact .mk h .int fun w => by simp [binOp, Op.intBits, bitsI]
  case xor => exact .mk h .int fun w => by simp [binOp, Op.intBits, bitsI]
  case andNot => exact .mk h .int fun w => by simp [binOp, Op.intBits, bitsI]
  case eql => exact .mk h .bool fun w => by simp [binOp, Op.intCmp]; by_cases e : a = b <;> simp [e]
  case neq => exact .mk h .bool fun w => by simp [binOp, Op.intCmp]; by_cases e : a = b <;> simp [e]
  case lss => exact .mk h .bool fun w => by simp [binOp, Op.intCmp]
  case leq => exact .mk h .bool fun w => by simp [binOp, Op.intCmp]
  case gtr => exact .mk h .bool fun w => by simp [binOp, Op.intCmp]
  case geq => exact .mk h .bool fun w => by simp [binOp, Op.intCmp]
theorem ba_toList (l : List UInt8) : (⟨l.toArray⟩ : ByteArray).toList = l := by
  rw [ByteArray.toList_eq]
theorem sbin_ok {op : BinOp} {t : TypeId} {x y : List UInt8} (h : sbin op x y K) : Gives P R μ K (binOp op t (.string ⟨x.toArray⟩) (.string ⟨y.toArray⟩)) := by
  unfold sbin at h
  cases op <;> simp only at h
  case eql => exact .mk h .bool fun w => by simp [binOp, Op.stringOp]; by_cases e : x = y <;> simp [e]
  case neq => exact .mk h .bool fun w => by simp [binOp, Op.stringOp]; by_cases e : x = y <;> simp [e]
  case lss => exact .mk h .bool fun w => by simp [binOp, Op.stringOp]
  case add =>
    obtain ⟨h1, h2⟩ := h
    refine .mk h2 .str fun w => ?_
    have e : (ByteArray.mk x.toArray).size = x.length := by simp [ByteArray.size]
    have e2 : (ByteArray.mk y.toArray).size = y.length := by simp [ByteArray.size]
    have e3 : (ByteArray.mk x.toArray) ++ (ByteArray.mk y.toArray) = ByteArray.mk (x ++ y).toArray := by
      apply ByteArray.ext
      simp [ByteArray.data_append]
    simp only [binOp, Op.stringOp, e, e2, e3]
    rw [if_neg]
    · rfl
    · show ¬ (((x.length + y.length : Nat) : Int) > IntKind.i64.max)
      have : IntKind.i64.max = 9223372036854775807 := by decide
      omega
theorem eqIn_bool {t : TypeId} (hu : P.underlying t = some .bool) (d : Nat) (a b : Bool) (w : World) : (Op.equalIn (d + 1) t (.bool a) (.bool b)).run P w = .ok (a == b) w := by
  simp [Op.equalIn, run_underlying hu]
theorem eqIn_ptr {t e : TypeId} (hu : P.underlying t = some (.pointer e)) (d : Nat) (b : Option Addr) (w : World) : (Op.equalIn (d + 1) t (.pointer none) (.pointer b)).run P w = .ok b.isNone w := by
  simp [Op.equalIn, run_underlying hu]
theorem eqIn_ptr' {t e : TypeId} (hu : P.underlying t = some (.pointer e)) (d : Nat) (b : Addr) (w : World) : (Op.equalIn (d + 1) t (.pointer (some b)) (.pointer none)).run P w = .ok false w := by
  simp [Op.equalIn, run_underlying hu]
theorem kd_bool {t : TypeId} (h : kdT P t = .bool) : P.underlying t = some .bool := by
  unfold kdT at h; split at h <;> simp_all
theorem kd_ptr {t : TypeId} (h : kdT P t = .ptr) : ∃ e, P.underlying t = some (.pointer e) := by
  unfold kdT at h; split at h <;> simp_all
theorem kd_mapE {t k e : TypeId} (h : kdT P t = .map k e) : P.underlying t = some (.map k e) := by
  unfold kdT at h; split at h <;> simp_all
theorem eqIn_map {t k e : TypeId} (hu : P.underlying t = some (.map k e)) (d : Nat) (b : Nat) (w : World) : (Op.equalIn (d + 1) t (.map (some b)) (.map none)).run P w = .ok false w := by
  simp [Op.equalIn, run_underlying hu]
theorem eqIn_map0 {t k e : TypeId} (hu : P.underlying t = some (.map k e)) (d : Nat) (w : World) : (Op.equalIn (d + 1) t (.map none) (.map none)).run P w = .ok true w := by
  simp [Op.equalIn, run_underlying hu]
theorem eqK_ok {t : TypeId} {x y : AV} {vx vy : Value} {F : Bool → Prop} (hx : Rel R μ x vx) (hy : Rel R μ y vy) (h : eqK (kdT P t) x y F) :
    ∃ b, F b ∧ (∀ w, (Op.equal t vx vy).run P w = .ok b w) ∧ (∀ op X Y w, (eqGuard op t X Y vx vy).run P w = .ok () w) ∧ (binOp .eql t vx vy = (do pure (.bool (← Op.equal t vx vy)))) ∧ (binOp .neq t vx vy = (do pure (.bool (!(← Op.equal t vx vy))))) := by
  unfold eqK at h
  split at h
  · rename_i hk
    cases hx; cases hy
    rename_i b c
    refine ⟨_, h, fun w => ?_, fun op X Y w => ?_, rfl, rfl⟩
    · rw [show decide (b = c) = (b == c) from by by_cases e : b = c <;> simp [e]]
      exact eqIn_bool (kd_bool hk) 9999 _ _ w
    · cases op <;> rfl
  · rename_i hk
    obtain ⟨e, hu⟩ := kd_ptr hk
    cases hx; cases hy
    exact ⟨_, h, fun w => eqIn_ptr' hu 9999 _ w, fun op X Y w => by cases op <;> rfl, rfl, rfl⟩
  · rename_i hk
    obtain ⟨e, hu⟩ := kd_ptr hk
    cases hx; cases hy
    exact ⟨_, h, fun w => eqIn_ptr hu 9999 _ w, fun op X Y w => by cases op <;> rfl, rfl, rfl⟩
  · rename_i hk
    obtain ⟨e, hu⟩ := kd_ptr hk
    cases hx; cases hy
    exact ⟨_, h, fun w => eqIn_ptr hu 9999 _ w, fun op X Y w => by cases op <;> rfl, rfl, rfl⟩
  · rename_i hk
    cases hx; cases hy
    exact ⟨_, h, fun w => eqIn_map (kd_mapE hk) 9999 _ w, fun op X Y w => by cases op <;> rfl, rfl, rfl⟩
  · rename_i hk
    cases hx; cases hy
    exact ⟨_, h, fun w => eqIn_map0 (kd_mapE hk) 9999 w, fun op X Y w => by cases op <;> rfl, rfl, rfl⟩
  · exact h.elim

theorem eqGuard_int (op : BinOp) (t : TypeId) (X Y : Operand) (k k' : IntKind) (a b : Int) (w : World) : (eqGuard op t X Y (.int k a) (.int k' b)).run P w = .ok () w := by
  cases op <;> rfl
theorem eqGuard_str (op : BinOp) (t : TypeId) (X Y : Operand) (a b : ByteArray) (w : World) : (eqGuard op t X Y (.string a) (.string b)).run P w = .ok () w := by
  cases op <;> rfl
theorem Gives.guard {s : Sem Unit} {q : Sem Value} (hs : ∀ w, s.run P w = .ok () w) (h : Gives P R μ K q) : Gives P R μ K (do s; q) := by
  obtain ⟨v, av, h1, h2, h3⟩ := h
  exact ⟨v, av, h1, h2, fun w => by rw [Sem.run_bind, hs, Result.andThen_ok, h3]⟩

theorem kd_int {t : TypeId} {k : IntKind} (h : kdT P t = .int k) : P.underlying t = some (.int k) := by
  unfold kdT at h; split at h <;> simp_all
theorem kd_str {t : TypeId} (h : kdT P t = .str) : P.underlying t = some .string := by
  unfold kdT at h; split at h <;> simp_all
theorem kd_slice {t : TypeId} {e : TypeId} (h : kdT P t = .slice e) : P.underlying t = some (.slice e) := by
  unfold kdT at h; split at h <;> simp_all
theorem kd_array {t : TypeId} {n : Nat} {e : TypeId} (h : kdT P t = .array n e) : P.underlying t = some (.array n e) := by
  unfold kdT at h; split at h <;> simp_all
theorem kd_struct {t : TypeId} (h : kdT P t = .struct) : ∃ fs, P.underlying t = some (.struct fs) := by
  unfold kdT at h; split at h <;> simp_all
theorem kd_ne {t : TypeId} (h : kdT P t ≠ .other) : ∃ d, P.underlying t = some d := by
  unfold kdT at h
  cases hu : P.underlying t with
  | some d => exact ⟨d, rfl⟩
  | none => simp [hu] at h

def aggD : TypeDesc → Bool
  | .struct _ => true
  | .array _ _ => true
  | _ => false
theorem run_isAgg {t : TypeId} {d : TypeDesc} (hd : P.underlying t = some d) (w : World) : (isAgg t).run P w = .ok (aggD d) w := by
  simp only [isAgg, Sem.run_bind, run_underlying hd, Result.andThen_ok]
  cases d <;> rfl
theorem part_one {t : TypeId} {d : TypeDesc} (hd : P.underlying t = some d) (ha : aggD d = false) {vs : Array Value} {off : Nat} {v : Value} (hv : vs[off]? = some v) (w : World) : (part t vs off).run P w = .ok v w := by
  simp only [part, Sem.run_bind, run_isAgg hd, ha, Result.andThen_ok, if_false, hv, Sem.run_pure, Bool.false_eq_true]
theorem nth_some {l : List AV} {vs : List Value} (hl : LRel R μ l vs) {o : Nat} {a : AV} (h : nthA l o = a) (ha : a ≠ .any) : ∃ v, vs[o]? = some v ∧ Rel R μ a v := by
  cases e : vs[o]? with
  | some v => exact ⟨v, rfl, h ▸ hl.nth o e⟩
  | none =>
    have : l.length ≤ o := by rw [hl.len]; simpa using e
    rw [nthA_none l o this] at h
    exact absurd h.symm ha
theorem eqCell_ok {t : TypeId} {x y : AV} {vx vy : Value} {b : Bool} (hx : Rel R μ x vx) (hy : Rel R μ y vy) (h : eqCell (kdT P t) x y = some b) (d : Nat) (w : World) : (Op.equalIn (d + 1) t vx vy).run P w = .ok b w := by
  unfold eqCell at h
  split at h
  · rename_i k1 k2 a k3 c hk
    split at h
    · rename_i hkk
      subst hkk
      cases hx; cases hy
      simp only [Option.some.injEq] at h
      rw [run_equalIn_int w d t _ _ _ _ (kd_int hk), ← h]
      by_cases e : a = c <;> simp [e]
    · simp at h
  · rename_i a c hk
    cases hx; cases hy
    simp only [Option.some.injEq] at h
    rw [run_equalIn_bool' w d t _ _ (kd_bool hk), ← h]
    by_cases e : a = c <;> simp [e]
  · rename_i a c hk
    cases hx; cases hy
    simp only [Option.some.injEq] at h
    rw [run_equalIn_string w d t _ _ (kd_str hk), ← h]
    rw [ba_toList, ba_toList]
    by_cases e : a = c <;> simp [e]
  · simp at h
theorem eqCell_kd {k : Kd} {x y : AV} {b : Bool} (h : eqCell k x y = some b) : x ≠ .any ∧ y ≠ .any ∧ (k = .bool ∨ k = .str ∨ ∃ i, k = .int i) := by
  unfold eqCell at h
  split at h
  · exact ⟨by simp, by simp, .inr (.inr ⟨_, rfl⟩)⟩
  · exact ⟨by simp, by simp, .inl rfl⟩
  · exact ⟨by simp, by simp, .inr (.inl rfl)⟩
  · simp at h
theorem eqFlds_ok {l m : List AV} {us vs : List Value} (hl : LRel R μ l us) (hm : LRel R μ m vs) (d : Nat) (w : World) : ∀ (fs : List Field) {b : Bool}, (fs.all fun f => f.name != "_") = true → eqFlds P l m (fs.map fun f => (f.offset, f.type)) = some b → (Op.eqFields (d + 1) us.toArray vs.toArray fs).run P w = .ok b w
  | [], b, _, h => by
    simp only [List.map_nil, eqFlds, Option.some.injEq] at h
    subst h
    simp [Op.eqFields]
  | f :: fs, b, hn, h => by
    simp only [List.all_cons, Bool.and_eq_true, bne_iff_ne, ne_eq] at hn
    simp only [List.map_cons, eqFlds] at h
    split at h
    · rename_i a ha
      split at h
      · rename_i c hc
        simp only [Option.some.injEq] at h
        obtain ⟨hx, hy, hk⟩ := eqCell_kd ha
        obtain ⟨u, hu, hru⟩ := nth_some hl rfl hx
        obtain ⟨v, hv, hrv⟩ := nth_some hm rfl hy
        have hd : ∃ d, P.underlying f.type = some d ∧ aggD d = false := by
          rcases hk with hk | hk | ⟨i, hk⟩
          · exact ⟨_, kd_bool hk, rfl⟩
          · exact ⟨_, kd_str hk, rfl⟩
          · exact ⟨_, kd_int hk, rfl⟩
        obtain ⟨td, htd, hag⟩ := hd
        have ih := eqFlds_ok hl hm d w fs hn.2 hc
        simp only [Op.eqFields, hn.1, ne_eq, not_false_eq_true, if_true, Sem.run_bind, part_one htd hag (show us.toArray[f.offset]? = some u by simpa using hu), part_one htd hag (show vs.toArray[f.offset]? = some v by simpa using hv), Result.andThen_ok, eqCell_ok hru hrv ha d w]
        cases a
        · simp [← h]
        · simpa [← h] using ih
      · simp at h
    · simp at h
theorem eqSK_ok {t : TypeId} {l m : List AV} {us vs : List Value} {F : Bool → Prop} (hl : LRel R μ l us) (hm : LRel R μ m vs) (h : eqSK P t l m F) : ∃ b, F b ∧ (∀ w, (Op.equal t (.agg us.toArray) (.agg vs.toArray)).run P w = .ok b w) ∧ ∀ op X Y w, (eqGuard op t X Y (.agg us.toArray) (.agg vs.toArray)).run P w = .ok () w := by
  unfold eqSK at h
  split at h
  · rename_i fs hf
    split at h
    · rename_i b hb
      unfold fldsT at hf
      split at hf
      · rename_i fds hu
        split at hf
        · rename_i hc
          simp only [Option.some.injEq] at hf
          subst hf
          have hfo : P.fieldsOf t = fds := by unfold Program.fieldsOf; rw [hu]
          refine ⟨b, h, fun w => ?_, fun op X Y w => run_eqGuard_agg w op t X Y _ _ hc.2.1⟩
          show (Op.equalIn (9999 + 1) t _ _).run P w = _
          rw [run_equalIn_struct w 9999 t _ _ (by rw [hfo]; exact hu) hc.1, hfo]
          exact eqFlds_ok hl hm 9998 w _ hc.2.2 hb
        · simp at hf
      · simp at hf
    · exact h.elim
  · exact h.elim
theorem eqNK_ok {t e : TypeId} (hk : kdT P t = .slice e) {x : AV} {vx : Value} {F : Bool → Prop} (hx : Rel R μ x vx) (h : eqNK x F) : ∃ b, F b ∧ (∀ w, (Op.equal t vx (.slice none 0 0)).run P w = .ok b w) ∧ (∀ op X Y w, (eqGuard op t X Y vx (.slice none 0 0)).run P w = .ok () w) ∧ (binOp .eql t vx (.slice none 0 0) = (do pure (.bool (← Op.equal t vx (.slice none 0 0))))) ∧ (binOp .neq t vx (.slice none 0 0) = (do pure (.bool (!(← Op.equal t vx (.slice none 0 0)))))) := by
  have key : ∀ (a : Option Addr) (n c : Nat), (∀ w, (Op.equal t (.slice a n c) (.slice none 0 0)).run P w = .ok a.isNone w) ∧ (∀ op X Y w, (eqGuard op t X Y (.slice a n c) (.slice none 0 0)).run P w = .ok () w) ∧ (binOp .eql t (.slice a n c) (.slice none 0 0) = (do pure (.bool (← Op.equal t (.slice a n c) (.slice none 0 0))))) ∧ (binOp .neq t (.slice a n c) (.slice none 0 0) = (do pure (.bool (!(← Op.equal t (.slice a n c) (.slice none 0 0)))))) :=
    fun a n c => ⟨fun w => run_equal_slice_nil w t e a n c (kd_slice hk), fun op X Y w => by cases op <;> rfl, rfl, rfl⟩
  unfold eqNK at h
  split at h
  · cases hx
    exact ⟨true, h, key none 0 0⟩
  · cases hx with
    | ro hb hl hc hm => exact ⟨false, h.2, key _ _ _⟩
    | ro0 =>
      rename_i a c _
      cases a with
      | none => exact ⟨true, h.1 rfl, key _ _ _⟩
      | some a => exact ⟨false, h.2, key _ _ _⟩
  · cases hx with
    | sl => exact ⟨false, h.2, key _ _ _⟩
    | sl0 =>
      rename_i a _
      cases a with
      | none => exact ⟨true, h.1 rfl, key _ _ _⟩
      | some a => exact ⟨false, h.2, key _ _ _⟩
  · exact h.elim

theorem binK_ok {op : BinOp} {t : TypeId} {X Y : Operand} {x y : AV} {vx vy : Value} (hx : Rel R μ x vx) (hy : Rel R μ y vy) (h : binK P op t x y K) :
    Gives P R μ K (do eqGuard op t X Y vx vy; binOp op t vx vy) := by
  unfold binK at h
  split at h
  · cases hx; cases hy; exact .guard (eqGuard_int _ _ _ _ _ _ _ _) (shK_ok (yk := .i64) (.inl rfl) h rfl)
  · cases hx; cases hy; exact .guard (eqGuard_int _ _ _ _ _ _ _ _) (shK_ok (yk := .i64) (.inr rfl) h rfl)
  · rename_i h1 h2
    have hop : op ≠ .shl ∧ op ≠ .shr := ⟨h1, h2⟩
    cases hx; cases hy
    obtain ⟨rfl, h⟩ := h
    exact .guard (eqGuard_int _ _ _ _ _ _ _ _) (ibin_ok hop h)
  · cases hx; cases hy; exact .guard (eqGuard_str _ _ _ _ _ _) (sbin_ok h)
  · cases hx with | agg hl => cases hy with | agg hm =>
    obtain ⟨b, h1, h2, h3⟩ := eqSK_ok hl hm h
    exact .guard (h3 _ _ _) (.mk h1 .bool fun w => by
      show ((do pure (.bool (← Op.equal t _ _)) : Sem Value)).run P w = _
      rw [Sem.run_bind, h2]; rfl)
  · cases hx with | agg hl => cases hy with | agg hm =>
    obtain ⟨b, h1, h2, h3⟩ := eqSK_ok hl hm h
    exact .guard (h3 _ _ _) (.mk h1 .bool fun w => by
      show ((do pure (.bool (!(← Op.equal t _ _))) : Sem Value)).run P w = _
      rw [Sem.run_bind, h2]; rfl)
  · obtain ⟨⟨e, hk⟩, h⟩ := h
    cases hy
    obtain ⟨b, h1, h2, h3, h4, _⟩ := eqNK_ok hk hx h
    exact .guard (h3 _ _ _) (h4 ▸ .mk h1 .bool fun w => by rw [Sem.run_bind, h2]; rfl)
  · obtain ⟨⟨e, hk⟩, h⟩ := h
    cases hy
    obtain ⟨b, h1, h2, h3, _, h4⟩ := eqNK_ok hk hx h
    exact .guard (h3 _ _ _) (h4 ▸ .mk h1 .bool fun w => by rw [Sem.run_bind, h2]; rfl)
  · obtain ⟨b, h1, h2, h3, h4, _⟩ := eqK_ok hx hy h
    exact .guard (h3 _ _ _) (h4 ▸ .mk h1 .bool fun w => by rw [Sem.run_bind, h2]; rfl)
  · obtain ⟨b, h1, h2, h3, _, h4⟩ := eqK_ok hx hy h
    exact .guard (h3 _ _ _) (h4 ▸ .mk h1 .bool fun w => by rw [Sem.run_bind, h2]; rfl)
  · exact h.elim

theorem unK_ok {op : UnOp} {x : AV} {vx : Value} (hx : Rel R μ x vx) (h : unK op x K) : Gives P R μ K (Op.unary op vx) := by
  unfold unK at h
  split at h
  · cases hx; exact .mk h .bool fun w => rfl
  · cases hx; exact .mk h .int fun w => rfl
  · cases hx; exact .mk h .int fun w => rfl
  · exact h.elim

theorem convK_ok {src dst : TypeId} {x : AV} {vx : Value} (hs : kdT P src ≠ .other) (hx : Rel R μ x vx) (h : convK (kdT P src) (kdT P dst) x K) : Gives P R μ K (convert src dst vx) := by
  obtain ⟨d, hd⟩ := kd_ne hs
  unfold convK at h
  split at h
  · rename_i hk
    cases hx
    exact .mk h .int fun w => by simp [convert, run_underlying hd, run_underlying (kd_int hk), Conv.intToInt]
  · rename_i hk1 hk2
    cases hx
    exact .mk h .str fun w => by simp [convert, run_underlying (kd_str hk1), run_underlying (kd_str hk2)]
  · exact h.elim

theorem extractK_ok {x : AV} {vx : Value} {i : Nat} (hx : Rel R μ x vx) (h : extractK x i K) : Gives P R μ K (Instr.extract vx i) := by
  unfold extractK at h
  split at h
  · split at h
    · rename_i l _ a ha
      cases hx
      rename_i vs hl
      obtain ⟨v, hv, hr⟩ := hl.get i ha
      exact .mk h hr fun w => by simp [Instr.extract, hv]
    · exact h.elim
  · exact h.elim

theorem addr_add (b o j : Nat) : (⟨b, o, none⟩ : Addr).add j = ⟨b, o + j, none⟩ := by
  unfold Addr.add
  split <;> simp_all

theorem fld_ok {s f : Nat} {o : Nat} {t : TypeId} (h : fldT P s f = some (o, t)) : ∃ fs x, P.underlying s = some (.struct fs) ∧ fs[f]? = some x ∧ x.offset = o ∧ x.type = t ∧ szT P t ≠ 0 := by
  unfold fldT at h
  split at h
  · rename_i fs hu
    split at h
    · rename_i x hx
      split at h
      · simp at h
      · rename_i hz
        simp only [Option.some.injEq, Prod.mk.injEq] at h
        obtain ⟨rfl, rfl⟩ := h
        exact ⟨fs, x, hu, hx, rfl, rfl, hz⟩
    · simp at h
  · simp at h
theorem sz_info {t : TypeId} (h : szT P t ≠ 0) : ∃ i, P.info? t = some i ∧ i.size = szT P t := by
  unfold szT at *
  split at h
  · rename_i i hi; exact ⟨i, hi, by simp⟩
  · simp at h
theorem run_sizeOf {t : TypeId} (h : szT P t ≠ 0) (w : World) : (sizeOf t).run P w = .ok (szT P t) w := by
  obtain ⟨i, hi, hs⟩ := sz_info h
  simp [sizeOf, typeInfo, hi, hs]
theorem run_fieldAt {s f o : Nat} {t : TypeId} (h : fldT P s f = some (o, t)) (a : Addr) (w : World) : (Instr.fieldAt s (.pointer (some a)) f).run P w = .ok (.pointer (some (a.add o))) w := by
  obtain ⟨fs, x, hu, hx, rfl, rfl, hz⟩ := fld_ok h
  simp [Instr.fieldAt, run_underlying hu, hx, Instr.sureAddr, fieldPlace, run_sizeOf hz, hz]
theorem fldAddrK_ok {s f : Nat} {x : AV} {vx : Value} (hx : Rel R μ x vx) (h : fldAddrK (fldT P s f) x K) : Gives P R μ K (Instr.fieldAt s vx f) := by
  unfold fldAddrK at h
  split at h
  · rename_i hf
    cases hx
    rename_i hB hb
    exact .mk h (.ptr hb hB) fun w => by rw [run_fieldAt hf, addr_add]
  · rename_i hf
    cases hx
    rename_i hb
    exact .mk h (.ep hb) fun w => by rw [run_fieldAt hf, addr_add, Nat.add_assoc]
  · rename_i hf
    cases hx with
    | rp hb hl hi => exact .mk h (.rp hb hl hi) fun w => by rw [run_fieldAt hf, addr_add, Nat.add_assoc]
  · exact h.elim
theorem run_indexAt {t el : TypeId} (hk : kdT P t = .slice el) (hz : szT P el ≠ 0) (a : Addr) (n c : Nat) (k : IntKind) (i : Int) (h0 : 0 ≤ i) (h1 : i < n) (w : World) :
    (Instr.indexAt t (.slice (some a) n c) (.int k i)).run P w = .ok (.pointer (some (a.add (i.toNat * szT P el)))) w := by
  simp [Instr.indexAt, asIntOf, run_underlying (kd_slice hk), run_sizeOf hz, h0, h1]
theorem run_indexAtA {t el : TypeId} {m : Nat} (hk : kdT P t = .array m el) (hz : szT P el ≠ 0) (a : Addr) (k : IntKind) (i : Int) (h0 : 0 ≤ i) (h1 : i < m) (w : World) :
    (Instr.indexAt t (.pointer (some a)) (.int k i)).run P w = .ok (.pointer (some (a.add (i.toNat * szT P el)))) w := by
  simp [Instr.indexAt, Instr.sureAddr, asIntOf, run_underlying (kd_array hk), run_sizeOf hz, h0, h1]
theorem idxAddrK_ok {t : TypeId} {x i : AV} {vx vi : Value} (hx : Rel R μ x vx) (hi : Rel R μ i vi) (h : idxAddrK P (kdT P t) x i K) : Gives P R μ K (Instr.indexAt t vx vi) := by
  unfold idxAddrK at h
  split at h
  · rename_i el e xs k i hk
    obtain ⟨⟨h0, h1⟩, hs, h⟩ := h
    cases hi
    have hz : szT P el ≠ 0 := by rw [hs]; exact Nat.pos_iff_ne_zero.1 e.sz_pos
    cases hx with
    | ro hb hl hc hm =>
      refine .mk h (.rp hb hl (by omega : i.toNat < xs.length)) fun w => ?_
      rw [run_indexAt hk hz _ _ _ _ _ h0 h1, addr_add, hs]
      rfl
    | ro0 => simp at h1; omega
  · rename_i el t' e s n k i hk
    obtain ⟨⟨h0, h1⟩, hs, h⟩ := h
    cases hi
    have hz : szT P el ≠ 0 := by rw [hs]; exact Nat.pos_iff_ne_zero.1 e.sz_pos
    cases hx with
    | sl hb hc hl hm =>
      refine .mk h (.ep hb) fun w => ?_
      rw [run_indexAt hk hz _ _ _ _ _ h0 h1, addr_add, hs, ← Nat.add_mul]
      rfl
    | sl0 => simp at h1; omega
  · rename_i n el t' off k i hk
    obtain ⟨⟨h0, h1⟩, hz, h⟩ := h
    cases hi
    cases hx with
    | ptr hb hob => exact .mk h (.ptr hb hob) fun w => by rw [run_indexAtA hk hz _ _ _ h0 h1, addr_add]
  · rename_i n el e xs j off k i hk
    obtain ⟨⟨h0, h1⟩, hz, h⟩ := h
    cases hi
    cases hx with
    | rp hb hl hj => exact .mk h (.rp hb hl hj) fun w => by rw [run_indexAtA hk hz _ _ _ h0 h1, addr_add, Nat.add_assoc]
  · rename_i n el t' e j off k i hk
    obtain ⟨⟨h0, h1⟩, hz, h⟩ := h
    cases hi
    cases hx with
    | ep hb => exact .mk h (.ep hb) fun w => by rw [run_indexAtA hk hz _ _ _ h0 h1, addr_add, Nat.add_assoc]
  · exact h.elim
theorem allN_at {F : Nat → Prop} : ∀ (n : Nat), allN n F → ∀ j, j < n → F j
  | 0, _, j, hj => by omega
  | n + 1, h, j, hj => by
    rcases Nat.lt_or_ge j n with h1 | h1
    · exact allN_at n h.1 j h1
    · rw [show j = n from by omega]; exact h.2
theorem part_agg {t : TypeId} {d : TypeDesc} (hd : P.underlying t = some d) (ha : aggD d = true) (hz : szT P t ≠ 0) (vs : Array Value) (off : Nat) (w : World) : (part t vs off).run P w = .ok (.agg (vs.extract off (off + szT P t))) w := by
  simp only [part, Sem.run_bind, run_isAgg hd, ha, Result.andThen_ok, if_true, run_sizeOf hz, Sem.run_pure]
theorem partA_agg {t : TypeId} {d : TypeDesc} (hd : P.underlying t = some d) (ha : aggD d = true) (l : List AV) (off : Nat) : partA P t l off = .agg ((l.drop off).take (szT P t)) := by
  cases d <;> simp [aggD] at ha <;> simp [partA, kdT, hd]
theorem partA_one {t : TypeId} {d : TypeDesc} (hd : P.underlying t = some d) (ha : aggD d = false) (l : List AV) (off : Nat) : partA P t l off = nthA l off := by
  cases d <;> simp [aggD] at ha <;> simp [partA, kdT, hd]
theorem part_ok {t : TypeId} {l : List AV} {vs : List Value} (hz : szT P t ≠ 0) (hk : kdT P t ≠ .other) (hl : LRel R μ l vs) (off : Nat) (hlen : off + szT P t ≤ l.length) :
    ∃ v, Rel R μ (partA P t l off) v ∧ ∀ w, (part t vs.toArray off).run P w = .ok v w := by
  obtain ⟨d, hd⟩ := kd_ne hk
  have hlen' := hl.len
  cases ha : aggD d with
  | true =>
    rw [partA_agg hd ha]
    refine ⟨_, .agg ((hl.drop off).take (szT P t)), fun w => ?_⟩
    rw [part_agg hd ha hz]
    congr 2
    apply Array.ext'
    simp [List.take_drop]
  | false =>
    rw [partA_one hd ha]
    have h1 : off < vs.length := by have := Nat.pos_iff_ne_zero.2 hz; omega
    exact ⟨vs[off], hl.nth off (List.getElem?_eq_getElem h1), fun w => part_one hd ha (by simp [h1]) w⟩
theorem allN_at' {F : Nat → Prop} {n : Nat} (h : allN n F) {i : Int} (h0 : 0 ≤ i) (h1 : i < n) : F i.toNat := allN_at n h _ (by omega)

theorem idxK_ok {t : TypeId} {x i : AV} {vx vi : Value} (hx : Rel R μ x vx) (hi : Rel R μ i vi) (hel : ∀ n e, kdT P t = .array n e → szT P e ≠ 0 ∧ kdT P e ≠ .other) (h : idxK P (kdT P t) x i K) : Gives P R μ K (Instr.index t vx vi) := by
  unfold idxK at h
  split at h
  · rename_i n el l k i hk
    obtain ⟨⟨h0, h1⟩, hlen, h⟩ := h
    obtain ⟨hz, hko⟩ := hel _ _ hk
    cases hi
    cases hx with
    | agg hl =>
      have hj := allN_at' h h0 h1 (by omega)
      have hb : i.toNat * szT P el + szT P el ≤ l.length := by
        rw [hlen, ← Nat.succ_mul]
        exact Nat.mul_le_mul_right _ (by omega)
      obtain ⟨v, hv, hr⟩ := part_ok hz hko hl (i.toNat * szT P el) hb
      refine .mk hj hv fun w => ?_
      simp [Instr.index, asIntOf, run_underlying (kd_array hk), run_sizeOf hz, h0, h1, hr]
  · rename_i s k i hk
    obtain ⟨⟨h0, h1⟩, h⟩ := h
    cases hi
    cases hx
    refine .mk h .int fun w => ?_
    have hb : (ByteArray.mk s.toArray)[i.toNat]? = some (s.getD i.toNat 0) := by
      have hlt : i.toNat < (ByteArray.mk s.toArray).size := by simp [ByteArray.size]; omega
      rw [getElem?_pos (ByteArray.mk s.toArray) i.toNat hlt]
      simp [ByteArray.getElem_eq_getElem_data, List.getD_eq_getElem?_getD, List.getElem?_eq_getElem (show i.toNat < s.length by omega)]
    simp [Instr.index, asIntOf, run_underlying (kd_str hk), h0, hb]
  · exact h.elim

theorem loK_ok {x : Option AV} {v : Option Value} {d : Int} {F : Int → Prop} (h : loK x d F) (hr : ∀ a, x = some a → ∃ u, v = some u ∧ Rel R μ a u) (hn : x = none → v = none) :
    ∃ n, F n ∧ ((v = none ∧ n = d) ∨ ∃ k, v = some (.int k n)) := by
  unfold loK at h
  split at h
  · exact ⟨d, h, .inl ⟨hn rfl, rfl⟩⟩
  · obtain ⟨u, hu, hr⟩ := hr _ rfl
    cases hr
    exact ⟨_, h, .inr ⟨_, hu⟩⟩
  · exact h.elim
theorem run_sliceBounds {isS : Bool} {len cap : Nat} {lo hi : Option Value} {l h : Int} (hl : (lo = none ∧ l = 0) ∨ ∃ k, lo = some (.int k l)) (hh : (hi = none ∧ h = len) ∨ ∃ k, hi = some (.int k h)) (h0 : 0 ≤ l) (h1 : l ≤ h) (h2 : h ≤ cap) (w : World) :
    (Instr.sliceBounds isS len cap lo hi none).run P w = .ok (l.toNat, h.toNat, cap) w := by
  have hh0 : 0 ≤ h := by omega
  have hth : ((h.toNat : Nat) : Int) = h := by omega
  rcases hl with ⟨rfl, rfl⟩ | ⟨k, rfl⟩ <;> rcases hh with ⟨rfl, rfl⟩ | ⟨k', rfl⟩ <;> simp [Instr.sliceBounds, Instr.sliceBound, asIntOf, h0, h1, h2, hh0, hth]

theorem sliceK_ok {t : TypeId} {x : AV} {vx : Value} {lo hi : Option AV} {vlo vhi : Option Value} (hx : Rel R μ x vx) (hlo : ∀ a, lo = some a → ∃ u, vlo = some u ∧ Rel R μ a u) (hlo' : lo = none → vlo = none) (hhi : ∀ a, hi = some a → ∃ u, vhi = some u ∧ Rel R μ a u) (hhi' : hi = none → vhi = none)
    (h : sliceK P (kdT P t) x lo hi K) : Gives P R μ K (Instr.sliceAt t vx vlo vhi none) := by
  unfold sliceK at h
  split at h
  · rename_i el e xs hk
    obtain ⟨hs, h⟩ := h
    have hz : szT P el ≠ 0 := by rw [hs]; exact Nat.pos_iff_ne_zero.1 e.sz_pos
    obtain ⟨l, h, hl⟩ := loK_ok h hlo hlo'
    obtain ⟨m, ⟨⟨h0, h1, h2⟩, h⟩, hm⟩ := loK_ok h hhi hhi'
    have hu := kd_slice hk
    cases hx with
    | @ro _ _ _ b o arr ty fr c hb hr hc hcm =>
      have hbd := fun w => run_sliceBounds (P := P) (isS := true) (len := xs.length) (cap := c) hl hm h0 h1 (by omega) w
      have hrun : ∀ w, (Instr.sliceAt t (.slice (some ⟨b, o, none⟩) xs.length c) vlo vhi none).run P w = .ok (.slice (if c = l.toNat then some ⟨b, o, none⟩ else some ⟨b, o + l.toNat * e.sz, none⟩) (m.toNat - l.toNat) (c - l.toNat)) w := by
        intro w
        simp [Instr.sliceAt, Instr.slice, run_underlying hu, hbd, run_sizeOf hz, addr_add, hs]
      by_cases he : m.toNat = l.toNat
      · refine .mk h (v := .slice (if c = l.toNat then some ⟨b, o, none⟩ else some ⟨b, o + l.toNat * e.sz, none⟩) 0 (c - l.toNat)) ?_ fun w => by rw [hrun, he, Nat.sub_self]
        have : (xs.take m.toNat).drop l.toNat = [] := by
          apply List.drop_eq_nil_of_le; simp; omega
        rw [this]
        exact .ro0 (by omega)
      · have hcl : c ≠ l.toNat := by omega
        have hlen : ((xs.take m.toNat).drop l.toNat).length = m.toNat - l.toNat := by simp; omega
        refine .mk h (v := .slice (some ⟨b, o + l.toNat * e.sz, none⟩) ((xs.take m.toNat).drop l.toNat).length (c - l.toNat)) ?_ fun w => by rw [hrun, if_neg hcl, hlen]
        refine .ro hb ?_ (by omega) (by omega)
        have h3 := (hr.take (m.toNat * e.sz)).drop (l.toNat * e.sz)
        rw [flat_drop, flat_take, hlen]
        have e1 : ((arr.toList.drop (o + l.toNat * e.sz)).take ((m.toNat - l.toNat) * e.sz)) = ((((arr.toList.drop o).take (xs.length * e.sz)).take (m.toNat * e.sz)).drop (l.toNat * e.sz)) := by
          rw [List.take_take, Nat.min_eq_left (Nat.mul_le_mul_right _ (by omega)), List.drop_take, List.drop_drop, Nat.sub_mul]
        rw [e1]
        exact h3
    | @ro0 _ _ a c hcm =>
      have hl0 : l = 0 := by simp at h2; omega
      have hm0 : m = 0 := by simp at h2; omega
      subst hl0; subst hm0
      have hbd := fun w => run_sliceBounds (P := P) (isS := true) (len := 0) (cap := c) hl hm h0 h1 (by omega) w
      refine .mk h (v := .slice a 0 c) (by simp; exact .ro0 hcm) fun w => ?_
      simp [Instr.sliceAt, Instr.slice, run_underlying hu, hbd, run_sizeOf hz]
      cases a <;> simp [Addr.add]
  · rename_i el t' e s n hk
    obtain ⟨hs, h⟩ := h
    have hz : szT P el ≠ 0 := by rw [hs]; exact Nat.pos_iff_ne_zero.1 e.sz_pos
    obtain ⟨l, h, hl⟩ := loK_ok h hlo hlo'
    obtain ⟨m, ⟨⟨h0, h1, h2⟩, h⟩, hm⟩ := loK_ok h hhi hhi'
    have hu := kd_slice hk
    cases hx with
    | @sl _ _ _ _ _ b cap c hb hc hcl hcm =>
      have hbd := fun w => run_sliceBounds (P := P) (isS := true) (len := n) (cap := c) hl hm h0 h1 (by omega) w
      have hrun : ∀ w, (Instr.sliceAt t (.slice (some ⟨b, s * e.sz, none⟩) n c) vlo vhi none).run P w = .ok (.slice (if c = l.toNat then some ⟨b, s * e.sz, none⟩ else some ⟨b, (s + l.toNat) * e.sz, none⟩) (m.toNat - l.toNat) (c - l.toNat)) w := by
        intro w
        simp [Instr.sliceAt, Instr.slice, run_underlying hu, hbd, run_sizeOf hz, addr_add, hs, Nat.add_mul]
      by_cases he : c = l.toNat
      · refine .mk h (v := .slice (some ⟨b, s * e.sz, none⟩) (m.toNat - l.toNat) (c - l.toNat)) ?_ fun w => by rw [hrun, if_pos he]
        by_cases h00 : s + l.toNat = 0
        · have hs0 : s = 0 := by omega
          have hl0 : l.toNat = 0 := by omega
          subst hs0
          rw [hl0]
          exact .sl hb (by omega) (by omega) hcm
        · rw [show m.toNat - l.toNat = 0 from by omega, show c - l.toNat = 0 from by omega]
          exact .sl0 (.inr ⟨by omega, (List.getElem?_eq_some_iff.1 hb).1⟩)
      · exact .mk h (v := .slice (some ⟨b, (s + l.toNat) * e.sz, none⟩) (m.toNat - l.toNat) (c - l.toNat)) (.sl hb (by omega) (by omega) hcm) fun w => by rw [hrun, if_neg he]
    | @sl0 _ _ _ _ a ht =>
      have hl0 : l = 0 := by simp at h2; omega
      have hm0 : m = 0 := by simp at h2; omega
      subst hl0; subst hm0
      have hbd := fun w => run_sliceBounds (P := P) (isS := true) (len := 0) (cap := 0) hl hm h0 h1 (by omega) w
      refine .mk h (v := .slice a 0 0) (by simp; exact .sl0 ht) fun w => ?_
      simp [Instr.sliceAt, Instr.slice, run_underlying hu, hbd, run_sizeOf hz]
  · rename_i s hk
    obtain ⟨l, h, hl⟩ := loK_ok h hlo hlo'
    obtain ⟨m, ⟨⟨h0, h1, h2⟩, h⟩, hm⟩ := loK_ok h hhi hhi'
    have hu := kd_str hk
    cases hx
    have hsz : (ByteArray.mk s.toArray).size = s.length := by simp [ByteArray.size]
    have hbd := fun w => run_sliceBounds (P := P) (isS := false) (len := s.length) (cap := s.length) hl hm h0 h1 (by omega) w
    refine .mk h .str fun w => ?_
    simp [Instr.sliceAt, Instr.slice, run_underlying hu, hsz, hbd]
    apply ByteArray.ext
    simp [ByteArray.data_extract, List.drop_take]
  · exact h.elim

theorem run_len_slice {t e ty : TypeId} (hk : kdT P t = .slice e) (a : Option Addr) (n c : Nat) (w : World) : (Builtin.len_ #[t] ty #[.slice a n c]).run P w = .ok (.int .i64 n) w := by
  simp [Builtin.len_, run_underlying (kd_slice hk), goInt]
theorem size_str (s : List UInt8) : (ByteArray.mk s.toArray).size = s.length := by simp [ByteArray.size]
theorem run_len_str {t ty : TypeId} (hk : kdT P t = .str) (s : List UInt8) (w : World) : (Builtin.len_ #[t] ty #[.string ⟨s.toArray⟩]).run P w = .ok (.int .i64 s.length) w := by
  rw [← size_str]
  generalize ByteArray.mk s.toArray = b
  simp [Builtin.len_, run_underlying (kd_str hk), goInt]
/-- 'len' of a slice or a string, by its type -/
def lenTK (k : Kd) (x : AV) (K : AV → Prop) : Prop :=
  match k, x with
  | .slice _, .ro _ xs => K (.int .i64 xs.length)
  | .slice _, .sl _ _ _ n => K (.int .i64 n)
  | .slice _, .lit (.slice none 0 0) => K (.int .i64 0)
  | .str, .str s => K (.int .i64 s.length)
  | _, _ => False
theorem lenK_ok {t : TypeId} {x : AV} {vx : Value} {ty : TypeId} (hx : Rel R μ x vx) (h : lenTK (kdT P t) x K) : Gives P R μ K (Builtin.len_ #[t] ty #[vx]) := by
  unfold lenTK at h
  split at h
  · rename_i hk
    cases hx with
    | ro => exact .mk h .int fun w => run_len_slice hk _ _ _ w
    | ro0 => exact .mk h .int fun w => run_len_slice hk _ _ _ w
  · rename_i hk
    cases hx with
    | sl => exact .mk h .int fun w => run_len_slice hk _ _ _ w
    | sl0 => exact .mk h .int fun w => run_len_slice hk _ _ _ w
  · rename_i hk
    cases hx
    exact .mk h .int fun w => run_len_slice hk _ _ _ w
  · rename_i hk
    cases hx
    exact .mk h .int fun w => run_len_str hk _ w
  · exact h.elim
end Go.V
