/-
  The kinds of elements that slices hold in this seat, and how an element lies in cells.
-/
import Derived.WalkKit
import Derived.WalkSpells
import Derived.Laws.Cells
import Derived.Laws.Rows
import Derived.Laws.AppendOwn
import Derived.Below
set_option linter.unusedVariables false
set_option linter.unusedSimpArgs false
namespace Go.V

structure Cmd where
  src : Int
  num : Int
  srv : Int
  args : List Int
  data : List UInt8
deriving DecidableEq
inductive Ety where
  | int | byte | str | ints
deriving DecidableEq
abbrev Ety.T : Ety → Type
  | .int => Int
  | .byte => UInt8
  | .str => List UInt8
  | .ints => List Int

inductive AV : Type where
  | int (k : IntKind) (n : Int)
  | bool (b : Bool)
  | str (s : List UInt8)
  | lit (v : Value)
  | agg (l : List AV)
  | tup (l : List AV)
  | ptr (t off : Nat)
  | ep (t : Nat) (e : Ety) (i off : Nat)
  | sl (t : Nat) (e : Ety) (start len : Nat)
  | ro (e : Ety) (xs : List e.T)
  | rp (e : Ety) (xs : List e.T) (i off : Nat)
  | fn (f : FuncId) (caps : List AV)
  | ifc (t : TypeId) (v : AV)
  | mp (t : Nat)
  | any

def asE (e e' : Ety) (xs : List e'.T) : Option (List e.T) := if h : e' = e then some (h ▸ xs) else none
/-- a slice that lies for good; the nil slice is one -/
def roA (e : Ety) : AV → Option (List e.T)
  | .ro e' xs => asE e e' xs
  | .lit (.slice none 0 0) => some []
  | _ => none
/-- the cells of a Cmd -/
def Cmd.cells (x : Cmd) : List AV := [.int .i64 x.src, .int .i64 x.num, .int .i64 x.srv, .ro .int x.args, .ro .byte x.data]
def Ety.enc : (e : Ety) → e.T → List AV
  | .int, x => [.int .i64 x]
  | .byte, x => [.int .u8 x.toNat]
  | .str, x => [.str x]
  | .ints, x => [.ro .int x]
def Ety.sz : Ety → Nat
  | .int => 1
  | .byte => 1
  | .str => 1
  | .ints => 1
def dec_int : List AV → Option (Int)
  | [.int .i64 v1] => some v1
  | _ => none
def dec_byte : List AV → Option (UInt8)
  | [.int .u8 v2] => some (UInt8.ofNat v2.toNat)
  | _ => none
def dec_str : List AV → Option (List UInt8)
  | [.str v3] => some v3
  | _ => none
def dec_ints : List AV → Option (List Int)
  | [v4] => (match roA .int v4 with | some v4' => some v4' | _ => none)
  | _ => none
/-- an element out of its cells -/
def Ety.dec : (e : Ety) → List AV → Option e.T
  | .int => dec_int
  | .byte => dec_byte
  | .str => dec_str
  | .ints => dec_ints
def okByte : List AV → Prop
  | [.int .u8 x] => 0 ≤ x ∧ x < 256
  | _ => True
/-- and the cells are those of the element -/
def Ety.decOk : (e : Ety) → List AV → Prop
  | .byte => okByte
  | _ => fun _ => True
def Ety.dflt : (e : Ety) → e.T
  | .int => (0 : Int)
  | .byte => (0 : UInt8)
  | .str => ([] : List UInt8)
  | .ints => ([] : List Int)
/-- no slices within the elements -/
def Ety.flat : Ety → Bool
  | .int => true
  | .byte => true
  | .str => true
  | .ints => false
theorem Ety.enc_len (e : Ety) (x : e.T) : (e.enc x).length = e.sz := by cases e <;> rfl
theorem Ety.sz_pos (e : Ety) : 0 < e.sz := by cases e <;> decide
def AV.cell : AV → Bool
  | .agg _ | .tup _ | .any => false
  | .lit v => v.oneCell'
  | _ => true
/-- no address of the memory at hand -/
def AV.tf : AV → Bool
  | .int _ _ | .bool _ | .str _ | .lit _ | .ro _ _ => true
  | _ => false
/-- nor of what lies for good -/
def AV.ntf : AV → Bool
  | .int _ _ | .bool _ | .str _ | .lit _ => true
  | _ => false
theorem Ety.enc_tf (e : Ety) (x : e.T) : ∀ a ∈ e.enc x, a.tf = true := by cases e <;> simp [Ety.enc, AV.tf]
theorem Ety.enc_cell (e : Ety) (x : e.T) : ∀ a ∈ e.enc x, a.cell = true := by cases e <;> simp [Ety.enc, AV.cell]
theorem Ety.enc_flat (e : Ety) (he : e.flat = true) (x : e.T) : ∀ a ∈ e.enc x, a.ntf = true := by cases e <;> first | (simp [Ety.flat] at he; done) | simp [Ety.enc, AV.ntf]
theorem dec_len (e : Ety) (l : List AV) (x : e.T) (h : e.dec l = some x) : l.length = e.sz := by
  cases e <;> simp only [Ety.dec] at h
  · unfold dec_int at h; split at h <;> first | rfl | (simp at h; done)
  · unfold dec_byte at h; split at h <;> first | rfl | (simp at h; done)
  · unfold dec_str at h; split at h <;> first | rfl | (simp at h; done)
  · unfold dec_ints at h; split at h <;> first | rfl | (simp at h; done)
end Go.V
