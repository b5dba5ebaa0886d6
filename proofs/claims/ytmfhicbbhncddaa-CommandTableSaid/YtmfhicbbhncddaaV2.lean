/-
  The operations over abstract values.
-/
import Derived.Test.YtmfhicbbhncddaaV1
set_option linter.unusedVariables false
set_option linter.unusedSimpArgs false
namespace Go.V

/-! ### Facts on types -/
inductive Kd where
  | int (k : IntKind) | bool | str | slice (e : TypeId) | array (n : Nat) (e : TypeId) | struct | ptr | map | iface | func | other
def kdT (P : Program) (t : TypeId) : Kd :=
  match P.underlying t with
  | some (.int k) => .int k
  | some .bool => .bool
  | some .string => .str
  | some (.slice e) => .slice e
  | some (.array n e) => .array n e
  | some (.struct _) => .struct
  | some (.pointer _) => .ptr
  | some (.map _ _) => .map
  | some (.interface _) => .iface
  | some (.func _ _ _) => .func
  | _ => .other
def szT (P : Program) (t : TypeId) : Nat := match P.info? t with | some i => i.size | none => 0
def bytesT (P : Program) (t : TypeId) : Nat := match P.info? t with | some i => i.bytes | none => 0
/-- offset, type of a field; its type's size is not 0 -/
def fldT (P : Program) (s f : Nat) : Option (Nat × TypeId) :=
  match P.underlying s with
  | some (.struct fs) => (match fs[f]? with
    | some x => if szT P x.type = 0 then none else some (x.offset, x.type)
    | none => none)
  | _ => none
def ofV : Value → AV
  | .int k n => .int k n
  | .bool b => .bool b
  | .string s => .str s.data.toList
  | v => .lit v
def zeroT (P : Program) (t : TypeId) : Option (List AV) := match P.info? t with | some i => (match i.zero with | some z => some (z.cells.toList.map ofV) | none => none) | none => none
/-- the kinds of elements that slices of a type hold -/
class ETab where
  of : TypeId → Option Ety

theorem ofV_rel (R : RO) (μ : List Bind) (v : Value) : Rel R μ (ofV v) v := by
  unfold ofV
  split
  · exact .int
  · exact .bool
  · rename_i s
    have : s = ⟨s.data.toList.toArray⟩ := by cases s; simp
    conv => rhs; rw [this]
    exact .str
  · exact .lit
theorem ofV_rels (R : RO) (μ : List Bind) : ∀ l : List Value, LRel R μ (l.map ofV) l
  | [] => .nil
  | v :: l => .cons (ofV_rel R μ v) (ofV_rels R μ l)

/-! ### Operands -/
def evA (tm : List AV) : Operand → AV
  | .tmp t => nthA tm t
  | .const v => ofV v
  | .func f => .fn f []
  | .global _ => .any
theorem nthA_none : ∀ (l : List AV) (n : Nat), l.length ≤ n → nthA l n = .any
  | [], _, _ => rfl
  | _ :: l, n + 1, h => nthA_none l n (by simpa using h)
  | _ :: _, 0, h => by simp at h
theorem evA_rel {R : RO} {μ : List Bind} {tm : List AV} {a : Act} (h : LRel R μ tm a.tmps.toList) (x : Operand) : Rel R μ (evA tm x) (a.eval x) := by
  cases x with
  | tmp t =>
    unfold evA Act.eval
    simp only [Array.getD_eq_getD_getElem?]
    cases e : a.tmps[t]? with
    | some v => exact h.nth t (by simpa using e)
    | none =>
      rw [nthA_none tm t (by rw [h.len]; simpa using e)]
      exact .any
  | const v => exact ofV_rel R μ v
  | func f => exact .fn .nil
  | global g => exact .any

/-! ### Pure operations -/
def splitB (b : Bool) (A B : Prop) : Prop := (b = true → A) ∧ (b = false → B)
theorem splitB_true (A B : Prop) : splitB true A B = A := by simp [splitB]
theorem splitB_false (A B : Prop) : splitB false A B = B := by simp [splitB]
theorem splitB_ite {b : Bool} {A B : Prop} (h : splitB b A B) : if b then A else B := by
  cases b
  · exact h.2 rfl
  · exact h.1 rfl

def bitsI (op : BinOp) (k : IntKind) (x y : Int) : Int :=
  match op with
  | .and => k.wrap (BitVec.ofInt k.bits x &&& BitVec.ofInt k.bits y).toNat
  | .or => k.wrap (BitVec.ofInt k.bits x ||| BitVec.ofInt k.bits y).toNat
  | .xor => k.wrap (BitVec.ofInt k.bits x ^^^ BitVec.ofInt k.bits y).toNat
  | _ => k.wrap (BitVec.ofInt k.bits x &&& ~~~BitVec.ofInt k.bits y).toNat
def ibin (op : BinOp) (k : IntKind) (a b : Int) (K : AV → Prop) : Prop :=
  match op with
  | .add => K (.int k (k.wrap (a + b)))
  | .sub => K (.int k (k.wrap (a - b)))
  | .mul => K (.int k (k.wrap (a * b)))
  | .quo => b ≠ 0 ∧ K (.int k (k.wrap (a.tdiv b)))
  | .rem => b ≠ 0 ∧ K (.int k (a.tmod b))
  | .and => K (.int k (bitsI .and k a b))
  | .or => K (.int k (bitsI .or k a b))
  | .xor => K (.int k (bitsI .xor k a b))
  | .andNot => K (.int k (bitsI .andNot k a b))
  | .eql => K (.bool (decide (a = b)))
  | .neq => K (.bool (decide (a ≠ b)))
  | .lss => K (.bool (decide (a < b)))
  | .leq => K (.bool (decide (a ≤ b)))
  | .gtr => K (.bool (decide (b < a)))
  | .geq => K (.bool (decide (b ≤ a)))
  | _ => False
def sbin (op : BinOp) (s t : List UInt8) (K : AV → Prop) : Prop :=
  match op with
  | .eql => K (.bool (decide (s = t)))
  | .neq => K (.bool (decide (s ≠ t)))
  | .lss => K (.bool (Op.bytesLess s t))
  | .add => (s.length + t.length ≤ 9223372036854775807) ∧ K (.str (s ++ t))
  | _ => False
def eqK (k : Kd) (x y : AV) (K : Bool → Prop) : Prop :=
  match k, x, y with
  | .bool, .bool a, .bool b => K (decide (a = b))
  | .ptr, .ptr _ _, .lit (.pointer none) => K false
  | .ptr, .lit (.pointer none), .ptr _ _ => K false
  | .ptr, .lit (.pointer none), .lit (.pointer none) => K true
  | _, _, _ => False
def shK (op : BinOp) (k : IntKind) (a b : Int) (K : AV → Prop) : Prop :=
  match op with
  | .shl => (0 ≤ b) ∧ K (.int k (k.wrap (a * 2 ^ (min b.toNat k.bits))))
  | _ => (0 ≤ b) ∧ K (.int k (a.fdiv (2 ^ (min b.toNat k.bits))))
def eqCell (k : Kd) (x y : AV) : Option Bool :=
  match k, x, y with
  | .int _, .int k a, .int k' b => if k = k' then some (decide (a = b)) else none
  | .bool, .bool a, .bool b => some (decide (a = b))
  | .str, .str a, .str b => some (decide (a = b))
  | _, _, _ => none
def eqFlds (P : Program) (l m : List AV) : List (Nat × TypeId) → Option Bool
  | [] => some true
  | f :: r => match eqCell (kdT P f.2) (nthA l f.1) (nthA m f.1) with
    | some a => (match eqFlds P l m r with | some b => some (a && b) | none => none)
    | none => none
/-- fields that a comparison of two structs looks at -/
def fldsT (P : Program) (t : TypeId) : Option (List (Nat × TypeId)) :=
  match P.underlying t with
  | some (.struct fs) => if P.stoodInHeld t = false ∧ P.eqGuardType P.depth t = false ∧ (fs.toList.all fun f => f.name != "_") = true then some (fs.toList.map fun f => (f.offset, f.type)) else none
  | _ => none
def eqSK (P : Program) (t : TypeId) (l m : List AV) (K : Bool → Prop) : Prop :=
  match fldsT P t with
  | some fs => (match eqFlds P l m fs with | some b => K b | none => False)
  | none => False
def eqNK (x : AV) (K : Bool → Prop) : Prop :=
  match x with
  | .lit (.slice none 0 0) => K true
  | .ro _ xs => (xs = [] → K true) ∧ K false
  | .sl _ _ _ n => (n = 0 → K true) ∧ K false
  | _ => False
def binK (P : Program) (op : BinOp) (t : TypeId) (x y : AV) (K : AV → Prop) : Prop :=
  match op, x, y with
  | .shl, .int k a, .int _ b => shK .shl k a b K
  | .shr, .int k a, .int _ b => shK .shr k a b K
  | _, .int k a, .int k' b => k = k' ∧ ibin op k a b K
  | _, .str s, .str t => sbin op s t K
  | .eql, .agg l, .agg m => eqSK P t l m fun b => K (.bool b)
  | .neq, .agg l, .agg m => eqSK P t l m fun b => K (.bool (!b))
  | .eql, x, .lit (.slice none 0 0) => (∃ e, kdT P t = .slice e) ∧ eqNK x fun b => K (.bool b)
  | .neq, x, .lit (.slice none 0 0) => (∃ e, kdT P t = .slice e) ∧ eqNK x fun b => K (.bool (!b))
  | .eql, x, y => eqK (kdT P t) x y fun b => K (.bool b)
  | .neq, x, y => eqK (kdT P t) x y fun b => K (.bool (!b))
  | _, _, _ => False
def unK (op : UnOp) (x : AV) (K : AV → Prop) : Prop :=
  match op, x with
  | .not, .bool b => K (.bool (!b))
  | .neg, .int k n => K (.int k (k.wrap (0 - n)))
  | .xor, .int k n => K (.int k (bitsI .xor k (if k.signed then -1 else k.max) n))
  | _, _ => False
def convK (src dst : Kd) (x : AV) (K : AV → Prop) : Prop :=
  match src, dst, x with
  | _, .int k, .int _ n => K (.int k (k.wrap n))
  | .str, .str, .str s => K (.str s)
  | _, _, _ => False
def partA (P : Program) (t : TypeId) (l : List AV) (off : Nat) : AV :=
  match kdT P t with
  | .struct => .agg ((l.drop off).take (szT P t))
  | .array _ _ => .agg ((l.drop off).take (szT P t))
  | _ => nthA l off
def fldAddrK (f : Option (Nat × TypeId)) (x : AV) (K : AV → Prop) : Prop :=
  match f, x with
  | some (o, _), .ptr t off => K (.ptr t (off + o))
  | some (o, _), .ep t e i off => K (.ep t e i (off + o))
  | some (o, _), .rp e xs i off => K (.rp e xs i (off + o))
  | _, _ => False
def idxAddrK (P : Program) (k : Kd) (x i : AV) (K : AV → Prop) : Prop :=
  match k, x, i with
  | .slice el, .ro e xs, .int _ i => (0 ≤ i ∧ i < xs.length) ∧ szT P el = e.sz ∧ K (.rp e xs i.toNat 0)
  | .slice el, .sl t e s n, .int _ i => (0 ≤ i ∧ i < n) ∧ szT P el = e.sz ∧ K (.ep t e (s + i.toNat) 0)
  | _, _, _ => False
def allN : Nat → (Nat → Prop) → Prop
  | 0, _ => True
  | n + 1, F => allN n F ∧ F n
def idxK (P : Program) (k : Kd) (x i : AV) (K : AV → Prop) : Prop :=
  match k, x, i with
  | .array n el, .agg l, .int _ i => (0 ≤ i ∧ i < n) ∧ (l.length = n * szT P el) ∧ allN n fun j => i = j → K (partA P el l (j * szT P el))
  | .str, .str s, .int _ i => (0 ≤ i ∧ i < s.length) ∧ K (.int .u8 (s.getD i.toNat 0).toNat)
  | _, _, _ => False
def loK (x : Option AV) (d : Int) (K : Int → Prop) : Prop :=
  match x with
  | none => K d
  | some (.int _ n) => K n
  | _ => False
def sliceK (P : Program) (k : Kd) (x : AV) (lo hi : Option AV) (K : AV → Prop) : Prop :=
  match k, x with
  | .slice el, .ro e xs => szT P el = e.sz ∧ loK lo 0 fun l => loK hi xs.length fun h => (0 ≤ l ∧ l ≤ h ∧ h ≤ xs.length) ∧ K (.ro e ((xs.take h.toNat).drop l.toNat))
  | .slice el, .sl t e s n => szT P el = e.sz ∧ loK lo 0 fun l => loK hi n fun h => (0 ≤ l ∧ l ≤ h ∧ h ≤ n) ∧ K (.sl t e (s + l.toNat) (h.toNat - l.toNat))
  | .str, .str s => loK lo 0 fun l => loK hi s.length fun h => (0 ≤ l ∧ l ≤ h ∧ h ≤ s.length) ∧ K (.str ((s.take h.toNat).drop l.toNat))
  | _, _ => False
def nilCheckK (x : AV) (K : AV → Prop) : Prop :=
  match x with
  | .ptr t o => K (.ptr t o)
  | .ep t e i o => K (.ep t e i o)
  | .rp e xs i o => K (.rp e xs i o)
  | .fn f c => K (.fn f c)
  | _ => False
def extractK (x : AV) (i : Nat) (K : AV → Prop) : Prop :=
  match x with
  | .tup l => (match l[i]? with | some a => K a | none => False)
  | _ => False
def pickK (c a b : AV) (K : AV → Prop) : Prop :=
  match c with
  | .bool c => splitB c (K a) (K b)
  | _ => False
end Go.V
