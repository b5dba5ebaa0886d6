/-
  The operations that read or write memory, over abstract values.
-/
import Derived.Test.YtmfhicbbhncddaaV4
import Derived.Test.YtmfhicbbhncddaaVD
import Derived.Deep.AppendSrc
import Derived.Laws.BytesString
set_option linter.unusedVariables false
set_option linter.unusedSimpArgs false
namespace Go.V

/-! ### Definitions -/
def hth : List Ch → Nat → Ch
  | [], _ => .gone
  | c :: _, 0 => c
  | _ :: l, n + 1 => hth l n
theorem hth_get {h : List Ch} : ∀ {t : Nat} {c : Ch}, hth h t = c → c ≠ .gone → h[t]? = some c := by
  induction h with
  | nil => intro t c e hc; exact absurd e.symm hc
  | cons a l ih =>
    intro t c e hc
    cases t with
    | zero => simpa [hth] using e
    | succ n => simpa using ih (by simpa [hth] using e) hc
def setA : List AV → Nat → List AV → List AV
  | vs, _, [] => vs
  | vs, off, a :: l => setA (vs.set off a) (off + 1) l
def cellsA : AV → List AV
  | .agg l => l
  | a => [a]
def okCells : List AV → Prop
  | [] => True
  | a :: l => (a.cell = true) ∧ okCells l
def tfs : List AV → Prop
  | [] => True
  | a :: l => (a.tf = true) ∧ tfs l
def aggT (P : Program) (t : TypeId) : Option Bool := match kdT P t with | .struct => some true | .array _ _ => some true | .other => none | _ => some false
/-- cells of a row's block that a load meets -/
def loadCellsK (P : Program) (t : TypeId) (vs : List AV) (off : Nat) (K : AV → Prop) : Prop :=
  match aggT P t with
  | some true => (off + szT P t ≤ vs.length ∧ szT P t ≠ 0) ∧ K (.agg ((vs.drop off).take (szT P t)))
  | some false => (off < vs.length) ∧ K (nthA vs off)
  | none => False
def loadK (P : Program) (t : TypeId) (a : AV) (h : List Ch) (K : AV → Prop) : Prop :=
  match a with
  | .ptr b off => (match hth h b with
    | .cells vs => loadCellsK P t vs off K
    | _ => False)
  | .ep b e i off => (match hth h b with
    | .rows e' xs => (match asE e e' xs with
      | some xs => (i < xs.length) ∧ loadCellsK P t (e.enc (e.get xs i)) off K
      | none => False)
    | _ => False)
  | .rp e xs i off => loadCellsK P t (e.enc (e.get xs i)) off K
  | _ => False
def storeK (P : Program) (t : TypeId) (a x : AV) (h : List Ch) (K : List Ch → Prop) : Prop :=
  match a with
  | .ptr b off => (match hth h b with
    | .cells vs => ((cellsA x).length = szT P t ∧ off + szT P t ≤ vs.length ∧ szT P t ≠ 0) ∧ okCells (cellsA x) ∧ K (h.set b (.cells (setA vs off (cellsA x))))
    | _ => False)
  | .ep b e i off => (match hth h b with
    | .rows e' xs => (match asE e e' xs with
      | some xs => (match e.dec (setA (e.enc (e.get xs i)) off (cellsA x)) with
        | some y => (i < xs.length ∧ (cellsA x).length = szT P t ∧ off + szT P t ≤ e.sz ∧ szT P t ≠ 0) ∧ okCells (cellsA x) ∧ tfs (cellsA x) ∧ e.decOk (setA (e.enc (e.get xs i)) off (cellsA x)) ∧ K (h.set b (.rows e (xs.set i y)))
        | none => False)
      | none => False)
    | _ => False)
  | _ => False
def allocK (P : Program) (t : TypeId) (h : List Ch) (K : AV → List Ch → Prop) : Prop :=
  match zeroT P t with
  | some zs => K (.ptr h.length 0) (h ++ [.cells zs])
  | none => False
def boxK (x : AV) (h : List Ch) (K : AV → List Ch → Prop) : Prop :=
  okCells (cellsA x) ∧ K (.ptr h.length 0) (h ++ [.cells (cellsA x)])
/-- the elements that a slice value has -/
def srcK (e : Ety) (h : List Ch) (x : AV) (F : List e.T → Prop) : Prop :=
  match x with
  | .ro e' ys => (match asE e e' ys with | some ys => F ys | none => False)
  | .sl b e' s n => (match hth h b with
    | .rows e'' xs => (match asE e e'' xs with
      | some xs => (e' = e) ∧ (s + n ≤ xs.length) ∧ F ((xs.drop s).take n)
      | none => False)
    | _ => False)
  | .lit (.slice none 0 0) => F []
  | _ => False
def bytesOf (e : Ety) (s : List UInt8) : Option (List e.T) := asE e .byte s
/-- 'append': what is appended -/
def appSrcK (k : Kd) (e : Ety) (h : List Ch) (x : AV) (F : List e.T → Prop) : Prop :=
  match k, x with
  | .str, .str s => (match bytesOf e s with | some ys => F ys | none => False)
  | .slice _, x => srcK e h x F
  | _, _ => False
def maxBytes : Nat := 140737488355328
/-- cells of the zero value -/
def zlenT (P : Program) (t : TypeId) : Nat := match zeroT P t with | some zs => zs.length | none => 0
def appK [ETab] (P : Program) (t tx : TypeId) (s x : AV) (h : List Ch) (K : AV → List Ch → Prop) : Prop :=
  match kdT P t with
  | .slice el => (match s with
    | .sl b e 0 n => (match hth h b with
      | .rows e' xs => (match asE e e' xs with
        | some xs => (szT P el = e.sz ∧ zlenT P el = e.sz) ∧ n = xs.length ∧ appSrcK (kdT P tx) e h x fun ys => ((xs.length + ys.length) * bytesT P el ≤ maxBytes ∧ xs.length + ys.length ≤ maxBytes) ∧ K (.sl h.length e 0 (xs.length + ys.length)) (h.set b .gone ++ [.rows e (xs ++ ys)])
        | none => False)
      | _ => False)
    | .lit (.slice none 0 0) => (match ETab.of t with
      | some e => (szT P el = e.sz ∧ zlenT P el = e.sz) ∧ appSrcK (kdT P tx) e h x fun ys => (ys.length * bytesT P el ≤ maxBytes ∧ ys.length ≤ maxBytes) ∧ K (.sl h.length e 0 ys.length) (h ++ [.rows e ys])
      | none => False)
    | _ => False)
  | _ => False
/-- 'make' of a slice -/
def mkK [ETab] (P : Program) (t : TypeId) (l c : AV) (h : List Ch) (K : AV → List Ch → Prop) : Prop :=
  match kdT P t, l, c with
  | .slice el, .int _ a, .int _ b => (match ETab.of t, zeroT P el with
    | some e, some zs => (match e.dec zs with
      | some y => ((szT P el = e.sz ∧ zs.length = e.sz) ∧ (0 ≤ a ∧ a ≤ b) ∧ (bytesT P el : Int) * b ≤ 281474976710656 ∧ b ≤ 9223372036854775807 ∧ tfs zs ∧ e.decOk zs) ∧ K (.sl h.length e 0 a.toNat) (h ++ [.rows e (List.replicate a.toNat y)])
      | none => False)
    | _, _ => False)
  | _, _, _ => False
end Go.V
