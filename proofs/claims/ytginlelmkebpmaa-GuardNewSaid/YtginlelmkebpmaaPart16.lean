/-
  The guard: which units are due. Plain laws.
  The guard's specification, as functions; both sides agree. Plain laws.
  The guard with broken units: clones, Alive, Heard, Alarm, Broken.
  The guard's specification: New, At, has, last, least, Tick.
  The guard: Tick, whatever is broken.
  The guard's specification: Tick.
  The guard's specification: the contract of Tick; both say the same.
  The guard: GuardPlays.
  The guard's laws over their arguments as structs.
  From the arguments of a given statement to abstract values: what is read as data lies for good.
  The arguments of the statements of chapter 47 as abstract values.
-/
import Derived.Test.YtginlelmkebpmaaPart15
import Derived.Lib.SlicesCompact
import Derived.ChangeArms
import Derived.ChangeShapes
import Derived.ChangeReads
import Derived.DataReads
import Derived.Below
import Derived.OpenShut
import Derived.RowKit
import Derived.Carry
set_option linter.unusedVariables false
set_option linter.unusedSimpArgs false
set_option maxRecDepth 100000
namespace Go.V
open Go.Lib
/-- ascending, no number twice -/
def sdl (l : List Int) : List Int := compact (sortZ l)
/-- may a unit be switched again? -/
def mayB (P now : Int) (s : Sw) : Bool := !s.done || decide (P ≤ now - s.time)
def mgz (kv : List (Int × Sw)) (u : Int) : Sw := (mget (k := .int) (e := .sw) kv u).getD ⟨false, 0⟩
def dueB (P now : Int) (kv : List (Int × Sw)) (u : Int) : Bool := mayB P now (mgz kv u)
def putU (now : Int) (kv : List (Int × Sw)) (us : List Int) : List (Int × Sw) := us.foldl (fun kv u => mset (k := .int) (e := .sw) kv u ⟨true, now⟩) kv
def outU (now : Int) (us : List Int) : List Rcy := us.map fun u => ⟨now, 2, u⟩
def hasZ (l : List Int) (x : Int) : Bool := decide (x ∈ l)
theorem mget_mset (kv : List (Int × Sw)) (u v : Int) (y : Sw) : mget (k := .int) (e := .sw) (mset (k := .int) (e := .sw) kv u y) v = if v = u then some y else mget (k := .int) (e := .sw) kv v := by
  induction kv with
  | nil =>
    simp only [mset, mget]
    by_cases c : v = u
    · simp [c]
    · rw [if_neg c, if_neg (fun e => c e.symm)]
  | cons p kv ih =>
    unfold mset
    by_cases c : p.1 = u
    · rw [if_pos c]
      simp only [mget]
      by_cases d : v = u
      · subst d; simp
      · rw [if_neg d, if_neg (fun e => d e.symm), if_neg (fun e => d (e ▸ c).symm.symm)]
    · rw [if_neg c]
      simp only [mget]
      by_cases d : p.1 = v
      · rw [if_pos d, if_pos d, if_neg (fun e => c (by rw [d, e]))]
      · rw [if_neg d, if_neg d, ih]
theorem mgz_putU (now : Int) : ∀ (us : List Int) (kv : List (Int × Sw)) (v : Int), mgz (putU now kv us) v = if v ∈ us then ⟨true, now⟩ else mgz kv v
  | [], _, _ => by simp [putU]
  | u :: us, kv, v => by
    have h := mgz_putU now us (mset (k := .int) (e := .sw) kv u ⟨true, now⟩) v
    unfold putU at h ⊢
    rw [List.foldl_cons, h]
    by_cases c : v ∈ us
    · simp [c]
    · rw [if_neg c]
      unfold mgz
      rw [mget_mset]
      by_cases d : v = u
      · simp [d]
      · simp [c, d]
end Go.V

set_option maxRecDepth 100000
namespace Go.V
open Go.Lib
theorem snocRec {α : Type} {motive : List α → Prop} (nil : motive []) (snoc : ∀ l x, motive l → motive (l ++ [x])) (l : List α) : motive l := by
  have h : ∀ l : List α, motive l.reverse := by
    intro l
    induction l with
    | nil => exact nil
    | cons x l ih => rw [List.reverse_cons]; exact snoc _ _ ih
  simpa using h l.reverse
/-- when a unit was switched last -/
def lastU (un : List Pr) (u : Int) : Int := un.foldl (fun a p => if p.u = u then p.t else a) (-1)
theorem lastU_snoc (un : List Pr) (p : Pr) (u : Int) : lastU (un ++ [p]) u = if p.u = u then p.t else lastU un u := by
  unfold lastU
  rw [List.foldl_append]
  rfl
def dueR (P now : Int) (un : List Pr) (u : Int) : Bool := !(decide (0 ≤ lastU un u) && decide (now - lastU un u < P))
def putR (now : Int) (un : List Pr) (us : List Int) : List Pr := un ++ us.map fun u => ⟨u, now⟩
theorem lastU_putR (now : Int) (un : List Pr) (us : List Int) (u : Int) : lastU (putR now un us) u = if u ∈ us then now else lastU un u := by
  unfold putR
  induction us using snocRec with
  | nil => simp
  | snoc us x ih =>
    rw [List.map_append, ← List.append_assoc]
    show lastU (_ ++ [⟨x, now⟩]) u = _
    rw [lastU_snoc, ih]
    by_cases c : x = u
    · simp [c]
    · have : u ≠ x := fun e => c e.symm
      simp [c, this]
/-- the program's map and the specification's list say the same -/
def KRel (kv : List (Int × Sw)) (un : List Pr) : Prop := ∀ u, (0 ≤ lastU un u ∧ mgz kv u = ⟨true, lastU un u⟩) ∨ (lastU un u < 0 ∧ mgz kv u = ⟨false, 0⟩)
theorem KRel.nil : KRel [] [] := fun _ => .inr ⟨by show (-1 : Int) < 0; decide, rfl⟩
theorem KRel.put {kv : List (Int × Sw)} {un : List Pr} (h : KRel kv un) {now : Int} (hn : 0 ≤ now) (us : List Int) : KRel (putU now kv us) (putR now un us) := fun u => by
  rw [lastU_putR, mgz_putU]
  by_cases c : u ∈ us
  · rw [if_pos c, if_pos c]; exact .inl ⟨hn, rfl⟩
  · rw [if_neg c, if_neg c]; exact h u
theorem KRel.due {kv : List (Int × Sw)} {un : List Pr} (h : KRel kv un) (P now u : Int) : dueB P now kv u = dueR P now un u := by
  unfold dueB dueR mayB
  rcases h u with ⟨h1, h2⟩ | ⟨h1, h2⟩
  · rw [h2, decide_eq_true h1]
    simp only [Bool.not_true, Bool.false_or, Bool.true_and]
    by_cases c : P ≤ now - lastU un u
    · rw [decide_eq_true c, decide_eq_false (by omega)]; rfl
    · rw [decide_eq_false c, decide_eq_true (by omega)]; rfl
  · have e : decide (0 ≤ lastU un u) = false := decide_eq_false (by omega)
    rw [h2, e]
    rfl
/-- a step's result: safe, and what was done -/
def tkO (now : Int) (wd sil safe : Bool) (us : List Int) : List Rcy := (if wd then [⟨now, 3, 0⟩] else []) ++ (if sil then [⟨now, 4, 0⟩] else []) ++ outU now us ++ (if safe then [⟨now, 1, 0⟩] else [])
end Go.V

set_option maxRecDepth 100000
set_option maxHeartbeats 8000000
namespace Go.V
open Go.Proofs
structure Gs where
  W : Int
  S : Int
  P : Int
  now : Int
  A : Int
  H : Int
  don : Bool
  rt : Int
  kv : List (Int × Sw)
  br : List Int
  vi : List Int
  al : Bool
/-- the guard as it lies -/
def GU (g : Gs) : List Ch := [.cells [.bool true, .int .i64 g.W, .int .i64 g.S, .int .i64 g.P, .int .i64 g.now, .int .i64 g.A, .int .i64 g.H, .bool g.don, .int .i64 g.rt, .mp 1, .sl 2 .int 0 g.br.length, .sl 3 .int 0 g.vi.length, .bool g.al], .map .int .sw g.kv, .rows .int g.br, .rows .int g.vi]
attribute [go_sem] GU
end Go.V

set_option maxRecDepth 100000
set_option maxHeartbeats 8000000
namespace Go.V
open Go.Proofs
structure Rs where
  W : Int
  S : Int
  P : Int
  now : Int
  A : Int
  H : Int
  rt : Int
  un : List Pr
  br : List Int
  vi : List Int
  al : Bool
def RL (r : Rs) : List AV := [.int .i64 r.W, .int .i64 r.S, .int .i64 r.P, .int .i64 r.now, .int .i64 r.A, .int .i64 r.H, .int .i64 r.rt, .ro .pr r.un, .ro .int r.br, .ro .int r.vi, .bool r.al]
attribute [go_sem] RL
end Go.V

set_option maxRecDepth 100000
set_option maxHeartbeats 16000000
namespace Go.V
open Go.Proofs Go.Lib
def wdG (g : Gs) (n : Int) : Bool := decide (g.W ≤ atT g.now n - g.A)
def silG (g : Gs) (n : Int) : Bool := decide (g.S ≤ atT g.now n - g.H) && mayB g.P (atT g.now n) ⟨g.don, g.rt⟩
def frG (g : Gs) (n : Int) : List Int := (sdl g.br).filter (dueB g.P (atT g.now n) g.kv)
def safeG (g : Gs) (n : Int) : Bool := (g.al || silG g n) || (frG g n).any (hasZ g.vi)
def tickO (g : Gs) (n : Int) : List Rcy := tkO (atT g.now n) (wdG g n) (silG g n) (safeG g n) (frG g n)
section
variable (W S P now A H0 : Int) (don : Bool) (rt : Int) (kv : List (Int × Sw)) (br vi : List Int) (al : Bool)
end
end Go.V

set_option maxRecDepth 100000
set_option maxHeartbeats 16000000
namespace Go.V
open Go.Proofs Go.Lib
def wdR (r : Rs) (n : Int) : Bool := decide (r.W ≤ atT r.now n - r.A)
def silR (r : Rs) (n : Int) : Bool := decide (r.S ≤ atT r.now n - r.H) && (decide (r.rt < 0) || decide (r.P ≤ atT r.now n - r.rt))
def frR (r : Rs) (n : Int) : List Int := (sdl r.br).filter (dueR r.P (atT r.now n) r.un)
def safeR (r : Rs) (n : Int) : Bool := (r.al || silR r n) || (frR r n).any (hasZ r.vi)
def tickRO (r : Rs) (n : Int) : List Rcy := tkO (atT r.now n) (wdR r n) (silR r n) (safeR r n) (frR r n)
section
variable (W S P now A H0 : Int) (rt : Int) (un : List Pr) (br vi : List Int) (al : Bool)
end
end Go.V

set_option maxRecDepth 100000
set_option maxHeartbeats 8000000
namespace Go.V
open Go.Proofs
/-- both say the same -/
structure JG (g : Gs) (r : Rs) : Prop where
  W : g.W = r.W
  S : g.S = r.S
  P : g.P = r.P
  now : g.now = r.now
  A : g.A = r.A
  H : g.H = r.H
  rt : (g.don = true ∧ g.rt = r.rt ∧ 0 ≤ r.rt) ∨ (g.don = false ∧ r.rt = -1)
  kv : KRel g.kv r.un
  br : g.br = r.br
  vi : g.vi = r.vi
  al : g.al = r.al
theorem JG.wd {g : Gs} {r : Rs} (j : JG g r) (n : Int) : wdG g n = wdR r n := by
  unfold wdG wdR
  rw [j.W, j.now, j.A]
theorem JG.sil {g : Gs} {r : Rs} (j : JG g r) (n : Int) : silG g n = silR r n := by
  unfold silG silR mayB
  dsimp only
  rw [j.S, j.now, j.H, j.P]
  rcases j.rt with ⟨h1, h2, h3⟩ | ⟨h1, h2⟩
  · have e : decide (r.rt < 0) = false := decide_eq_false (by omega)
    rw [h1, h2, e]
    rfl
  · have e : decide (r.rt < 0) = true := decide_eq_true (by omega)
    rw [h1, e]
    rfl
theorem JG.fr {g : Gs} {r : Rs} (j : JG g r) (n : Int) : frG g n = frR r n := by
  unfold frG frR
  rw [j.br, j.P, j.now]
  apply List.filter_congr
  intro u _
  exact j.kv.due r.P (atT r.now n) u
theorem JG.safe {g : Gs} {r : Rs} (j : JG g r) (n : Int) : safeG g n = safeR r n := by
  unfold safeG safeR
  rw [j.al, j.sil n, j.fr n, j.vi]
theorem JG.out {g : Gs} {r : Rs} (j : JG g r) (n : Int) : tickO g n = tickRO r n := by
  unfold tickO tickRO
  rw [j.now, j.wd n, j.sil n, j.safe n, j.fr n]
end Go.V

set_option maxRecDepth 100000
set_option maxHeartbeats 16000000
namespace Go.V
open Go.Proofs Go.Lib
def g0 (W S P now : Int) : Gs := ⟨W, S, P, now, now, now, false, 0, [], [], [], false⟩
end Go.V

namespace Go.V
open Go.Proofs
theorem b_gnewL (c : Cfg) (now : Int) : DoesK Try.prog 0 3 [.agg [.int .i64 c.wd, .int .i64 c.si, .int .i64 c.pa], .int .i64 now] [] (EndF 0 (.bool true) []) := b_gnew c.wd c.si c.pa now
theorem b_recL (c : Cfg) (al he : Bool) : DoesK Try.prog 0 4 [.agg [.int .i64 c.wd, .int .i64 c.si, .int .i64 c.pa], .bool al, .bool he] [] (EndF 0 (.bool true) []) := b_rec c.wd c.si c.pa al he
end Go.V

namespace Go.V
/-- all that lies in the memory at the start lies for good -/
def oldR (w : World) : RO := fun b => w.heap[b]?
theorem old_ok (w : World) : HOk (oldR w) [] [] w := ⟨trivial, by simp [ownH], fun b hb => by simp [ownH] at hb, fun _ _ h => h⟩
theorem cell_of {w : World} {a : Addr} {v : Value} (h : w.cell? a = some v) : a.spot = none ∧ ∃ arr ty fr, w.heap[a.block]? = some (.cells arr ty fr) ∧ arr[a.off]? = some v := by
  unfold World.cell? at h
  split at h
  · rename_i c ty fr hc
    split at h
    · simp at h
    · rename_i hs
      exact ⟨by simpa using hs, c, ty, fr, hc, h⟩
  · simp at h
theorem add_block (a : Addr) (i : Nat) : (a.add i).block = a.block := by
  unfold Addr.add
  split <;> rfl
theorem add_off (a : Addr) (i : Nat) : (a.add i).off = a.off + i := by
  unfold Addr.add
  split
  · simp_all
  · rfl
/-- some cells in a row -/
theorem cells_of {w : World} {base : Nat} {a : Addr} {n : Nat} {cs : List Value} (h : w.cells? base a n = some cs) (hn : 0 < n) : a.spot = none ∧ ∃ arr ty fr, w.heap[a.block]? = some (.cells arr ty fr) ∧ (arr.toList.drop a.off).take n = cs := by
  obtain ⟨_, hl, hg⟩ := World.cells?_some h
  have h0 := hg 0 hn
  rw [List.getElem?_eq_getElem (by omega)] at h0
  obtain ⟨hs, arr, ty, fr, hb, _⟩ := cell_of h0
  rw [add_block] at hb
  refine ⟨by simpa [Addr.add] using hs, arr, ty, fr, hb, ?_⟩
  apply List.ext_getElem?
  intro i
  by_cases hi : i < n
  · have h1 := hg i hi
    rw [List.getElem?_eq_getElem (show i < cs.length by omega)] at h1
    obtain ⟨_, arr', ty', fr', hb', h2⟩ := cell_of h1
    rw [add_block, hb] at hb'
    cases hb'
    rw [add_off] at h2
    rw [List.getElem?_take_of_lt hi, List.getElem?_drop, List.getElem?_eq_getElem (show i < cs.length by omega)]
    simpa using h2
  · rw [List.getElem?_eq_none (by simp; omega), List.getElem?_eq_none (by omega)]
/-- a type: what reads as data of it lies as one of these lists of abstract values -/
def Opens (P : Program) (w : World) (t : TypeId) (S : List AV → Prop) : Prop :=
  ∀ (H : Type) (enc : TypeId × Value → H) (base : Nat) (spare : Nat → Bool) (held : Bool) (fuel : Nat) (cs : List Value) (x : DataW H × List MemPlace), DataW.trod enc P w base spare held fuel t cs = some x → ∃ l, S l ∧ LRel (oldR w) [] l cs
section
variable {P : Program} {w : World}
theorem Opens.mono {t : TypeId} {S S' : List AV → Prop} (h : Opens P w t S) (hs : ∀ l, S l → S' l) : Opens P w t S' := fun H enc base spare held fuel cs x hx => by
  obtain ⟨l, h1, h2⟩ := h H enc base spare held fuel cs x hx
  exact ⟨l, hs l h1, h2⟩
theorem Opens.int {t : TypeId} {k : IntKind} (ht : P.underlying t = some (.int k)) : Opens P w t fun l => ∃ n, k.has n ∧ l = [.int k n] := fun H enc base spare held fuel cs x hx => by
  cases fuel with
  | zero => simp [DataW.trod] at hx
  | succ fuel =>
    unfold DataW.trod at hx
    simp only [ht] at hx
    split at hx
    all_goals first | (rename_i h1 _; cases h1; done) | skip
    all_goals simp_all
    rename_i k' n h1
    subst h1
    obtain ⟨⟨rfl, h2⟩, _⟩ := hx
    exact ⟨_, ⟨n, by simpa [Lit.wf, IntKind.has] using h2, rfl⟩, .cons .int .nil⟩
theorem Opens.bool {t : TypeId} (ht : P.underlying t = some .bool) : Opens P w t fun l => ∃ b, l = [.bool b] := fun H enc base spare held fuel cs x hx => by
  cases fuel with
  | zero => simp [DataW.trod] at hx
  | succ fuel =>
    unfold DataW.trod at hx
    simp only [ht] at hx
    split at hx
    all_goals simp_all
    rename_i b
    cases b
    · exact .inl (.cons .bool .nil)
    · exact .inr (.cons .bool .nil)
theorem Opens.struct {t : TypeId} {fs : Array Field} {Ss : List (List AV → Prop)} (ht : P.underlying t = some (.struct fs)) (hl : fs.size = Ss.length)
    (hS : ∀ (i : Nat) (f : Field) (S : List AV → Prop), fs[i]? = some f → Ss[i]? = some S → Opens P w f.type S)
    (hoff : ∀ (i : Nat) (f : Field), fs[i]? = some f → f.offset = ((fs.toList.take i).map fun g => P.cellsOf g.type).sum) (hsz : P.cellsOf t = (fs.toList.map fun g => P.cellsOf g.type).sum) :
    Opens P w t fun l => ∃ ls : List (List AV), ls.length = Ss.length ∧ (∀ (i : Nat) (S : List AV → Prop) (m : List AV), Ss[i]? = some S → ls[i]? = some m → S m) ∧ l = ls.flatten := fun H enc base spare held fuel cs x hx => by
  obtain ⟨xs, n, _, _, hlen, hxs, hf⟩ := DataW.trod_struct ht hx
  have key : ∀ k, k ≤ fs.size → ∃ ls : List (List AV), ls.length = k ∧ (∀ (i : Nat) (S : List AV → Prop) (m : List AV), Ss[i]? = some S → ls[i]? = some m → S m) ∧ LRel (oldR w) [] ls.flatten (cs.take (((fs.toList.take k).map fun g => P.cellsOf g.type).sum)) := by
    intro k
    induction k with
    | zero => intro _; exact ⟨[], rfl, fun i S m _ h => by simp at h, by simp; exact .nil⟩
    | succ k ih =>
      intro hk
      obtain ⟨ls, h1, h2, h3⟩ := ih (by omega)
      have hfk : fs[k]? = some fs[k] := by simp [show k < fs.size by omega]
      have hSk : Ss[k]? = some (Ss[k]'(by omega)) := by simp [show k < Ss.length by omega]
      have hx := hf k _ hfk
      rw [List.getElem?_eq_getElem (by omega)] at hx
      obtain ⟨m, h4, h5⟩ := hS k _ _ hfk hSk H enc base spare held n _ _ hx
      refine ⟨ls ++ [m], by simp [h1], fun i S m' hS' hm' => ?_, ?_⟩
      · by_cases hi : i < ls.length
        · rw [List.getElem?_append_left hi] at hm'
          exact h2 i S m' hS' hm'
        · have : i = k := by
            have := (List.getElem?_eq_some_iff.1 hm').1
            simp at this
            omega
          subst this
          rw [List.getElem?_append_right (by omega), h1] at hm'
          simp at hm'
          subst hm'
          rw [hSk] at hS'
          cases hS'
          exact h4
      · rw [List.flatten_append, List.flatten_singleton, List.take_succ_eq_append_getElem (show k < fs.toList.length by simp; omega), List.map_append, List.sum_append, List.take_add]
        rw [hoff k _ hfk] at h5
        have e : fs.toList[k] = fs[k] := by simp
        rw [e]
        simp only [List.map_cons, List.map_nil, List.sum_cons, List.sum_nil, Nat.add_zero]
        exact h3.app h5
  obtain ⟨ls, h1, h2, h3⟩ := key fs.size (Nat.le_refl _)
  refine ⟨ls.flatten, ⟨ls, by omega, h2, rfl⟩, ?_⟩
  rw [List.take_of_length_le (l := fs.toList) (by simp), ← hsz, ← hlen, List.take_length] at h3
  exact h3
def OpL (P : Program) (w : World) : List Field → List (List AV → Prop) → Prop
  | [], [] => True
  | f :: fs, S :: Ss => Opens P w f.type S ∧ OpL P w fs Ss
  | _, _ => False
def offB (P : Program) : List Field → Nat → Bool
  | [], _ => true
  | f :: fs, n => (f.offset == n) && offB P fs (n + P.cellsOf f.type)
theorem OpL.len : ∀ {fs : List Field} {Ss : List (List AV → Prop)}, OpL P w fs Ss → fs.length = Ss.length
  | [], [], _ => rfl
  | _ :: _, _ :: _, h => by simp [OpL.len h.2]
  | [], _ :: _, h => h.elim
  | _ :: _, [], h => h.elim
theorem OpL.get : ∀ {fs : List Field} {Ss : List (List AV → Prop)} (i : Nat) {f : Field} {S : List AV → Prop}, OpL P w fs Ss → fs[i]? = some f → Ss[i]? = some S → Opens P w f.type S
  | _ :: _, _ :: _, 0, _, _, h, e1, e2 => by simp at e1 e2; subst e1; subst e2; exact h.1
  | _ :: _, _ :: _, i + 1, _, _, h, e1, e2 => OpL.get i h.2 (by simpa using e1) (by simpa using e2)
  | [], [], _, _, _, _, e1, _ => by simp at e1
  | [], _ :: _, _, _, _, h, _, _ => h.elim
  | _ :: _, [], _, _, _, h, _, _ => h.elim
theorem offB_get : ∀ {fs : List Field} {n : Nat} (i : Nat) {f : Field}, offB P fs n = true → fs[i]? = some f → f.offset = n + ((fs.take i).map fun g => P.cellsOf g.type).sum
  | _ :: _, _, 0, _, h, e => by
    simp at e
    subst e
    simp only [offB, Bool.and_eq_true, beq_iff_eq] at h
    simpa using h.1
  | g :: fs, n, i + 1, _, h, e => by
    simp only [offB, Bool.and_eq_true, beq_iff_eq] at h
    have := offB_get i h.2 (by simpa using e)
    simp only [List.take_succ_cons, List.map_cons, List.sum_cons]
    omega
  | [], _, _, _, _, e => by simp at e
/-- a struct's fields lie one behind the other -/
theorem Opens.fields {t : TypeId} {fl : List Field} {Ss : List (List AV → Prop)} (ht : P.underlying t = some (.struct fl.toArray)) (hS : OpL P w fl Ss) (ho : offB P fl 0 = true) (hsz : P.cellsOf t = (fl.map fun g => P.cellsOf g.type).sum) :
    Opens P w t fun l => ∃ ls : List (List AV), ls.length = Ss.length ∧ (∀ (i : Nat) (S : List AV → Prop) (m : List AV), Ss[i]? = some S → ls[i]? = some m → S m) ∧ l = ls.flatten :=
  Opens.struct ht (by simpa using hS.len) (fun i f S h1 h2 => hS.get i (by simpa using h1) h2) (fun i f h => by simpa using offB_get i ho (by simpa using h)) hsz
/-- slices: of the kind of elements e, each as `ok` says -/
theorem Opens.slice {t te : TypeId} {e : Ety} {S : List AV → Prop} {ok : e.T → Prop} (ht : P.underlying t = some (.slice te)) (hsz : P.cellsOf te = e.sz) (he : Opens P w te S) (hok : ∀ l, S l → ∃ x : e.T, e.enc x = l ∧ ok x) :
    Opens P w t fun l => ∃ xs : List e.T, xs.length ≤ maxLen ∧ (∀ x ∈ xs, ok x) ∧ l = [.ro e xs] := fun H enc base spare held fuel cs x hx => by
  rcases DataW.trod_slice ht hx with ⟨rfl, _⟩ | ⟨a, len, cap, elems, rest, n, _, rfl, _, _, hlc, hcm, hel, hg, _⟩
  · exact ⟨[.ro e []], ⟨[], by simp, by simp, rfl⟩, .cons (.ro0 (Nat.zero_le _)) .nil⟩
  · by_cases h0 : len = 0
    · subst h0
      exact ⟨[.ro e []], ⟨[], by simp, by simp, rfl⟩, .cons (.ro0 hcm) .nil⟩
    · have hz := e.sz_pos
      have each : ∀ i, i < len → ∃ (m : e.T) (cs' : List Value), ok m ∧ LRel (oldR w) [] (e.enc m) cs' ∧ w.cells? base (a.add (i * e.sz)) e.sz = some cs' := by
        intro i hi
        have h1 := hg i hi
        rw [List.getElem?_eq_getElem (by omega), hsz] at h1
        obtain ⟨cs', h2, h3⟩ := Option.bind_eq_some_iff.1 h1
        obtain ⟨l, h4, h5⟩ := he H enc base spare held n _ _ h3
        obtain ⟨m, rfl, h6⟩ := hok l h4
        exact ⟨m, cs', h6, h5, h2⟩
      obtain ⟨_, _, _, _, hc0⟩ := each 0 (by omega)
      obtain ⟨hs, arr, ty, fr, hb, _⟩ := cells_of hc0 hz
      have hs0 : a.spot = none := by
        rw [Nat.zero_mul] at hs
        simpa [Addr.add] using hs
      rw [add_block] at hb
      have key : ∀ k, k ≤ len → ∃ xs : List e.T, xs.length = k ∧ (∀ x ∈ xs, ok x) ∧ LRel (oldR w) [] (xs.flatMap e.enc) ((arr.toList.drop a.off).take (k * e.sz)) := by
        intro k
        induction k with
        | zero => intro _; exact ⟨[], rfl, by simp, by simp; exact .nil⟩
        | succ k ih =>
          intro hk
          obtain ⟨xs, h1, h2, h3⟩ := ih (by omega)
          obtain ⟨m, cs', h4, h5, h6⟩ := each k (by omega)
          obtain ⟨_, arr', ty', fr', hb', h7⟩ := cells_of h6 hz
          rw [add_block, hb] at hb'
          cases hb'
          rw [add_off] at h7
          refine ⟨xs ++ [m], by simp [h1], fun x hx => ?_, ?_⟩
          · rcases List.mem_append.1 hx with hx | hx
            · exact h2 x hx
            · rw [List.mem_singleton] at hx
              subst hx
              exact h4
          · rw [List.flatMap_append, List.flatMap_singleton, Nat.succ_mul, List.take_add, List.drop_drop, h7]
            exact h3.app h5
      obtain ⟨xs, h1, h2, h3⟩ := key len (Nat.le_refl _)
      refine ⟨[.ro e xs], ⟨xs, by omega, h2, rfl⟩, .cons ?_ .nil⟩
      obtain ⟨ab, ao, sp⟩ := a
      simp only at hs0
      subst hs0
      rw [← h1]
      exact .ro hb (by rw [h1]; exact h3) (by omega) hcm
/-! ### Arguments -/
def OpensV (P : Program) (w : World) (t : TypeId) (S : AV → Prop) : Prop :=
  ∀ (H : Type) (enc : TypeId × Value → H) (r : Reach) (b0 : Nat) (v : Value) (d : DataW H) (p : List MemPlace), Value.okWide P w r b0 t v → DataW.Trod enc P w 0 (fun _ => true) true t v d p → ∃ a, S a ∧ Rel (oldR w) [] a v
theorem Opens.argS {t : TypeId} {fs : Array Field} {S : List AV → Prop} (ht : P.underlying t = some (.struct fs)) (h : Opens P w t S) : OpensV P w t fun a => ∃ l, S l ∧ a = .agg l := fun H enc r b0 v d p hv hd => by
  obtain ⟨fuel, hd⟩ := hd
  obtain ⟨l, h1, h2⟩ := h H enc _ _ _ fuel _ _ hd
  unfold Value.okWide at hv
  simp only [ht] at hv
  obtain ⟨cs, rfl, _, _⟩ := hv
  exact ⟨.agg l, ⟨l, h1, rfl⟩, by simpa [Value.cells] using Rel.agg h2⟩
theorem Opens.arg1 {t : TypeId} {S : List AV → Prop} (h : Opens P w t S) (ht : ∀ v r b0, Value.okWide P w r b0 t v → v.cells = #[v]) : OpensV P w t fun a => S [a] := fun H enc r b0 v d p hv hd => by
  obtain ⟨fuel, hd⟩ := hd
  obtain ⟨l, h1, h2⟩ := h H enc _ _ _ fuel _ _ hd
  rw [ht v r b0 hv] at h2
  cases h2 with
  | cons h3 h4 =>
    cases h4
    exact ⟨_, h1, h3⟩
theorem one_of {t : TypeId} {u : TypeDesc} (ht : P.underlying t = some u) (hu : (match u with | .bool | .int _ | .string | .slice _ => true | _ => false) = true) (v : Value) (r : Reach) (b0 : Nat) (hv : Value.okWide P w r b0 t v) : v.cells = #[v] := by
  unfold Value.okWide at hv
  cases u <;> simp at hu <;> simp only [ht] at hv <;> unfold Cell.okWide Cell.ok at hv <;> simp only [ht] at hv <;> cases v <;> first | rfl | (simp at hv; done)
end
/-- a call over nothing but what lies for good leaves what lay there as it is -/
theorem does_calls {P : Program} {g : FuncId} {xs : List AV} {S : AV → Prop} {vs : List Value} {w : World} (H : Does P g xs [] fun a _ => S a) (hr : LRel (oldR w) [] xs vs) : Calls P g vs.toArray w fun e w' => (∃ v a R μ, e = .returned v ∧ S a ∧ Rel R μ a v) ∧ Go.RowKit.Below w.heap.size w w' :=
  (H.run (oldR w) [] w vs hr (old_ok w)).mono fun e w' hx => by
    obtain ⟨v, R', μ', h', av, rfl, h1, h2, _, _, h3⟩ := hx
    exact ⟨⟨v, av, R', μ', rfl, h1, h2⟩, h3.os, h3.tape, h3.output, h3.size, fun k hk => h3.out k hk (by simp [ownH])⟩
theorem does_true {P : Program} {g : FuncId} {xs : List AV} {vs : List Value} {w : World} (H : Does P g xs [] fun a _ => a = .bool true) (hr : LRel (oldR w) [] xs vs) : Calls P g vs.toArray w fun e w' => e = .returned (.bool true) ∧ Go.RowKit.Below w.heap.size w w' :=
  (does_calls H hr).mono fun e w' hx => by
    obtain ⟨⟨v, a, R, μ, rfl, rfl, h2⟩, hb⟩ := hx
    cases h2
    exact ⟨rfl, hb⟩
end Go.V

set_option maxRecDepth 100000
namespace Go.V
open Go.Proofs
theorem byte_enc {n : Int} (h : IntKind.u8.has n) : Ety.enc .byte (UInt8.ofNat n.toNat) = [.int .u8 n] := by
  have h1 : 0 ≤ n ∧ n ≤ 255 := h
  have : ((UInt8.ofNat n.toNat).toNat : Int) = n := by simp; omega
  show [AV.int .u8 ((UInt8.ofNat n.toNat).toNat : Int)] = _
  rw [this]
def okS_Cfg (x : Cfg) : Prop := IntKind.i64.has x.wd ∧ IntKind.i64.has x.si ∧ IntKind.i64.has x.pa
theorem op_T3 (w : World) : Opens Try.prog w 3 fun l => ∃ n, IntKind.i64.has n ∧ l = [.int .i64 n] := Opens.int Try.underlying3
theorem op_T23 (w : World) : Opens Try.prog w 23 fun l => ∃ x : Cfg, okS_Cfg x ∧ l = [.int .i64 x.wd, .int .i64 x.si, .int .i64 x.pa] := by
  refine (Opens.fields Try.underlying23 (Ss := [_, _, _]) ⟨op_T3 w, op_T3 w, op_T3 w, trivial⟩ (by kernel_rfl) (by kernel_rfl)).mono ?_
  rintro l ⟨ls, h1, h2, rfl⟩
  obtain ⟨a0, a1, a2, rfl⟩ : ∃ a0 a1 a2, ls = [a0, a1, a2] := by
    match ls, h1 with
    | [a0, a1, a2], _ => exact ⟨a0, a1, a2, rfl⟩
  obtain ⟨x0, h10, rfl⟩ := h2 0 _ _ rfl rfl
  obtain ⟨x1, h11, rfl⟩ := h2 1 _ _ rfl rfl
  obtain ⟨x2, h12, rfl⟩ := h2 2 _ _ rfl rfl
  exact ⟨⟨x0, x1, x2⟩, ⟨h10, h11, h12⟩, rfl⟩
theorem arg_T23 (w : World) : OpensV Try.prog w 23 fun a => ∃ x : Cfg, okS_Cfg x ∧ a = .agg [.int .i64 x.wd, .int .i64 x.si, .int .i64 x.pa] := fun H enc r b0 v d p hv hd => by
  obtain ⟨a, ⟨l, ⟨c, hn, rfl⟩, rfl⟩, h⟩ := (op_T23 w).argS Try.underlying23 H enc r b0 v d p hv hd
  exact ⟨_, ⟨c, hn, rfl⟩, h⟩
theorem arg_T3 (w : World) : OpensV Try.prog w 3 fun a => ∃ n, IntKind.i64.has n ∧ a = .int .i64 n := fun H enc r b0 v d p hv hd => by
  obtain ⟨a, ⟨n, h1, e⟩, h⟩ := (op_T3 w).arg1 (one_of Try.underlying3 rfl) H enc r b0 v d p hv hd
  cases e
  exact ⟨_, ⟨n, h1, rfl⟩, h⟩
theorem op_T4 (w : World) : Opens Try.prog w 4 fun l => ∃ b, l = [.bool b] := Opens.bool Try.underlying4
theorem arg_T4 (w : World) : OpensV Try.prog w 4 fun a => ∃ b, a = .bool b := fun H enc r b0 v d p hv hd => by
  obtain ⟨a, ⟨n, e⟩, h⟩ := (op_T4 w).arg1 (one_of Try.underlying4 rfl) H enc r b0 v d p hv hd
  cases e
  exact ⟨_, ⟨n, rfl⟩, h⟩
def okS_Gca (x : Gca) : Prop := IntKind.i64.has x.unit ∧ True ∧ IntKind.i64.has x.ticks
theorem op_T37 (w : World) : Opens Try.prog w 37 fun l => ∃ x : Gca, okS_Gca x ∧ l = [.int .i64 x.unit, .bool x.vital, .int .i64 x.ticks] := by
  refine (Opens.fields Try.underlying37 (Ss := [_, _, _]) ⟨op_T3 w, op_T4 w, op_T3 w, trivial⟩ (by kernel_rfl) (by kernel_rfl)).mono ?_
  rintro l ⟨ls, h1, h2, rfl⟩
  obtain ⟨a0, a1, a2, rfl⟩ : ∃ a0 a1 a2, ls = [a0, a1, a2] := by
    match ls, h1 with
    | [a0, a1, a2], _ => exact ⟨a0, a1, a2, rfl⟩
  obtain ⟨x0, h10, rfl⟩ := h2 0 _ _ rfl rfl
  obtain ⟨x1, rfl⟩ := h2 1 _ _ rfl rfl
  obtain ⟨x2, h12, rfl⟩ := h2 2 _ _ rfl rfl
  exact ⟨⟨x0, x1, x2⟩, ⟨h10, trivial, h12⟩, rfl⟩
theorem arg_T37 (w : World) : OpensV Try.prog w 37 fun a => ∃ x : Gca, okS_Gca x ∧ a = .agg [.int .i64 x.unit, .bool x.vital, .int .i64 x.ticks] := fun H enc r b0 v d p hv hd => by
  obtain ⟨a, ⟨l, ⟨c, hn, rfl⟩, rfl⟩, h⟩ := (op_T37 w).argS Try.underlying37 H enc r b0 v d p hv hd
  exact ⟨_, ⟨c, hn, rfl⟩, h⟩
def okE_int (x : Ety.T .int) : Prop := IntKind.i64.has x
def okS_Gct (x : Gct) : Prop := IntKind.i64.has x.kind ∧ IntKind.i64.has x.now ∧ (x.l.length ≤ maxLen ∧ ∀ y ∈ x.l, okE_int y) ∧ (x.v.length ≤ maxLen ∧ ∀ y ∈ x.v, okE_int y)
theorem op_T38 (w : World) : Opens Try.prog w 38 fun l => ∃ xs : List (Ety.T .int), xs.length ≤ maxLen ∧ (∀ x ∈ xs, okE_int x) ∧ l = [.ro .int xs] :=
  Opens.slice (e := .int) (ok := okE_int) Try.underlying38 (by kernel_rfl) (op_T3 w) fun l ⟨n, h, e⟩ => ⟨n, e.symm, h⟩
theorem op_T48 (w : World) : Opens Try.prog w 48 fun l => ∃ x : Gct, okS_Gct x ∧ l = [.int .i64 x.kind, .int .i64 x.now, .ro .int x.l, .ro .int x.v] := by
  refine (Opens.fields Try.underlying48 (Ss := [_, _, _, _]) ⟨op_T3 w, op_T3 w, op_T38 w, op_T38 w, trivial⟩ (by kernel_rfl) (by kernel_rfl)).mono ?_
  rintro l ⟨ls, h1, h2, rfl⟩
  obtain ⟨a0, a1, a2, a3, rfl⟩ : ∃ a0 a1 a2 a3, ls = [a0, a1, a2, a3] := by
    match ls, h1 with
    | [a0, a1, a2, a3], _ => exact ⟨a0, a1, a2, a3, rfl⟩
  obtain ⟨x0, h10, rfl⟩ := h2 0 _ _ rfl rfl
  obtain ⟨x1, h11, rfl⟩ := h2 1 _ _ rfl rfl
  obtain ⟨x2, h12, g12, rfl⟩ := h2 2 _ _ rfl rfl
  obtain ⟨x3, h13, g13, rfl⟩ := h2 3 _ _ rfl rfl
  exact ⟨⟨x0, x1, x2, x3⟩, ⟨h10, h11, ⟨h12, g12⟩, ⟨h13, g13⟩⟩, rfl⟩
def okE_gct (x : Ety.T .gct) : Prop := okS_Gct x
theorem op_T42 (w : World) : Opens Try.prog w 42 fun l => ∃ xs : List (Ety.T .gct), xs.length ≤ maxLen ∧ (∀ x ∈ xs, okE_gct x) ∧ l = [.ro .gct xs] :=
  Opens.slice (e := .gct) (ok := okE_gct) Try.underlying42 (by kernel_rfl) (op_T48 w) fun l ⟨x, h, e⟩ => ⟨x, e.symm, h⟩
theorem arg_T42 (w : World) : OpensV Try.prog w 42 fun a => ∃ xs : List (Ety.T .gct), xs.length ≤ maxLen ∧ (∀ x ∈ xs, okE_gct x) ∧ a = .ro .gct xs := fun H enc r b0 v d p hv hd => by
  obtain ⟨a, ⟨n, h1, h2, e⟩, h⟩ := (op_T42 w).arg1 (one_of Try.underlying42 rfl) H enc r b0 v d p hv hd
  cases e
  exact ⟨_, ⟨n, h1, h2, rfl⟩, h⟩
/-- a law that was walked -/
theorem law_true {g : FuncId} {la : List AV} {vs : List Value} {w : World} (H : DoesK Try.prog 0 g la [] (EndF 0 (.bool true) [])) (hb : brL [] [] la la) (hr : LRel (oldR w) [] la vs) : Calls Try.prog g vs.toArray w fun e w' => e = .returned (.bool true) ∧ Go.RowKit.Below w.heap.size w w' :=
  does_true (frame_pure H hb (.inr rfl) (fun _ => rfl) rfl) hr
end Go.V
