/-
  How the evaluation opens what is asked, from the outside in; small rules of the walk.
  A drawn region in which two operations may change places: one order, and the other.
  Loops over a memory that is whatever it is: the state behind a round is the state at hand.
  The kinds of this seat, for the evaluation.
  Numbers and lists of bytes, with no program in sight: zigzag, base-128 and big-endian encodings.
-/
import Derived.Test.YtpnfoffggcfhfaaPart05
set_option linter.unusedVariables false
set_option linter.unusedSimpArgs false
namespace Go.V
theorem mmgo_def (mx : Bool) (k : IntKind) (x : Int) (l : List AV) (K : AV → Prop) : mmK.go mx k x l K = match l with
  | [] => K (.int k x)
  | a :: r => (match a with | .int _ y => mmK.go mx k (if mx then max x y else min x y) r K | _ => False) := by
  cases l with
  | nil => rfl
  | cons a l => cases a <;> rfl
theorem frzP_def (l : List (Nat × AV)) (h : List Ch) (K : List (Nat × AV) → List Ch → Prop) : frzP l h K = match l with
  | [] => K [] h
  | p :: l => frzX p.2 h fun x h => frzP l h fun l h => K ((p.1, x) :: l) h := by cases l <;> rfl
theorem frzL_def (l : List AV) (h : List Ch) (K : List AV → List Ch → Prop) : frzL l h K = match l with
  | [] => K [] h
  | a :: l => frz1 a h fun a h => frzL l h fun l h => K (a :: l) h := by cases l <;> rfl
theorem elemsK_def (e : Ety) (l : List (Nat × AV)) (j : Nat) (K : List e.T → Prop) : elemsK e l j K = match l with
  | [] => K []
  | p :: r => (match e.dec (cellsA p.2) with
    | some y => (p.1 = j ∧ okCells (cellsA p.2) ∧ tfs (cellsA p.2) ∧ e.decOk (cellsA p.2)) ∧ elemsK e r (j + 1) fun ys => K (y :: ys)
    | none => False) := by cases l <;> rfl
theorem fillK_def (place : Nat → Option (Nat × Nat)) (zs : List AV) (l : List (Nat × AV)) (K : List AV → Prop) : fillK place zs l K = match l with
  | [] => K zs
  | p :: r => (match place p.1 with
    | some q => ((cellsA p.2).length = q.2 ∧ q.1 + q.2 ≤ zs.length) ∧ okCells (cellsA p.2) ∧ fillK place (setA zs q.1 (cellsA p.2)) r K
    | none => False) := by
  cases l with
  | nil => rfl
  | cons p r =>
    simp only [fillK]
    cases place p.1 <;> rfl
theorem resK_def (P : Program) (l : List ResultVar) (tm : List AV) (h : List Ch) (K : List AV → Prop) : resK P l tm h K = match l with
  | [] => K []
  | r :: l => (match r with
    | .tmp t => resK P l tm h fun l => K (nthA tm t :: l)
    | .cell a t => loadK P t (nthA tm a) h fun v => resK P l tm h fun l => K (v :: l)) := by
  cases l with
  | nil => rfl
  | cons r l => cases r <;> rfl

/-- a claim that the evaluation does not look into -/
class Hold where
  val : Prop
def hideB (b : Bool) [A : Hold] [B : Hold] : Prop := splitB b A.val B.val
theorem hideB_true (A B : Hold) : @hideB true A B = A.val := splitB_true _ _
theorem hideB_false (A B : Hold) : @hideB false A B = B.val := splitB_false _ _
theorem hideB_i {b : Bool} {A B : Hold} (h1 : b = true → A.val) (h2 : b = false → B.val) : @hideB b A B := ⟨h1, h2⟩
theorem pickK_def (c a b : AV) (K : AV → Prop) : pickK c a b K = match c with
  | .bool c => @hideB c ⟨K a⟩ ⟨K b⟩
  | _ => False := by unfold pickK hideB; cases c <;> rfl
theorem w_res {P : Program} {tm : List AV} {h : List Ch} {rs : List ResultVar} {K : List AV → Prop} (H : resK P rs tm h K) : resK P rs tm h K := H

/-! ### Arguments that are lent -/
section
variable {σ : List Nat} {h : List Ch}
theorem br_cons {g a : AV} {gs as : List AV} (h1 : brA σ h g a) (h2 : brL σ h gs as) : brL σ h (g :: gs) (a :: as) := by
  simp only [brL]
  exact ⟨h1, h2⟩
theorem br_nil : brL σ h [] [] := trivial
theorem br_int {k : IntKind} {n : Int} : brA σ h (.int k n) (.int k n) := by simp only [brA, fitA, and_self]
theorem br_bool {b : Bool} : brA σ h (.bool b) (.bool b) := rfl
theorem br_str {s : List UInt8} : brA σ h (.str s) (.str s) := rfl
theorem br_any {a : AV} : brA σ h .any a := trivial
theorem br_lit {v : Value} : brA σ h (.lit v) (.lit v) := rfl
theorem br_agg {l l' : List AV} (h1 : brL σ h l l') : brA σ h (.agg l) (.agg l') := h1
theorem br_ro {e : Ety} {xs : List e.T} : brA σ h (.ro e xs) (.ro e xs) := by
  simp only [brA, fitA, asE_self]
theorem br_ro0 {e : Ety} : brA σ h (.ro e []) (.lit (.slice none 0 0)) := rfl
theorem br_rp {e : Ety} {xs : List e.T} {i off : Nat} : brA σ h (.rp e xs i off) (.rp e xs i off) := by
  simp only [brA, fitA, asE_self, and_self]
theorem br_sl {e : Ety} {ys : List e.T} {t s n : Nat} (hh : hth h t = .rows e ys) (hl : s + n ≤ ys.length) (hn : t ∉ σ) : brA σ h (.ro e ((ys.drop s).take n)) (.sl t e s n) := by
  simp only [brA, hh, asE_self, hl, hn, not_false_eq_true, and_self]
theorem br_full {e : Ety} {ys : List e.T} {t n : Nat} (hh : hth h t = .rows e ys) (hl : n = ys.length) (hn : t ∉ σ) : brA σ h (.ro e ys) (.sl t e 0 n) := by
  subst hl
  have := br_sl (s := 0) (n := ys.length) hh (by simp) hn
  simpa using this
theorem br_ptr {t t' off : Nat} (hs : σ[t]? = some t') : brA σ h (.ptr t off) (.ptr t' off) := by simp only [brA, fitA, hs, and_self]
/-- nothing is lent -/
def isRO (e : Ety) (xs : List e.T) (a : AV) : Prop := a = .ro e xs ∨ (a = .lit (.slice none 0 0) ∧ xs = [])
theorem isRO_ro {e : Ety} {xs : List e.T} : isRO e xs (.ro e xs) := .inl rfl
theorem isRO_nil {e : Ety} : isRO e [] (.lit (.slice none 0 0)) := .inr ⟨rfl, rfl⟩
theorem isRO.br {σ : List Nat} {h : List Ch} {e : Ety} {xs : List e.T} {a : AV} (H : isRO e xs a) : brA σ h (.ro e xs) a := by
  rcases H with rfl | ⟨rfl, rfl⟩
  · exact br_ro
  · exact br_ro0
theorem isRO.brT {e : Ety} {xs : List e.T} {a : AV} (H : isRO e xs a) : V.brT (.ro e xs) a = [] := by
  rcases H with rfl | ⟨rfl, rfl⟩ <;> rfl

/-! ### Frames of common shapes -/
section
variable {P : Program} {g : FuncId} {h : List Ch}
/-- nothing is handed over, nothing is new -/
theorem frame_pure {la as : List AV} {ret : AV} {K : KT} (hb : DoesK P 0 g la [] (EndF 0 ret [])) (hbr : brL [] h la as) (hrf : brTL la as = [] ∨ (rfA ret && true && true) = true) (hret : ∀ ρ, renA ρ ret = ret) (HK : K ret h) : Does P g as h K :=
  Does.frame (σ := []) (la := la) (lh := []) (ret := ret) (obj := []) (cs := []) hb rfl hbr trivial .nil hrf (by
    show K (renA _ ret) (h ++ [])
    rw [hret, List.append_nil]
    exact HK)
/-- one new chunk, the result shows it -/
theorem frame_new {la as : List AV} {ret ret' : AV} {c : Ch} {K : KT} (hb : DoesK P 0 g la [] (EndF 0 ret [c])) (hbr : brL [] h la as) (hrf : brTL la as = [] ∨ (rfA ret && true && (rfC c && true)) = true) (hc : ∀ ρ, renC ρ c = c) (hret : renA (rhoC [] h.length) ret = ret') (HK : K ret' (h ++ [c])) : Does P g as h K :=
  Does.frame (σ := []) (la := la) (lh := []) (ret := ret) (obj := []) (cs := [c]) hb rfl hbr trivial .nil hrf (by
    show K (renA _ ret) (h ++ [renC _ c])
    rw [hret, hc]
    exact HK)
/-- one object is handed over -/
theorem frame_obj {t : Nat} {la as : List AV} {ret ret' : AV} {c c' : Ch} {cs : List Ch} {K : KT} (hb : DoesK P 1 g la [c] (EndF 1 ret ([c'] ++ cs))) (ht : hth h t = c) (hg : c ≠ .gone) (hcc : ∀ σ, fitC σ c c) (hbr : brL [t] h la as) (hrf : brTL la as = [] ∨ (rfA ret && (rfC c' && true) && rfCs cs) = true)
    (hc : ∀ ρ, renC ρ c' = c') (hcs : ∀ ρ, renCs ρ cs = cs) (hret : renA (rhoC [t] h.length) ret = ret') (HK : K ret' (h.set t c' ++ cs)) : Does P g as h K :=
  Does.frame (σ := [t]) (la := la) (lh := [c]) (ret := ret) (obj := [c']) (cs := cs) hb rfl hbr ⟨hth_lt (by rw [ht]; exact hg), by rw [ht]; exact hcc _, trivial⟩ (by simp) hrf (by
    show K (renA _ ret) ((h.set t .gone).set t (renC _ c') ++ renCs _ cs)
    rw [List.set_set, hret, hc, hcs]
    exact HK)
/-- one object is handed over, nothing is new -/
theorem frame_obj0 {t : Nat} {la as : List AV} {ret ret' : AV} {c c' : Ch} {K : KT} (hb : DoesK P 1 g la [c] (EndF 1 ret ([c'] ++ []))) (ht : hth h t = c) (hg : c ≠ .gone) (hcc : ∀ σ, fitC σ c c) (hbr : brL [t] h la as) (hrf : brTL la as = [] ∨ (rfA ret && (rfC c' && true) && true) = true)
    (hc : ∀ ρ, renC ρ c' = c') (hret : renA (rhoC [t] h.length) ret = ret') (HK : K ret' (h.set t c')) : Does P g as h K :=
  frame_obj hb ht hg hcc hbr hrf hc (fun _ => rfl) hret (by rw [List.append_nil]; exact HK)
theorem set_hth {h : List Ch} {t : Nat} {c : Ch} (ht : hth h t = c) (hg : c ≠ .gone) : h.set t c = h := by
  have := hth_get ht hg
  obtain ⟨hlt, he⟩ := List.getElem?_eq_some_iff.1 this
  rw [← he]
  exact List.set_getElem_self hlt
/-- one object is handed over and looked at -/
theorem frame_look {t : Nat} {la as : List AV} {ret ret' : AV} {c : Ch} {K : KT} (hb : DoesK P 1 g la [c] (EndF 1 ret ([c] ++ []))) (ht : hth h t = c) (hg : c ≠ .gone) (hcc : ∀ σ, fitC σ c c) (hbr : brL [t] h la as) (hrf : brTL la as = [] ∨ (rfA ret && (rfC c && true) && true) = true)
    (hc : ∀ ρ, renC ρ c = c) (hret : renA (rhoC [t] h.length) ret = ret') (HK : K ret' h) : Does P g as h K :=
  frame_obj hb ht hg hcc hbr hrf hc (fun _ => rfl) hret (by rw [set_hth ht hg, List.append_nil]; exact HK)
theorem fitC_pack (l : List Ch) (σ : List Nat) : fitC σ (.pack l) (.pack l) := rfl
theorem fitC_rows (e : Ety) (xs : List e.T) (σ : List Nat) : fitC σ (.rows e xs) (.rows e xs) := by
  simp only [fitC, asE_self]
end

theorem and_k {A B : Prop} (h2 : B) (h1 : A) : A ∧ B := ⟨h1, h2⟩

/-- an object of one chunk is closed ahead of a call -/
theorem does_close1 {P : Program} {g : FuncId} {h : List Ch} {t : Nat} {vs as : List AV} {K : KT} (hc : hth h t = .cells vs) (hf : fitL [t] vs vs) (H : Does P g (.ptr t 0 :: as) (h.set t (.pack [.cells vs])) K) : Does P g (.ptr t 0 :: as) h K :=
  Does.ghost (gh_close (t := t) (ts := []) (l := [.cells vs]) ⟨⟨_, _, rfl⟩, ⟨hth_lt (by rw [hc]; simp), by rw [hc]; exact hf, trivial⟩, by simp⟩) H

/-! ### Memory -/
/-- the object is opened -/
theorem w_open {P : Program} {k : Nat} {c : Code} {tm : List AV} {h h' : List Ch} {q : Post} {vs : List AV} {rest : List Ch} (t : Nat) (hc : hth h t = .pack (.cells vs :: rest)) (he : openH h t vs rest = h') (H : Wp P k c tm h' q) : Wp P k c tm h q :=
  Wp.ghost (gh_open hc) (he ▸ H)

/-! ### Drawn regions -/
section
variable [ETab] {P : Program} {all : List Oper} {Fin : List AV → List Ch → Prop} {r : List Oper} {i : Nat} {tm : List AV} {h : List Ch} {ps : List Rec} {hs : List (Nat × List Ch)}
theorem d_nil (H : Fin tm h) : DW P all Fin [] i tm h ps hs := .nil H
theorem d_pure {d : Option Nat} {op : Op} {ty : TypeId} {pos : String} {af : Array Edge} (v : AV) (hf : ∀ K : KT, K v h → opK P op tm h K) (hh : ∀ p ∈ hs, reachB all i p.1 = false → Fact P op tm p.2 v p.2)
    (H : ∀ tm', tm' = putA tm d v → DW P all Fin r (i + 1) tm' h (⟨i, op, tm, v⟩ :: ps) hs) : DW P all Fin (⟨d, op, ty, pos, af, none⟩ :: r) i tm h ps hs :=
  .pure v (.inl rfl) hf hh (H _ rfl)
theorem d_heap {d : Option Nat} {op : Op} {ty : TypeId} {pos : String} {af : Array Edge} (v : AV) (h' : List Ch) (hf : ∀ K : KT, K v h' → opK P op tm h K) (hh : ∀ p ∈ hs, reachB all i p.1 = true) (hp : ∀ p ∈ ps, reachB all i p.i = false → Fact P p.o p.tm h' p.v h')
    (H : ∀ tm', tm' = putA tm d v → DW P all Fin r (i + 1) tm' h' ps ((i, h) :: hs)) : DW P all Fin (⟨d, op, ty, pos, af, none⟩ :: r) i tm h ps hs :=
  .heap v h' (.inl rfl) hf hh hp (H _ rfl)
theorem d_run_pure {d : Option Nat} {op : Op} {ty : TypeId} {pos : String} {af : Array Edge} {j t : Nat} {w : Bool} (hd : dstAt all j = some t) (hb : nthA tm t = .bool w) (v : AV) (hf : ∀ K : KT, K v h → opK P op tm h K) (hh : ∀ p ∈ hs, reachB all i p.1 = false → Fact P op tm p.2 v p.2)
    (H : ∀ tm', tm' = putA tm d v → DW P all Fin r (i + 1) tm' h (⟨i, op, tm, v⟩ :: ps) hs) : DW P all Fin (⟨d, op, ty, pos, af, some (j, w)⟩ :: r) i tm h ps hs :=
  .pure v (.inr ⟨j, w, t, rfl, hd, hb⟩) hf hh (H _ rfl)
theorem d_run_heap {d : Option Nat} {op : Op} {ty : TypeId} {pos : String} {af : Array Edge} {j t : Nat} {w : Bool} (hd : dstAt all j = some t) (hb : nthA tm t = .bool w) (v : AV) (h' : List Ch) (hf : ∀ K : KT, K v h' → opK P op tm h K) (hh : ∀ p ∈ hs, reachB all i p.1 = true) (hp : ∀ p ∈ ps, reachB all i p.i = false → Fact P p.o p.tm h' p.v h')
    (H : ∀ tm', tm' = putA tm d v → DW P all Fin r (i + 1) tm' h' ps ((i, h) :: hs)) : DW P all Fin (⟨d, op, ty, pos, af, some (j, w)⟩ :: r) i tm h ps hs :=
  .heap v h' (.inr ⟨j, w, t, rfl, hd, hb⟩) hf hh hp (H _ rfl)
theorem d_pass {d : Option Nat} {op : Op} {ty : TypeId} {pos : String} {af : Array Edge} {j t : Nat} {w : Bool} (hd : dstAt all j = some t) (hb : nthA tm t = .bool (!w)) (H : ∀ tm', tm' = putA tm d (.lit undef) → DW P all Fin r (i + 1) tm' h ps hs) : DW P all Fin (⟨d, op, ty, pos, af, some (j, w)⟩ :: r) i tm h ps hs :=
  .skip j t w rfl hd (.inl hb) (H _ rfl)
theorem d_passu {d : Option Nat} {op : Op} {ty : TypeId} {pos : String} {af : Array Edge} {j t : Nat} {w : Bool} (hd : dstAt all j = some t) (hb : nthA tm t = .lit undef) (H : ∀ tm', tm' = putA tm d (.lit undef) → DW P all Fin r (i + 1) tm' h ps hs) : DW P all Fin (⟨d, op, ty, pos, af, some (j, w)⟩ :: r) i tm h ps hs :=
  .skip j t w rfl hd (.inr hb) (H _ rfl)
/-- a boolean that is not known is looked at -/
theorem d_split {j t : Nat} {w b : Bool} {o : Oper} (_hg : o.guard = some (j, w)) (_hd : dstAt all j = some t) (_hb : nthA tm t = .bool b)
    (H1 : b = true → DW P all Fin (o :: r) i tm h ps hs) (H2 : b = false → DW P all Fin (o :: r) i tm h ps hs) : DW P all Fin (o :: r) i tm h ps hs := by
  cases b
  · exact H2 rfl
  · exact H1 rfl
omit [ETab] in
theorem all_nil {α : Type} {p : α → Prop} : ∀ x ∈ ([] : List α), p x := fun x hx => by cases hx
omit [ETab] in
theorem all_cons' {α : Type} {p : α → Prop} {a : α} {l : List α} (h2 : ∀ x ∈ l, p x) (h1 : p a) : ∀ x ∈ a :: l, p x := fun x hx => by
  rcases List.mem_cons.1 hx with rfl | hx
  · exact h1
  · exact h2 x hx
omit [ETab] in
theorem all_cons {α : Type} {p : α → Prop} {a : α} {l : List α} (h1 : p a) (h2 : ∀ x ∈ l, p x) : ∀ x ∈ a :: l, p x := fun x hx => by
  rcases List.mem_cons.1 hx with rfl | hx
  · exact h1
  · exact h2 x hx
end
attribute [go_sem ↓] slice3K clearK appInK appRcK rangeK nextK entryK lookupK mupdK mmapK mdelK mlenK len2K mkK eqSK eqNK eqCell eqFlds opK binK ibin shK sbin eqK unK convHK convK fldAddrK idxAddrK idxK loK sliceK nilCheckK extractK pickK_def lenTK fieldK callK loadK loadCellsK storeK openK allocK boxK srcK appSrcK appK bsK bsR frzX frz1 frzV buildK mmgo_def frzP_def frzL_def elemsK_def fillK_def resK_def hideB_true hideB_false nthA dstAt
attribute [go_sem] sliceHK_none sliceHK_ro isTmp slR zoneT okCells asM_self allP_nil KTy.av KTy.of KTy.kd lookR decV okV valA zokV Ety.dflt Int.natCast_zero Int.natCast_one List.take_length List.length_take Nat.min_self Int.toNat_natCast Int.toNat_zero Nat.mul_one Option.isNone_none Option.isNone_some Option.getD_none Option.getD_some Option.isSome_some Option.isSome_none maxBytes evA evAs evPs optA nthA List.set_cons_zero List.set_cons_succ List.set_nil writes dsts killT liveT setH Option.bind_some Option.bind_none ofV partA allN setA cellsA okCells tfs aggT hth zlenT openH renA renL renC renCs rhoO rhoC asE_self bytesOf Ety.enc Ety.dec Ety.sz Ety.decOk okByte roA AV.cell AV.tf Value.oneCell' retA fitA fitL fitC fitHs closeH goneH setHL frA frL frC frHs frOb frObL frObC frObH isNil rfA rfL rfC rfCs Ety.flat brTL brT List.map_cons List.map_nil List.length_cons List.length_nil List.length_set List.length_append List.cons_append List.nil_append List.append_nil List.drop_succ_cons List.drop_zero List.take_succ_cons List.take_zero Nat.zero_add Nat.add_zero List.replicate_succ List.replicate_zero List.getElem?_cons_zero List.getElem?_cons_succ List.replicate List.toList_toArray Bool.false_eq_true if_true if_false and_true true_and and_self implies_true forall_const List.range_zero exists_eq_left exists_eq_left' ne_eq not_false_eq_true not_true_eq_false
/-- no loop at the head -/
def notLoop : Code → Bool
  | .block _ (.loop _) => false
  | _ => true
theorem w_seqN {P : Program} {k : Nat} {a b : Code} {tm : List AV} {h : List Ch} {q : Post} (_ : notLoop a = true) (H : ∀ K : List AV → List Ch → Prop, (∀ tm h, Wp P k b tm h q → K tm h) → Wp P k a tm h ⟨K, q.x, q.r⟩) : Wp P k (.seq a b) tm h q := w_seq H
end Go.V

namespace Go.V
section
variable {P : Program} {Q : Exit → Act → World → Prop}
structure Sim (π : Nat → Nat) (X Y : Nat) (l l' : Array Oper) : Prop where
  ne : X ≠ Y
  inv : ∀ j, π (π j) = j
  op : ∀ j o, l[j]? = some o → ∃ o', l'[π j]? = some o' ∧ o'.op = o.op ∧ o'.dst = o.dst ∧ o'.type = o.type ∧ o'.pos = o.pos ∧ o'.guard = o.guard.map (fun x => (π x.1, x.2))
  no : ∀ j, l[j]? = none → l'[π j]? = none
  e1 : ∀ j o o', l[j]? = some o → l'[π j]? = some o' → ∀ e' ∈ o'.after, Region.binds .any e' = true → (∃ e ∈ o.after, Region.binds .any e = true ∧ e'.on = π e.on) ∨ (j = X ∧ e'.on = π Y)
  e2 : ∀ j o o', l[j]? = some o → l'[π j]? = some o' → ∀ e ∈ o.after, Region.binds .any e = true → ∃ e' ∈ o'.after, Region.binds .any e' = true ∧ e'.on = π e.on
theorem upon_same {o o' : Oper} (h1 : o'.op = o.op) (h2 : o'.dst = o.dst) (h3 : o'.type = o.type) (h4 : o'.pos = o.pos) {a : Act} {w : World} {K : Act → World → Prop} :
    (o'.wp P a w K Q → o.wp P a w K Q) ∧ (o'.asks P a w → o.asks P a w) := by
  obtain ⟨d, op, ty, pos, af, g⟩ := o
  obtain ⟨d', op', ty', pos', af', g'⟩ := o'
  dsimp only at h1 h2 h3 h4
  subst h1 h2 h3 h4
  exact ⟨fun h => h, fun h => h⟩
theorem wanted_sim {π : Nat → Nat} {X Y : Nat} {l l' : Array Oper} (S : Sim π X Y l l') {o o' : Oper} (hg : o'.guard = o.guard.map (fun x => (π x.1, x.2))) (tmps : Array Value) : Region.wanted o' (yielded l' tmps) = Region.wanted o (yielded l tmps) := by
  have hy : ∀ j, yielded l' tmps (π j) = yielded l tmps j := fun j => by
    unfold yielded
    cases h : l[j]? with
    | none => rw [S.no j h]
    | some o1 =>
      obtain ⟨o2, h2, _, h3, _⟩ := S.op j o1 h
      rw [h2]
      simp only [Option.bind_some, h3]
  unfold Region.wanted
  rw [hg]
  cases o.guard with
  | none => rfl
  | some x => simp only [Option.map_some, hy]
theorem wpOp_sim {π : Nat → Nat} {X Y : Nat} {l l' : Array Oper} (S : Sim π X Y l l') {i : Nat} {K : Act → World → Prop} {a : Act} {w : World} (h : wpOp P l' Q (π i) K a w) : wpOp P l Q i K a w := by
  unfold wpOp at *
  cases hi : l[i]? with
  | none =>
    rw [S.no i hi] at h
    exact h
  | some o =>
    obtain ⟨o', h1, h2, h3, h4, h5, h6⟩ := S.op i o hi
    rw [h1] at h
    simp only at h ⊢
    rw [wanted_sim S h6] at h
    split
    · rename_i hw
      rw [if_pos hw] at h
      obtain ⟨u1, u2⟩ := upon_same (P := P) (Q := Q) (a := a) (w := w) (K := K) h2 h3 h4 h5
      exact h.imp u1 fun x => ⟨u2 x.1, x.2⟩
    · rename_i hw
      rw [if_neg hw] at h
      rw [← h3]
      exact h
theorem ready_bwd {π : Nat → Nat} {X Y : Nat} {l l' : Array Oper} (S : Sim π X Y l l') {listed listed' : Array Bool} (hl : ∀ j d, listed'.getD (π j) d = listed.getD j d) {j : Nat} (h : π j ∈ Region.ready .any l' listed') : j ∈ Region.ready .any l listed := by
  obtain ⟨h1, o', ho', h2⟩ := mem_ready.1 h
  rw [hl] at h1
  cases ho : l[j]? with
  | none => rw [S.no j ho] at ho'; cases ho'
  | some o =>
    refine mem_ready.2 ⟨h1, o, ho, fun e he hb => ?_⟩
    obtain ⟨e', he', hb', hon⟩ := S.e2 j o o' ho ho' e he hb
    have := h2 e' he' hb'
    rw [hon, hl] at this
    exact this
theorem ready_fwd {π : Nat → Nat} {X Y : Nat} {l l' : Array Oper} (S : Sim π X Y l l') {listed listed' : Array Bool} (hl : ∀ j d, listed'.getD (π j) d = listed.getD j d) {j : Nat} (h : j ∈ Region.ready .any l listed) (hf : j = X → listed.getD Y false = true) : π j ∈ Region.ready .any l' listed' := by
  obtain ⟨h1, o, ho, h2⟩ := mem_ready.1 h
  obtain ⟨o', ho', _⟩ := S.op j o ho
  refine mem_ready.2 ⟨by rw [hl]; exact h1, o', ho', fun e' he' hb' => ?_⟩
  rcases S.e1 j o o' ho ho' e' he' hb' with ⟨e, he, hb, hon⟩ | ⟨hX, hon⟩
  · rw [hon, hl]
    exact h2 e he hb
  · rw [hon, hl]
    exact hf hX
/-- X does not come ahead of Y -/
def okO (X Y : Nat) : List Nat → Bool
  | [] => true
  | i :: r => if i = Y then true else if i = X then false else okO X Y r
theorem okO_or {X Y : Nat} : ∀ {l : List Nat}, okO X Y l = false → okO Y X l = true
  | [], h => by simp [okO] at h
  | i :: r, h => by
    unfold okO at h ⊢
    by_cases c : i = X
    · rw [if_pos c]
    · rw [if_neg c]
      by_cases d : i = Y
      · rw [if_pos d] at h; cases h
      · rw [if_neg d, if_neg c] at h
        rw [if_neg d]
        exact okO_or h
theorem run_sim {π : Nat → Nat} {X Y : Nat} {l l' : Array Oper} (S : Sim π X Y l l') : ∀ (fuel t : Nat) (listed listed' : Array Bool) (a : Act) (w : World), (∀ j d, listed'.getD (π j) d = listed.getD j d) →
    (listed.getD Y false = true ∨ okO X Y (Region.linearise.go .any l fuel t listed []) = true) → wpAny P .any l' Q fuel listed' a w → wpOps P l Q (Region.linearise.go .any l fuel t listed []) a w := by
  intro fuel
  induction fuel with
  | zero => intro t listed listed' a w _ _ h; simpa [Region.linearise.go, wpOps] using h.2
  | succ fuel ih =>
    intro t listed listed' a w hl hf h
    obtain ⟨h₀, h₁⟩ := h
    have hgo : Region.linearise.go .any l (fuel + 1) t listed [] = (match (Region.ready .any l listed)[t % (Region.ready .any l listed).length]? with
      | some i => Region.linearise.go .any l fuel (t / (Region.ready .any l listed).length) (listed.setIfInBounds i true) [i]
      | none => [].reverse) := by
      rw [Region.linearise.go]
      rfl
    rw [hgo] at hf ⊢
    cases hi : (Region.ready .any l listed)[t % (Region.ready .any l listed).length]? with
    | none =>
      have hnil : Region.ready .any l listed = [] := by
        cases hr : Region.ready .any l listed with
        | nil => rfl
        | cons x xs =>
          rw [hr] at hi
          have hlt : t % (x :: xs).length < (x :: xs).length := Nat.mod_lt _ (by simp)
          simp at hi
          simp at hlt
          omega
      have hnil' : Region.ready .any l' listed' = [] := by
        apply List.eq_nil_iff_forall_not_mem.2
        intro j hj
        have e : π (π j) = j := S.inv j
        rw [← e] at hj
        have := ready_bwd S hl hj
        rw [hnil] at this
        cases this
      simpa [wpOps] using h₀ hnil'
    | some i =>
      rw [hi] at hf
      simp only [] at hf ⊢
      rw [linearise_go_acc, List.reverse_singleton, List.singleton_append] at hf ⊢
      rw [wpOps_cons]
      have hmem := List.mem_of_getElem? hi
      have hi1 := (mem_ready.1 hmem).1
      have hin : i < listed.size := by
        false_or_by_contra
        rename_i hc
        simp [Array.getD, hc] at hi1
      have hfl : i = X → listed.getD Y false = true := fun e => by
        rcases hf with hf | hf
        · exact hf
        · unfold okO at hf
          by_cases c : i = Y
          · rw [if_pos c] at hf
            exact absurd (e.symm.trans c) S.ne
          · rw [if_neg c, if_pos e] at hf
            cases hf
      have hmem' := ready_fwd S hl hmem hfl
      have hi2 := (mem_ready.1 hmem').1
      have hin' : π i < listed'.size := by
        false_or_by_contra
        rename_i hc
        simp [Array.getD, hc] at hi2
      refine wpOp_sim S (wpOp_mono (fun a w hk => ih _ _ _ a w ?_ ?_ hk) (h₁ (π i) hmem'))
      · intro j d
        by_cases e : j = i
        · subst e
          simp [Array.getD, hin, hin']
        · have e' : π i ≠ π j := fun q => e (by rw [← S.inv j, ← q, S.inv i])
          rw [getD_set_ne d e', getD_set_ne d (fun q => e q.symm)]
          exact hl j d
      · by_cases c : i = Y
        · left
          subst c
          simp [Array.getD, hin]
        · rcases hf with hf | hf
          · left
            rw [getD_set_ne false c]
            exact hf
          · right
            unfold okO at hf
            rw [if_neg c] at hf
            split at hf
            · cases hf
            · exact hf
/-- places p and the next are exchanged -/
def sw (p j : Nat) : Nat := if j = p then p + 1 else if j = p + 1 then p else j
theorem sw_sw (p j : Nat) : sw p (sw p j) = j := by
  unfold sw
  by_cases h1 : j = p
  · simp [h1]
  · by_cases h2 : j = p + 1
    · simp [h2]
    · simp [h1, h2]
def reE (p : Nat) (e : Edge) : Edge := ⟨sw p e.on, e.ground⟩
def reO (p : Nat) (o : Oper) : Oper := ⟨o.dst, o.op, o.type, o.pos, o.after.map (reE p), o.guard.map fun x => (sw p x.1, x.2)⟩
def addE (p : Nat) (o : Oper) : Oper := ⟨o.dst, o.op, o.type, o.pos, o.after.push ⟨p, .data⟩, o.guard⟩
def opA (p j : Nat) (o : Oper) : Oper := if j = p + 1 then addE p o else o
def opB (p j : Nat) (o : Oper) : Oper := if j = p + 1 then addE p (reO p o) else reO p o
def mapK (f : Nat → Oper → Oper) : Nat → List Oper → List Oper
  | _, [] => []
  | k, o :: r => f k o :: mapK f (k + 1) r
theorem mapK_get (f : Nat → Oper → Oper) : ∀ (l : List Oper) (k j : Nat), (mapK f k l)[j]? = (l[j]?).map (f (k + j))
  | [], _, _ => by simp [mapK]
  | o :: r, k, 0 => by simp [mapK]
  | o :: r, k, j + 1 => by
    simp only [mapK, List.getElem?_cons_succ]
    rw [mapK_get f r (k + 1) j, Nat.add_right_comm, Nat.add_assoc]
theorem mapK_len (f : Nat → Oper → Oper) : ∀ (l : List Oper) (k : Nat), (mapK f k l).length = l.length
  | [], _ => rfl
  | _ :: r, k => by simp [mapK, mapK_len f r]
def lA (p : Nat) (l : List Oper) : List Oper := mapK (opA p) 0 l
def lS : Nat → List Oper → List Oper
  | 0, a :: b :: r => b :: a :: r
  | n + 1, a :: r => a :: lS n r
  | _, l => l
def lB (p : Nat) (l : List Oper) : List Oper := mapK (opB p) 0 (lS p l)
theorem lS_get : ∀ (p : Nat) (l : List Oper), p + 1 < l.length → ∀ j, (lS p l)[sw p j]? = l[j]?
  | 0, [], h, _ => by simp at h
  | 0, [_], h, _ => by simp at h
  | 0, a :: b :: r, _, j => by
    match j with
    | 0 => rfl
    | 1 => rfl
    | j + 2 => simp [lS, sw]
  | p + 1, [], h, _ => by simp at h
  | p + 1, a :: r, h, j => by
    match j with
    | 0 => simp [lS, sw]
    | j + 1 =>
      have e : sw (p + 1) (j + 1) = sw p j + 1 := by
        by_cases h1 : j = p
        · simp [sw, h1]
        · by_cases h2 : j = p + 1
          · simp [sw, h2]
          · simp [sw, h1, h2]
      rw [e]
      simp only [lS, List.getElem?_cons_succ]
      exact lS_get p r (by simpa using h) j
theorem simA (p : Nat) (l : List Oper) : Sim id (p + 1) p l.toArray (lA p l).toArray := by
  have hg : ∀ j, (lA p l)[j]? = (l[j]?).map (opA p j) := fun j => by unfold lA; rw [mapK_get, Nat.zero_add]
  refine ⟨by omega, fun _ => rfl, fun j o ho => ?_, fun j ho => ?_, fun j o o' ho ho' e' he' hb' => ?_, fun j o o' ho ho' e he hb => ?_⟩
  · have ho : l[j]? = some o := by simpa using ho
    refine ⟨opA p j o, by simp [hg, ho], ?_⟩
    unfold opA
    split
    · exact ⟨rfl, rfl, rfl, rfl, by show o.guard = _; cases o.guard <;> rfl⟩
    · exact ⟨rfl, rfl, rfl, rfl, by cases o.guard <;> rfl⟩
  · have ho : l[j]? = none := by simpa using ho
    simp [hg, ho]
  · have ho : l[j]? = some o := by simpa using ho
    have ho' : opA p j o = o' := by simpa [hg, ho] using ho'
    subst ho'
    unfold opA at he'
    split at he'
    · simp only [addE, Array.mem_push] at he'
      rcases he' with he' | rfl
      · exact .inl ⟨e', he', hb', rfl⟩
      · rename_i c
        exact .inr ⟨c, rfl⟩
    · exact .inl ⟨e', he', hb', rfl⟩
  · have ho : l[j]? = some o := by simpa using ho
    have ho' : opA p j o = o' := by simpa [hg, ho] using ho'
    subst ho'
    refine ⟨e, ?_, hb, rfl⟩
    unfold opA
    split
    · simp [addE, he]
    · exact he
theorem simB (p : Nat) (l : List Oper) (hp : p + 1 < l.length) : Sim (sw p) p (p + 1) l.toArray (lB p l).toArray := by
  have hg : ∀ j, (lB p l)[sw p j]? = (l[j]?).map (opB p (sw p j)) := fun j => by unfold lB; rw [mapK_get, Nat.zero_add, lS_get p l hp]
  have hsp : sw p (p + 1) = p := by simp [sw]
  refine ⟨by omega, sw_sw p, fun j o ho => ?_, fun j ho => ?_, fun j o o' ho ho' e' he' hb' => ?_, fun j o o' ho ho' e he hb => ?_⟩
  · have ho : l[j]? = some o := by simpa using ho
    refine ⟨opB p (sw p j) o, by simp [hg, ho], ?_⟩
    unfold opB
    split
    · exact ⟨rfl, rfl, rfl, rfl, rfl⟩
    · exact ⟨rfl, rfl, rfl, rfl, rfl⟩
  · have ho : l[j]? = none := by simpa using ho
    simp [hg, ho]
  · have ho : l[j]? = some o := by simpa using ho
    have ho' : opB p (sw p j) o = o' := by simpa [hg, ho] using ho'
    subst ho'
    have key : ∀ e' ∈ o.after.map (reE p), Region.binds .any e' = true → ∃ e ∈ o.after, Region.binds .any e = true ∧ e'.on = sw p e.on := fun e' he' hb' => by
      obtain ⟨e, he, rfl⟩ := Array.mem_map.1 he'
      exact ⟨e, he, by simpa [Region.binds, reE] using hb', rfl⟩
    unfold opB at he'
    split at he'
    · simp only [addE, reO, Array.mem_push] at he'
      rcases he' with he' | rfl
      · exact .inl (key e' he' hb')
      · rename_i c
        refine .inr ⟨?_, hsp.symm⟩
        have := congrArg (sw p) c
        rw [sw_sw, hsp] at this
        exact this
    · exact .inl (key e' he' hb')
  · have ho : l[j]? = some o := by simpa using ho
    have ho' : opB p (sw p j) o = o' := by simpa [hg, ho] using ho'
    subst ho'
    refine ⟨reE p e, ?_, by simpa [Region.binds, reE] using hb, rfl⟩
    have hm : reE p e ∈ o.after.map (reE p) := Array.mem_map.2 ⟨e, he, rfl⟩
    unfold opB
    split
    · simp only [addE, reO, Array.mem_push]
      exact .inl hm
    · exact hm
end
variable {P : Program} [ETab]
theorem draw_any {k : Nat} {l : List Oper} {tm : List AV} {h : List Ch} {q : Post} (hc : chkR l = true) (H : ∀ Fin : List AV → List Ch → Prop, (∀ tm h, q.n tm h → Fin tm h) → DW P l Fin l 0 tm h [] []) {R : RO} {μ : List Bind} {a : Act} {w : World} (s : SR R μ tm h a w) (hl : k ≤ μ.length) :
    wpAny P .any l.toArray (EndQ k R μ h w q) l.toArray.size (Array.replicate l.toArray.size false) a { w with drawn := w.drawn + 1 } := by
  have C := chkR_ok hc
  have hw := H q.n fun _ _ h => h
  have hp0 : Past P l h tm 0 tm h [] [] [] := ⟨rfl, by cases l <;> rfl, fun p hp => (by cases hp), rfl, fun j o v hj => by omega⟩
  obtain ⟨tm', h', ps', hs', vs', h1, h2⟩ := hw.data C (fun j => by simp) [] hp0
  rw [Nat.zero_add] at h2
  have hget : ∀ j, (Array.replicate l.length false).getD j false = false := by
    intro j
    by_cases hj : j < l.length <;> simp [hj]
  have hD0 : (fun j => (Array.replicate l.toArray.size false).getD j false) = fun _ => false := by
    funext j
    simpa using hget j
  have e1 : putsD (fun j => (Array.replicate l.toArray.size false).getD j false) l vs' 0 tm = tm := by
    rw [hD0]
    have key : ∀ (os : List Oper) (vs : List AV) (i : Nat), putsD (fun _ => false) os vs i tm = tm := by
      intro os
      induction os with
      | nil => intro vs i; cases vs <;> rfl
      | cons o os ih =>
        intro vs i
        cases vs with
        | nil => rfl
        | cons v vs => simp [putsD, ih]
    exact key ..
  have sm := s.mem.same (w' := { w with drawn := w.drawn + 1 }) (fun _ _ => rfl) (Nat.le_refl _) rfl rfl rfl
  have hheap : heapR (fun j => (Array.replicate l.toArray.size false).getD j false) hs' h' = h := by
    rw [hD0]
    exact h2.first
  refine any_ok C (Q := EndQ k R μ h w q) (k := k) (R0 := R) (μ0 := μ) (h0 := h) (w0 := w) (fun R' μ' tm' h' a' w' s' st kp hk => ⟨R', μ', tm', h', s', st, kp, hk⟩) h1 h2 _ _ R μ a _ (by simp) ?_ ?_ ?_ ?_ (.refl hl)
  · rw [hD0]
    intro i hi
    cases hi
  · rw [hD0]
    have : ∀ n, cntD (fun _ => false) n ≤ n := by
      intro n
      induction n with
      | zero => exact Nat.le_refl _
      | succ n ih => simp only [cntD]; simp; exact ih
    simpa using this l.length
  · rw [e1, hheap]
    exact ⟨sm.1, s.tm, s.dfr⟩
  · rw [hheap]
    exact sm.2
/-- in the region id the operations p and p + 1 have no order -/
structure SwapAt (id p : Nat) : Prop where
theorem w_drawS {p : Nat} {k : Nat} {id : Nat} {l la lb : List Oper} {tm : List AV} {h : List Ch} {q : Post} (hs : SwapAt id p) (hm : P.follows .mixedOrders = true) (hp : p + 1 < l.length) (eA : lA p l = la) (eB : lB p l = lb) (cA : chkR la = true) (cB : chkR lb = true)
    (HA : ∀ Fin : List AV → List Ch → Prop, (∀ tm h, q.n tm h → Fin tm h) → DW P la Fin la 0 tm h [] []) (HB : ∀ Fin : List AV → List Ch → Prop, (∀ tm h, q.n tm h → Fin tm h) → DW P lb Fin lb 0 tm h [] []) : Wp P k (.region id l.toArray true) tm h q :=
  ⟨fun R μ a w s hl => wp_region_draw fun t => by
    simp only [Region.schedule, hm, Bool.true_or, if_true]
    subst eA eB
    have zA := draw_any cA HA s hl
    have zB := draw_any cB HB s hl
    have sA : (lA p l).toArray.size = l.toArray.size := by simp [lA, mapK_len]
    have sB : (lB p l).toArray.size = l.toArray.size := by
      have key : ∀ (p : Nat) (l : List Oper), (lS p l).length = l.length := by
        intro p
        induction p with
        | zero => intro l; match l with
          | [] => rfl
          | [_] => rfl
          | _ :: _ :: _ => rfl
        | succ p ih => intro l; match l with
          | [] => rfl
          | _ :: r => simp [lS, ih]
      simp [lB, key, mapK_len]
    rw [sA] at zA
    rw [sB] at zB
    have hrep : ∀ j d, (Array.replicate l.toArray.size false).getD (sw p j) d = (Array.replicate l.toArray.size false).getD j d := fun j d => by
      have e : sw p j < l.length ↔ j < l.length := by unfold sw; split <;> (try split) <;> omega
      by_cases c : j < l.length
      · have c' := e.2 c
        simp [Array.getD, c, c']
      · have c' : ¬ sw p j < l.length := fun q => c (e.1 q)
        simp [Array.getD, c, c']
    cases ho : okO (p + 1) p (Region.linearise.go .any l.toArray l.toArray.size t (Array.replicate l.toArray.size false) []) with
    | true => exact run_sim (simA p l) _ t _ _ a _ (fun _ _ => rfl) (.inr ho) zA
    | false => exact run_sim (simB p l hp) _ t _ _ a _ hrep (.inr (okO_or ho)) zB⟩
end Go.V

namespace Go.V
variable {P : Program} {h : List Ch} {tm : List AV} {k : Nat} {q : Post}
theorem ops_id [ETab] {k : Nat} {all r : List Oper} {K : List AV → List Ch → Prop} (H : Ops P k all r tm h K) : Ops P k all r tm h K := H
end Go.V

namespace Go.V
def Cmd.zero : Cmd := ⟨0, 0, 0, [], []⟩
def Stp.zero : Stp := ⟨0, 0, 0, 0, 0, 0, ⟨0, 0, 0, [], []⟩⟩
def Prg.zero : Prg := ⟨0, 0, [], false, 0, false, 0⟩
def Pdf.zero : Pdf := ⟨0, 0, false, 0⟩
attribute [go_sem] dec_int dec_byte dec_str dec_bool dec_ints dec_cmd dec_stp dec_prg dec_pdf Cmd.cells Stp.cells Prg.cells Pdf.cells
end Go.V

namespace Go.V
open Go.RowKit

theorem bitsI_eq (op : BinOp) (k : IntKind) (x y : Int) : bitsI op k x y = bits op k x y := by
  cases op <;> rfl
theorem wrap_u64 (k : Int) : IntKind.u64.wrap k = k % 18446744073709551616 := by simp [IntKind.wrap, IntKind.bits, IntKind.signed]
theorem wrap_u8 (k : Int) : IntKind.u8.wrap k = k % 256 := by simp [IntKind.wrap, IntKind.bits, IntKind.signed]
theorem wrap_i64 (n : Int) (h0 : -9223372036854775808 ≤ n) (h1 : n ≤ 9223372036854775807) : IntKind.i64.wrap n = n := by
  rw [IntKind.wrap_i64]
  omega
theorem u8_ofN (x : Nat) (h1 : x < 256) : (UInt8.ofNat x).toNat = x := by simp; omega
theorem u8_lt (x : UInt8) : x.toNat < 256 := x.toNat_lt

theorem u8_ltI (x : UInt8) : (x.toNat : Int) < 256 := by have := u8_lt x; omega
theorem u8w_lo (x : Int) : 0 ≤ IntKind.u8.wrap x := by rw [wrap_u8]; omega
theorem u8w_hi (x : Int) : IntKind.u8.wrap x < 256 := by rw [wrap_u8]; omega
theorem bits8 (op : BinOp) (x y : Int) : 0 ≤ bitsI op .u8 x y ∧ bitsI op .u8 x y < 256 := by
  cases op <;> exact ⟨u8w_lo _, u8w_hi _⟩
theorem xor_ones (a : Nat) (h : a < 18446744073709551616) : a ^^^ 18446744073709551615 = 18446744073709551615 - a := by
  apply Nat.eq_of_testBit_eq
  intro i
  have e : 18446744073709551615 - a = 2 ^ 64 - (a + 1) := by omega
  rw [e, Nat.testBit_two_pow_sub_succ (by omega), Nat.testBit_xor, show (18446744073709551615 : Nat) = 2 ^ 64 - 1 from by decide, Nat.testBit_two_pow_sub_one]
  by_cases hi : i < 64
  · simp [hi]
  · have : a.testBit i = false := Nat.testBit_lt_two_pow (Nat.lt_of_lt_of_le h (Nat.pow_le_pow_right (n := 2) (by decide) (show 64 ≤ i by omega)))
    simp [hi, this]
theorem or_128 (a : Nat) (h : a < 256) : a ||| 128 = a % 128 + 128 := by
  have e : a = 128 * (a / 128) + a % 128 := by omega
  have h1 : a / 128 = 0 ∨ a / 128 = 1 := by omega
  rw [Nat.or_comm]
  rcases h1 with h1 | h1
  · rw [show a = a % 128 from by omega, Nat.mod_mod]
    have := Nat.two_pow_add_eq_or_of_lt (i := 7) (b := a % 128) (by omega) 1
    rw [show (2 : Nat) ^ 7 * 1 = 128 from rfl] at this
    omega
  · have h2 := Nat.two_pow_add_eq_or_of_lt (i := 7) (b := a % 128) (by omega) 1
    have e2 : a = 2 ^ 7 * 1 ||| a % 128 := by rw [← h2]; omega
    have e3 : (128 : Nat) = 2 ^ 7 * 1 := rfl
    rw [e3]
    conv => lhs; rw [e2]
    rw [← Nat.or_assoc, Nat.or_self, ← h2]
    omega
theorem or_128_u8 (k : Int) (h0 : 0 ≤ k) : bitsI .or .u8 (IntKind.u8.wrap k) 128 = ((k.toNat % 128 + 128 : Nat) : Int) := by
  rw [bitsI_eq, wrap_u8, u8_or _ _ (by omega) (by omega) (by omega) (by omega)]
  have e : (k % 256).toNat = k.toNat % 256 := by omega
  have e2 : (128 : Int).toNat = 128 := rfl
  rw [e, e2, or_128 _ (by omega)]
  omega

/-- zigzag -/
def zz (n : Int) : Nat := if 0 ≤ n then (2 * n).toNat else (-2 * n - 1).toNat
def I64 (n : Int) : Prop := -9223372036854775808 ≤ n ∧ n ≤ 9223372036854775807
theorem zz_bd (n : Int) (h : I64 n) : zz n < 18446744073709551616 := by
  obtain ⟨h0, h1⟩ := h
  unfold zz
  split <;> omega
theorem zz_bits (n : Int) (h : I64 n) :
    bitsI .xor .u64 (IntKind.u64.wrap (IntKind.u64.wrap n * 2)) (IntKind.u64.wrap (n.fdiv 9223372036854775808)) = zz n := by
  obtain ⟨h0, h1⟩ := h
  rw [bitsI_eq, Int.fdiv_eq_ediv_of_nonneg _ (by omega)]
  simp only [wrap_u64]
  by_cases h : 0 ≤ n
  · have e1 : n % 18446744073709551616 * 2 % 18446744073709551616 = 2 * n := by omega
    have e2 : n / 9223372036854775808 % 18446744073709551616 = 0 := by omega
    rw [e1, e2, u64_xor _ _ (by omega) (by omega) (by omega) (by omega)]
    simp only [zz, h, if_true, Int.toNat_zero, Nat.xor_zero]
  · have e1 : n % 18446744073709551616 * 2 % 18446744073709551616 = 2 * n + 18446744073709551616 := by omega
    have e2 : n / 9223372036854775808 % 18446744073709551616 = 18446744073709551615 := by omega
    rw [e1, e2, u64_xor _ _ (by omega) (by omega) (by omega) (by omega)]
    have e3 : (18446744073709551615 : Int).toNat = 18446744073709551615 := by omega
    rw [e3, xor_ones _ (by omega)]
    simp only [zz, h, if_false]
    omega
/-- base 128, least significant group first -/
def vint (z : Nat) : List UInt8 := if z < 128 then [UInt8.ofNat z] else UInt8.ofNat (z % 128 + 128) :: vint (z / 128)
termination_by z
decreasing_by omega
theorem vint_small {z : Nat} (h : z < 128) : vint z = [UInt8.ofNat z] := by rw [vint, if_pos h]
theorem vint_big {z : Nat} (h : ¬ z < 128) : vint z = UInt8.ofNat (z % 128 + 128) :: vint (z / 128) := by rw [vint, if_neg h]
theorem vint_len (k : Nat) : ∀ z, z < 128 ^ (k + 1) → (vint z).length ≤ k + 1 := by
  induction k with
  | zero => intro z h; rw [vint_small (by omega)]; simp
  | succ k ih =>
    intro z h
    by_cases hz : z < 128
    · rw [vint_small hz]; simp
    · rw [vint_big hz]
      have := ih (z / 128) (by rw [Nat.div_lt_iff_lt_mul (by decide)]; rw [Nat.pow_succ] at h; exact h)
      simp only [List.length_cons]
      omega
theorem vint_le (z : Nat) (h : z < 18446744073709551616) : (vint z).length ≤ 10 := vint_len 9 z (by omega)
theorem vint_pos (z : Nat) : 1 ≤ (vint z).length := by
  rw [vint]; split <;> simp
/-- an integer's encoding -/
def encI (n : Int) : List UInt8 := vint (zz n)
theorem encI_le (n : Int) (h : I64 n) : (encI n).length ≤ 10 := vint_le _ (zz_bd n h)
/-- the s low bytes of n, most significant first -/
def be (n : Nat) : Nat → List UInt8
  | 0 => []
  | s + 1 => UInt8.ofNat (n / 256 ^ s % 256) :: be n s
theorem be_len (n : Nat) (s : Nat) : (be n s).length = s := by
  induction s with
  | zero => rfl
  | succ s ih => simp [be, ih]
theorem be_step (n : Nat) (k : Nat) : (IntKind.u8.wrap ((n : Int).fdiv (2 ^ (min (8 * (k : Int)).toNat 64)))).toNat = n / 256 ^ k % 256 ∨ 64 ≤ 8 * k := by
  by_cases h : 64 ≤ 8 * k
  · exact .inr h
  · refine .inl ?_
    have e : min (8 * (k : Int)).toNat 64 = 8 * k := by omega
    rw [e, wrap_u8, Int.fdiv_eq_ediv_of_nonneg _ (Int.le_of_lt (Int.pow_pos (by omega)))]
    have e2 : (2 : Int) ^ (8 * k) = ((256 ^ k : Nat) : Int) := by rw [Int.pow_mul, Int.natCast_pow]; rfl
    rw [e2, ← Int.natCast_ediv]
    omega
/-- big-endian value -/
def beval : List UInt8 → Nat → Nat
  | [], n => n
  | x :: xs, n => beval xs (n * 256 + x.toNat)
theorem beval_snoc (xs : List UInt8) (x : UInt8) (n : Nat) : beval (xs ++ [x]) n = beval xs n * 256 + x.toNat := by
  induction xs generalizing n with
  | nil => rfl
  | cons y ys ih => simp only [List.cons_append, beval, ih]
theorem beval_bd (xs : List UInt8) (n k : Nat) (hn : n < 256 ^ k) : beval xs n < 256 ^ (k + xs.length) := by
  induction xs generalizing n k with
  | nil => simpa [beval] using hn
  | cons x xs ih =>
    have hx := u8_lt x
    have := ih (n * 256 + x.toNat) (k + 1) (by rw [Nat.pow_succ]; omega)
    simp only [beval, List.length_cons]
    rw [show k + (xs.length + 1) = k + 1 + xs.length from by omega]
    exact this
theorem beval_lt (xs : List UInt8) (h : xs.length ≤ 8) : beval xs 0 < 18446744073709551616 := by
  have := beval_bd xs 0 0 (by simp)
  have h2 : 256 ^ (0 + xs.length) ≤ 256 ^ 8 := Nat.pow_le_pow_right (by decide) (by omega)
  omega
theorem be_beval (xs : List UInt8) : be (beval xs 0) xs.length = xs := by
  have key : ∀ (xs : List UInt8) (n : Nat), be (beval xs n) xs.length = xs := by
    intro xs
    induction xs with
    | nil => intro n; rfl
    | cons x xs ih =>
      intro n
      simp only [beval, List.length_cons, be]
      rw [ih]
      congr 1
      have hb : ∀ (xs : List UInt8) (m : Nat), beval xs m / 256 ^ xs.length = m := by
        intro xs
        induction xs with
        | nil => intro m; simp [beval]
        | cons y ys ih2 =>
          intro m
          simp only [beval, List.length_cons]
          rw [Nat.pow_succ, ← Nat.div_div_eq_div_mul, ih2]
          have := u8_lt y
          omega
      rw [hb]
      apply UInt8.toNat_inj.1
      have := u8_lt x
      rw [u8_ofN _ (by omega)]
      omega
  exact key xs 0
theorem beval_be (n s : Nat) (h : n < 256 ^ s) : beval (be n s) 0 = n := by
  have key : ∀ (s m : Nat), beval (be n s) m = m * 256 ^ s + n % 256 ^ s := by
    intro s
    induction s with
    | zero => intro m; simp [be, beval, Nat.mod_one]
    | succ s ih =>
      intro m
      simp only [be, beval]
      rw [ih, u8_ofN _ (by omega), Nat.pow_succ, Nat.mod_mul, Nat.add_mul, Nat.mul_assoc, Nat.mul_comm 256 (256 ^ s), Nat.mul_comm (n / 256 ^ s % 256)]
      omega
  rw [key]
  simp [Nat.mod_eq_of_lt h]

theorem getD_take {ys : List UInt8} {k n : Nat} (h : k < n) : (ys.take n).getD k 0 = ys.getD k 0 := by
  simp only [List.getD_eq_getElem?_getD, List.getElem?_take, h, if_true]
/-- a base-128 number and how many bytes it has; none where there is none, or it is not written in the shortest way, or it does not fit 64 bits -/
def vdAux : Nat → Nat → List UInt8 → Option (Nat × Nat)
  | _, _, [] => none
  | i, z, x :: xs =>
    if i = 9 ∧ 1 < x.toNat then none
    else if x.toNat < 128 then (if x.toNat = 0 ∧ 0 < i then none else some (z + x.toNat % 128 * 128 ^ i, i + 1))
    else vdAux (i + 1) (z + x.toNat % 128 * 128 ^ i) xs
def vd (ys : List UInt8) : Option (Nat × Nat) := vdAux 0 0 ys
/-- back from zigzag -/
def unzz (z : Nat) : Int := if z % 2 = 0 then (z / 2 : Nat) else -((z / 2 : Nat) : Int) - 1

/-- the reader's state: none where a read failed; else what is left -/
def uintR (r : Option (List UInt8)) (s : Nat) : Nat × Option (List UInt8) :=
  match r with
  | none => (0, none)
  | some ys => if s ≤ ys.length then (beval (ys.take s) 0, some (ys.drop s)) else (0, none)
def intR (r : Option (List UInt8)) : Int × Option (List UInt8) :=
  match r with
  | none => (0, none)
  | some ys => match vd ys with
    | none => (0, none)
    | some (z, k) => (unzz z, some (ys.drop k))
def countR (r : Option (List UInt8)) (most : Int) : Int × Option (List UInt8) :=
  match intR r with
  | (n, none) => (n, none)
  | (n, some ys) => if n < 0 ∨ most < n then (0, none) else (n, some ys)
def blobR (r : Option (List UInt8)) (most : Int) : List UInt8 × Option (List UInt8) :=
  match countR r most with
  | (_, none) => ([], none)
  | (n, some ys) => if (ys.length : Int) < n then ([], none) else (ys.take n.toNat, some (ys.drop n.toNat))

theorem vdAux_le (xs : List UInt8) : ∀ i z a k, vdAux i z xs = some (a, k) → i < k ∧ k ≤ i + xs.length := by
  induction xs with
  | nil => intro i z a k h; simp [vdAux] at h
  | cons x xs ih =>
    intro i z a k h
    simp only [vdAux] at h
    split at h
    · cases h
    · split at h
      · split at h
        · cases h
        · simp only [Option.some.injEq, Prod.mk.injEq] at h
          simp only [List.length_cons]
          omega
      · have := ih _ _ _ _ h
        simp only [List.length_cons]
        omega
theorem vdAux_at {ys : List UInt8} {k q : Nat} (hk : k < ys.length) : vdAux k q (ys.drop k) = if k = 9 ∧ 1 < (ys.getD k 0).toNat then none
    else if (ys.getD k 0).toNat < 128 then (if (ys.getD k 0).toNat = 0 ∧ 0 < k then none else some (q + (ys.getD k 0).toNat % 128 * 128 ^ k, k + 1))
    else vdAux (k + 1) (q + (ys.getD k 0).toNat % 128 * 128 ^ k) (ys.drop (k + 1)) := by
  rw [List.drop_eq_getElem_cons hk, vdAux]
  simp only [List.getD_eq_getElem?_getD, List.getElem?_eq_getElem hk, Option.getD_some]
theorem grp_bd {q k x : Nat} (hq : q < 128 ^ k) : q + x % 128 * 128 ^ k < 128 ^ (k + 1) := by
  have h1 : x % 128 * 128 ^ k ≤ 127 * 128 ^ k := Nat.mul_le_mul_right _ (by omega)
  rw [Nat.pow_succ]
  omega
def grp (ys : List UInt8) : Nat × Nat := (vd ys).getD (0, 0)
theorem grp_none {ys : List UInt8} (h : none = vd ys) : grp ys = (0, 0) := by unfold grp; rw [← h]; rfl
theorem grp_some {ys : List UInt8} {p : Nat × Nat} (h : some p = vd ys) : grp ys = p := by unfold grp; rw [← h]; rfl
theorem vd_le {ys : List UInt8} {a k : Nat} (h : vd ys = some (a, k)) : 0 < k ∧ k ≤ ys.length := by
  have := vdAux_le ys 0 0 a k h
  omega
theorem vdAux_bd (xs : List UInt8) : ∀ i z a k, i ≤ 9 → z < 128 ^ i → vdAux i z xs = some (a, k) → a < 18446744073709551616 := by
  induction xs with
  | nil => intro i z a k _ _ h; simp [vdAux] at h
  | cons x xs ih =>
    intro i z a k hi hz h
    simp only [vdAux] at h
    split at h
    · cases h
    · rename_i h9
      have hm : z + x.toNat % 128 * 128 ^ i < 128 ^ (i + 1) := by
        have h1 : x.toNat % 128 < 128 := Nat.mod_lt _ (by decide)
        have h2 : x.toNat % 128 * 128 ^ i ≤ 127 * 128 ^ i := Nat.mul_le_mul_right _ (by omega)
        rw [Nat.pow_succ]
        omega
      split at h
      · split at h
        · cases h
        · simp only [Option.some.injEq, Prod.mk.injEq] at h
          rcases Nat.lt_or_ge i 9 with h8 | h8
          · have : 128 ^ (i + 1) ≤ 128 ^ 9 := Nat.pow_le_pow_right (by decide) (by omega)
            omega
          · have hi9 : i = 9 := by omega
            subst hi9
            have : x.toNat % 128 ≤ 1 := by omega
            have : x.toNat % 128 * 128 ^ 9 ≤ 1 * 128 ^ 9 := Nat.mul_le_mul_right _ this
            omega
      · rcases Nat.lt_or_ge i 9 with h8 | h8
        · exact ih _ _ _ _ (by omega) hm h
        · omega
theorem vd_bd {ys : List UInt8} {a k : Nat} (h : vd ys = some (a, k)) : a < 18446744073709551616 :=
  vdAux_bd ys 0 0 a k (by omega) (by simp) h
theorem unzz_bd {z : Nat} (h : z < 18446744073709551616) : I64 (unzz z) := by
  unfold unzz
  split <;> exact ⟨by omega, by omega⟩
theorem or_step (m x : Nat) (h1 : m < 72057594037927936) (hx : x ≤ 255) : bitsI .or .u64 (IntKind.u64.wrap ((m : Int) * 256)) (IntKind.u64.wrap (x : Int)) = ((m * 256 + x : Nat) : Int) := by
  have e1 : IntKind.u64.wrap ((m : Int) * 256) = ((m * 256 : Nat) : Int) := by rw [wrap_u64]; omega
  have e2 : IntKind.u64.wrap (x : Int) = (x : Int) := by rw [wrap_u64]; omega
  rw [bitsI_eq, e1, e2, u64_or_nat _ _ (by omega) (by omega)]
  have h := Nat.two_pow_add_eq_or_of_lt (i := 8) (b := x) (by omega) m
  have e3 : m * 256 = 2 ^ 8 * m := by omega
  rw [e3, ← h]
theorem beval_take {ys : List UInt8} {k : Nat} (hk : k < ys.length) (h7 : k ≤ 7) : bitsI .or .u64 (IntKind.u64.wrap ((beval (ys.take k) 0 : Nat) * 256)) (IntKind.u64.wrap ((ys.getD k 0).toNat : Int)) = (beval (ys.take (k + 1)) 0 : Nat) := by
  have h1 := beval_bd (ys.take k) 0 0 (by simp)
  have h2 : 256 ^ (0 + (ys.take k).length) ≤ 256 ^ 7 := Nat.pow_le_pow_right (by decide) (by rw [List.length_take]; omega)
  have h3 := u8_lt (ys.getD k 0)
  have e : ys.take (k + 1) = ys.take k ++ [ys.getD k 0] := by
    rw [List.take_succ_eq_append_getElem hk]
    simp [List.getD_eq_getElem?_getD, List.getElem?_eq_getElem hk]
  rw [e, beval_snoc, or_step _ _ (by omega) (by omega)]
theorem grp_step (q k x : Nat) (hx : x ≤ 255) (hq : q < 128 ^ k) (h9 : k ≤ 9) (h1 : ¬ (k = 9 ∧ 1 < x)) :
    bitsI .or .u64 (q : Int) (IntKind.u64.wrap (IntKind.u64.wrap (bitsI .and .u8 (x : Int) 127) * 2 ^ (7 * k))) = ((q + x % 128 * 128 ^ k : Nat) : Int) := by
  rw [bitsI_eq, bitsI_eq]
  have e0 : x &&& 127 = x % 128 := Nat.and_two_pow_sub_one_eq_mod x 7
  have e1 : bits .and .u8 (x : Int) 127 = ((x % 128 : Nat) : Int) := by
    rw [u8_and _ _ (by omega) (by omega) (by omega) (by omega)]
    exact_mod_cast e0
  have ep : (2 : Nat) ^ (7 * k) = 128 ^ k := by rw [Nat.pow_mul]
  have hm : x % 128 * 128 ^ k < 18446744073709551616 := by
    rcases Nat.lt_or_ge k 9 with h | h
    · have h2 : (128 : Nat) ^ k ≤ 72057594037927936 := Nat.pow_le_pow_right (n := 128) (i := k) (j := 8) (by decide) (by omega)
      have h3 : x % 128 * 128 ^ k ≤ 127 * 72057594037927936 := Nat.mul_le_mul (by omega) h2
      omega
    · have hk : k = 9 := by omega
      subst hk
      have h3 : x % 128 * 128 ^ 9 ≤ 1 * 128 ^ 9 := Nat.mul_le_mul_right _ (by omega)
      have h4 : (128 : Nat) ^ 9 = 9223372036854775808 := rfl
      rw [h4] at h3 ⊢
      omega
  have hq2 : q < 18446744073709551616 := by
    have h2 : (128 : Nat) ^ k ≤ 9223372036854775808 := Nat.pow_le_pow_right (n := 128) (i := k) (j := 9) (by decide) h9
    omega
  have e2 : (2 : Int) ^ (7 * k) = ((128 ^ k : Nat) : Int) := by rw [← ep, Int.natCast_pow]; rfl
  have e3 : IntKind.u64.wrap ((x % 128 : Nat) : Int) = ((x % 128 : Nat) : Int) := by rw [wrap_u64]; omega
  rw [e1, e3, e2, ← Int.natCast_mul]
  have e4 : IntKind.u64.wrap ((x % 128 * 128 ^ k : Nat) : Int) = ((x % 128 * 128 ^ k : Nat) : Int) := by rw [wrap_u64]; omega
  rw [e4, u64_or_nat _ _ hq2 hm]
  have h5 := Nat.two_pow_add_eq_or_of_lt (i := 7 * k) (b := q) (by rw [ep]; exact hq) (x % 128)
  rw [ep, Nat.mul_comm] at h5
  rw [Nat.or_comm, ← h5, Nat.add_comm]
theorem i64_xor_ones (m : Nat) (h : m < 9223372036854775808) : bits .xor .i64 (m : Int) (-1) = -(m : Int) - 1 := by
  show IntKind.i64.wrap ((BitVec.ofInt 64 (m : Int) ^^^ BitVec.ofInt 64 (-1)).toNat : Int) = _
  have e1 : (BitVec.ofInt 64 (m : Int)).toNat = m := ofInt_u64 m (by omega)
  have e2 : (BitVec.ofInt 64 (-1)).toNat = 18446744073709551615 := by decide
  rw [BitVec.toNat_xor, e1, e2, xor_ones m (by omega), IntKind.wrap_i64]
  omega
theorem i64_xor_zero (m : Nat) (h : m < 9223372036854775808) : bits .xor .i64 (m : Int) 0 = (m : Int) := by
  show IntKind.i64.wrap ((BitVec.ofInt 64 (m : Int) ^^^ BitVec.ofInt 64 0).toNat : Int) = _
  have e1 : (BitVec.ofInt 64 (m : Int)).toNat = m := ofInt_u64 m (by omega)
  have e2 : (BitVec.ofInt 64 0).toNat = 0 := by decide
  rw [BitVec.toNat_xor, e1, e2, Nat.xor_zero, IntKind.wrap_i64]
  omega
theorem unzz_bits (z : Nat) (h : z < 18446744073709551616) : bitsI .xor .i64 (IntKind.i64.wrap ((z : Int).fdiv 2)) (IntKind.i64.wrap (0 - (IntKind.i64.wrap (bitsI .and .u64 (z : Int) 1)))) = unzz z := by
  rw [bitsI_eq, bitsI_eq, Int.fdiv_eq_ediv_of_nonneg _ (by omega)]
  have e0 : bits .and .u64 (z : Int) 1 = ((z % 2 : Nat) : Int) := by
    have := u64_and_nat z 1 h (by decide)
    rw [Nat.and_one_is_mod] at this
    exact this
  have e1 : IntKind.i64.wrap ((z : Int) / 2) = ((z / 2 : Nat) : Int) := by
    rw [wrap_i64 _ (by omega) (by omega)]
    omega
  have e2 : IntKind.i64.wrap ((z % 2 : Nat) : Int) = ((z % 2 : Nat) : Int) := wrap_i64 _ (by omega) (by omega)
  have e3 : IntKind.i64.wrap (0 - ((z % 2 : Nat) : Int)) = -((z % 2 : Nat) : Int) := by rw [wrap_i64 _ (by omega) (by omega)]; omega
  rw [e0, e1, e2, e3]
  unfold unzz
  rcases Nat.mod_two_eq_zero_or_one z with hz | hz
  · rw [hz, if_pos rfl]
    exact i64_xor_zero _ (by omega)
  · rw [hz, if_neg (by decide)]
    exact i64_xor_ones _ (by omega)
theorem zz_unzz (z : Nat) : zz (unzz z) = z := by
  unfold unzz zz
  split <;> split <;> omega
theorem unzz_zz (n : Int) : unzz (zz n) = n := by
  unfold unzz zz
  split <;> split <;> omega

/-- what has been read of a base-128 number: k groups, their value q -/
def VPre (ys : List UInt8) (k q : Nat) : Prop := q < 128 ^ k ∧ ∀ t : Nat, 0 < t ∨ k = 0 → vint (q + t * 128 ^ k) = ys.take k ++ vint t
theorem VPre.zero (ys : List UInt8) : VPre ys 0 0 := ⟨by simp, fun t _ => by simp⟩
theorem take_getD {ys : List UInt8} {k : Nat} (hk : k < ys.length) : ys.take (k + 1) = ys.take k ++ [ys.getD k 0] := by
  rw [List.take_succ_eq_append_getElem hk]
  simp [List.getD_eq_getElem?_getD, List.getElem?_eq_getElem hk]
theorem VPre.step {ys : List UInt8} {k q : Nat} (h : VPre ys k q) (hk : k < ys.length) (h1 : 128 ≤ (ys.getD k 0).toNat) : VPre ys (k + 1) (q + (ys.getD k 0).toNat % 128 * 128 ^ k) := by
  have ht := take_getD hk
  have h2 := u8_lt (ys.getD k 0)
  generalize ys.getD k 0 = x at h1 h2 ht ⊢
  refine ⟨?_, fun t h0 => ?_⟩
  · have := h.1
    have h3 : x.toNat % 128 * 128 ^ k ≤ 127 * 128 ^ k := Nat.mul_le_mul_right _ (by omega)
    rw [Nat.pow_succ]
    omega
  · have ht0 : 0 < t := by
      rcases h0 with h0 | h0
      · exact h0
      · omega
    have e : q + x.toNat % 128 * 128 ^ k + t * 128 ^ (k + 1) = q + (x.toNat % 128 + t * 128) * 128 ^ k := by
      rw [Nat.pow_succ, Nat.add_mul, Nat.mul_assoc t 128, Nat.mul_comm 128 (128 ^ k)]
      omega
    rw [e, h.2 _ (.inl (by omega)), vint_big (by omega), ht]
    have e1 : UInt8.ofNat ((x.toNat % 128 + t * 128) % 128 + 128) = x := by
      apply UInt8.toNat_inj.1
      rw [u8_ofN _ (by omega)]
      omega
    have e2 : (x.toNat % 128 + t * 128) / 128 = t := by omega
    rw [e1, e2]
    simp
/-- a last group: it is written in the shortest way and fits, or else what the value is encoded as differs -/
theorem VPre.last {ys : List UInt8} {k q : Nat} (h : VPre ys k q) (hk : k < ys.length) (hk9 : k ≤ 9) (h2 : (ys.getD k 0).toNat < 128) (z : Nat) (hz : z = (q + (ys.getD k 0).toNat * 128 ^ k) % 18446744073709551616) :
    vint z = ys.take (k + 1) ↔ ¬ (k = 9 ∧ 1 < (ys.getD k 0).toNat) ∧ ¬ ((ys.getD k 0).toNat = 0 ∧ 0 < k) := by
  have ht := take_getD hk
  generalize ys.getD k 0 = x at h2 ht hz ⊢
  have hlen : (ys.take k).length = k := by rw [List.length_take]; omega
  by_cases h0 : x.toNat = 0 ∧ 0 < k
  · constructor
    · intro e
      exfalso
      obtain ⟨hx0, h0⟩ := h0
      have h128 : (128 : Nat) ^ k ≤ 9223372036854775808 := Nat.pow_le_pow_right (n := 128) (i := k) (j := 9) (by decide) hk9
      have hq := h.1
      have hzq : z = q := by
        rw [hz, hx0]
        simp
        omega
      obtain ⟨j, rfl⟩ : ∃ j, k = j + 1 := ⟨k - 1, by omega⟩
      have := vint_len j q hq
      rw [hzq, ht] at e
      have e2 := congrArg List.length e
      rw [List.length_append, hlen] at e2
      simp at e2
      omega
    · rintro ⟨_, h3⟩
      exact absurd h0 h3
  · by_cases h9 : k = 9 ∧ 1 < x.toNat
    · constructor
      · intro e
        exfalso
        obtain ⟨rfl, h9⟩ := h9
        have hq := h.1
        have e128 : (128 : Nat) ^ 9 = 9223372036854775808 := rfl
        rw [e128] at hq hz
        have hzz : z = q + x.toNat % 2 * 9223372036854775808 := by omega
        rcases Nat.mod_two_eq_zero_or_one x.toNat with hx | hx
        · rw [hx] at hzz
          have := vint_len 8 q hq
          rw [show z = q from by omega, ht] at e
          have e2 := congrArg List.length e
          rw [List.length_append, hlen] at e2
          simp at e2
          omega
        · rw [hx] at hzz
          have h3 := h.2 1 (.inl (by omega))
          rw [e128, ← hzz, e, ht, vint_small (by omega)] at h3
          have h4 := List.append_cancel_left h3
          simp at h4
          have := congrArg UInt8.toNat h4
          simp at this
          omega
      · rintro ⟨h3, _⟩
        exact absurd h9 h3
    · constructor
      · exact fun _ => ⟨h9, h0⟩
      · intro _
        have hfit : q + x.toNat * 128 ^ k < 18446744073709551616 := by
          have hq := h.1
          rcases Nat.lt_or_ge k 9 with h8 | h8
          · have h3 : (128 : Nat) ^ k ≤ 72057594037927936 := Nat.pow_le_pow_right (n := 128) (i := k) (j := 8) (by decide) (by omega)
            have h4 : x.toNat * 128 ^ k ≤ 127 * 72057594037927936 := Nat.mul_le_mul (by omega) h3
            omega
          · have hk : k = 9 := by omega
            subst hk
            have e128 : (128 : Nat) ^ 9 = 9223372036854775808 := rfl
            rw [e128] at hq ⊢
            omega
        have e : z = q + x.toNat * 128 ^ k := by rw [hz]; exact Nat.mod_eq_of_lt hfit
        rw [e, h.2 _ (by omega), ht, vint_small (by omega)]
        simp
theorem ti_z (q S x : Nat) : IntKind.u64.wrap (((q % 18446744073709551616 : Nat) : Int) + IntKind.u64.wrap (((S % 18446744073709551616 : Nat) : Int) * IntKind.u64.wrap ((x : Int).tmod 128))) = (((q + S * (x % 128)) % 18446744073709551616 : Nat) : Int) := by
  rw [Int.tmod_eq_emod_of_nonneg (by omega)]
  simp only [wrap_u64]
  have e1 : (x : Int) % 128 % 18446744073709551616 = ((x % 128 : Nat) : Int) := by omega
  rw [e1, ← Int.natCast_mul]
  have e2 : (((S % 18446744073709551616 * (x % 128) : Nat) : Int) % 18446744073709551616) = ((S % 18446744073709551616 * (x % 128) % 18446744073709551616 : Nat) : Int) := by omega
  have e3 : S % 18446744073709551616 * (x % 128) % 18446744073709551616 = S * (x % 128) % 18446744073709551616 := by rw [Nat.mul_mod, Nat.mod_mod, ← Nat.mul_mod]
  rw [e2, e3]
  generalize S * (x % 128) = P
  omega
theorem ti_s (S : Nat) : IntKind.u64.wrap (((S % 18446744073709551616 : Nat) : Int) * 128) = ((S * 128 % 18446744073709551616 : Nat) : Int) := by
  rw [wrap_u64]
  omega
theorem ti_n (z : Nat) (hz : z < 18446744073709551616) : IntKind.i64.wrap (IntKind.u64.wrap ((z : Int).tdiv 2)) = ((z / 2 : Nat) : Int) := by
  rw [Int.tdiv_eq_ediv_of_nonneg (by omega), wrap_u64, wrap_i64 _ (by omega) (by omega)]
  omega
theorem ti_neg (m : Nat) (hm : m < 9223372036854775808) : IntKind.i64.wrap (IntKind.i64.wrap (0 - (m : Int)) - 1) = -(m : Int) - 1 := by
  rw [wrap_i64 (0 - _) (by omega) (by omega), wrap_i64 _ (by omega) (by omega)]
  omega
theorem ti_m (z : Nat) : ((z : Int).tmod 2 = 1) = (z % 2 = 1) := by
  rw [Int.tmod_eq_emod_of_nonneg (by omega)]
  apply propext
  omega
/-- what ref03.TakeInt answers -/
def tki (ys : List UInt8) : Int × Nat := match vd ys with
  | some (z, k) => (unzz z, k)
  | none => (0, 0)
theorem tki_end {ys : List UInt8} {k q z : Nat} (h1 : vdAux k q (ys.drop k) = vd ys) (h2 : VPre ys k q) (hk : k < ys.length) (hk9 : k ≤ 9) (hx : (ys.getD k 0).toNat < 128) (hz : (q + 128 ^ k * ((ys.getD k 0).toNat % 128)) % 18446744073709551616 = z) :
    (encI (unzz z) = ys.take (k + 1) → tki ys = (unzz z, k + 1)) ∧ (¬ encI (unzz z) = ys.take (k + 1) → tki ys = (0, 0)) := by
  have hl := VPre.last h2 hk hk9 hx z (by rw [← hz, Nat.mod_eq_of_lt hx, Nat.mul_comm])
  rw [vdAux_at hk] at h1
  rw [encI, zz_unzz, hl]
  unfold tki
  rw [← h1]
  by_cases a : k = 9 ∧ 1 < (ys.getD k 0).toNat
  · rw [if_pos a]
    exact ⟨fun h => absurd a h.1, fun _ => rfl⟩
  · by_cases b : (ys.getD k 0).toNat = 0 ∧ 0 < k
    · rw [if_neg a, if_pos hx, if_pos b]
      exact ⟨fun h => absurd b h.2, fun _ => rfl⟩
    · rw [if_neg a, if_pos hx, if_neg b]
      refine ⟨fun _ => ?_, fun h => absurd ⟨a, b⟩ h⟩
      have hb : q + (ys.getD k 0).toNat % 128 * 128 ^ k < 18446744073709551616 := by
        rw [if_neg a, if_pos hx, if_neg b] at h1
        exact vd_bd h1.symm
      rw [← hz, Nat.mul_comm (128 ^ k), Nat.mod_eq_of_lt hb]
theorem tki_step {ys : List UInt8} {k q : Nat} (h1 : vdAux k q (ys.drop k) = vd ys) (hk : k < ys.length) (hx : 127 < (ys.getD k 0).toNat) : (k + 1 < 10 → vdAux (k + 1) (q + (ys.getD k 0).toNat % 128 * 128 ^ k) (ys.drop (k + 1)) = vd ys) ∧ (k + 1 = 10 → vd ys = none) := by
  rw [vdAux_at hk, if_neg (show ¬ (ys.getD k 0).toNat < 128 by omega)] at h1
  refine ⟨fun h => ?_, fun h => ?_⟩
  · rw [if_neg (by omega)] at h1
    exact h1
  · rw [if_pos (by omega)] at h1
    exact h1.symm
theorem tki_out {ys : List UInt8} {k q : Nat} (h1 : vdAux k q (ys.drop k) = vd ys) (hk : ys.length ≤ k) : tki ys = (0, 0) := by
  rw [List.drop_eq_nil_of_le hk, vdAux] at h1
  unfold tki
  rw [← h1]
theorem tki_none {ys : List UInt8} (h1 : vd ys = none) : tki ys = (0, 0) := by
  unfold tki
  rw [h1]
theorem unzz_even {z : Nat} (h : ¬ z % 2 = 1) : ((z / 2 : Nat) : Int) = unzz z := by unfold unzz; rw [if_pos (by omega)]
theorem unzz_odd {z : Nat} (h : z % 2 = 1) : -((z / 2 : Nat) : Int) - 1 = unzz z := by unfold unzz; rw [if_neg (by omega)]
end Go.V
