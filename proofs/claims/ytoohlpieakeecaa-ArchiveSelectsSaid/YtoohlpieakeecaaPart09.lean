/-
  How the evaluation opens what is asked, from the outside in; small rules of the walk.
  A drawn region in which two operations may change places: one order, and the other.
  Loops over a memory that is whatever it is: the state behind a round is the state at hand.
  The kinds of this seat, for the evaluation.
  Numbers and lists of bytes, with no program in sight: zigzag, base-128 and big-endian encodings.
-/
import Derived.Test.YtoohlpieakeecaaPart08
set_option linter.unusedVariables false
set_option linter.unusedSimpArgs false
namespace Go.V
theorem mmgo_def (mx : Bool) (k : IntKind) (x : Int) (l : List AV) (K : AV → Prop) : mmK.go mx k x l K = match l with
  | [] => K (.int k x)
  | a :: r => (match a with | .int _ y => mmK.go mx k (if mx then max x y else min x y) r K | _ => False) := by
  cases l with
  | nil => rfl
  | cons a l => cases a <;> rfl
theorem mm_def (mx : Bool) (l : List AV) (K : AV → Prop) : mmK mx l K = match l with
  | [] => False
  | a :: r => (match a with | .int k x => mmK.go mx k x r K | _ => False) := by
  cases l with
  | nil => rfl
  | cons a l => cases a <;> rfl
theorem frzP_def (l : List (Nat × AV)) (h : List Ch) (K : List (Nat × AV) → List Ch → Prop) : frzP l h K = match l with
  | [] => K [] h
  | p :: l => frzX p.2 h fun x h => frzP l h fun l h => K ((p.1, x) :: l) h := by cases l <;> rfl
theorem frzL_def (l : List AV) (h : List Ch) (K : List AV → List Ch → Prop) : frzL l h K = match l with
  | [] => K [] h
  | a :: l => frz1 a h fun a h => frzL l h fun l h => K (a :: l) h := by cases l <;> rfl
theorem frzLX_def (l : List AV) (h : List Ch) (K : List AV → List Ch → Prop) : frzLX l h K = match l with
  | [] => K [] h
  | x :: l => frzX x h fun x h => frzLX l h fun l h => K (x :: l) h := by cases l <;> rfl
theorem elemsK_def (e : Ety) (l : List (Nat × AV)) (j : Nat) (K : List e.T → Prop) : elemsK e l j K = match l with
  | [] => K []
  | p :: r => (match e.dec (cellsA p.2) with
    | some y => (p.1 = j ∧ okCells (cellsA p.2) ∧ tfs (cellsA p.2) ∧ e.decOk (cellsA p.2)) ∧ elemsK e r (j + 1) fun ys => K (y :: ys)
    | none => False) := by cases l <;> rfl
theorem fillK_def (place : Nat → Option (Nat × Nat)) (zs : List AV) (l : List (Nat × AV)) (K : List AV → Prop) : fillK place zs l K = match l with
  | [] => K zs
  | p :: r => (match place p.1 with
    | some q => ((cellsA p.2).length = q.2 ∧ q.1 + q.2 ≤ zs.length) ∧ okCells (cellsA p.2) ∧ fillK place (setA zs q.1 (cellsA p.2)) r K
    | none => False) := by
  cases l with
  | nil => rfl
  | cons p r =>
    simp only [fillK]
    cases place p.1 <;> rfl
theorem resK_def (P : Program) (l : List ResultVar) (tm : List AV) (h : List Ch) (K : List AV → Prop) : resK P l tm h K = match l with
  | [] => K []
  | r :: l => (match r with
    | .tmp t => resK P l tm h fun l => K (nthA tm t :: l)
    | .cell a t => loadK P t (nthA tm a) h fun v => resK P l tm h fun l => K (v :: l)) := by
  cases l with
  | nil => rfl
  | cons r l => cases r <;> rfl

/-- a claim that the evaluation does not look into -/
class Hold where
  val : Prop
def hideB (b : Bool) [A : Hold] [B : Hold] : Prop := splitB b A.val B.val
theorem hideB_true (A B : Hold) : @hideB true A B = A.val := splitB_true _ _
theorem hideB_false (A B : Hold) : @hideB false A B = B.val := splitB_false _ _
theorem hideB_i {b : Bool} {A B : Hold} (h1 : b = true → A.val) (h2 : b = false → B.val) : @hideB b A B := ⟨h1, h2⟩
theorem pickK_def (c a b : AV) (K : AV → Prop) : pickK c a b K = match c with
  | .bool c => @hideB c ⟨K a⟩ ⟨K b⟩
  | _ => False := by unfold pickK hideB; cases c <;> rfl
theorem w_res {P : Program} {tm : List AV} {h : List Ch} {rs : List ResultVar} {K : List AV → Prop} (H : resK P rs tm h K) : resK P rs tm h K := H

/-! ### Arguments that are lent -/
section
variable {σ : List Nat} {h : List Ch}
theorem br_cons {g a : AV} {gs as : List AV} (h1 : brA σ h g a) (h2 : brL σ h gs as) : brL σ h (g :: gs) (a :: as) := by
  simp only [brL]
  exact ⟨h1, h2⟩
theorem br_nil : brL σ h [] [] := trivial
theorem br_int {k : IntKind} {n : Int} : brA σ h (.int k n) (.int k n) := by simp only [brA, fitA, and_self]
theorem br_bool {b : Bool} : brA σ h (.bool b) (.bool b) := rfl
theorem br_str {s : List UInt8} : brA σ h (.str s) (.str s) := rfl
theorem br_any {a : AV} : brA σ h .any a := trivial
theorem br_lit {v : Value} : brA σ h (.lit v) (.lit v) := rfl
theorem br_agg {l l' : List AV} (h1 : brL σ h l l') : brA σ h (.agg l) (.agg l') := h1
theorem br_ro {e : Ety} {xs : List e.T} : brA σ h (.ro e xs) (.ro e xs) := by
  simp only [brA, fitA, asE_self]
theorem br_ro0 {e : Ety} : brA σ h (.ro e []) (.lit (.slice none 0 0)) := rfl
theorem br_rp {e : Ety} {xs : List e.T} {i off : Nat} : brA σ h (.rp e xs i off) (.rp e xs i off) := by
  simp only [brA, fitA, asE_self, and_self]
theorem br_sl {e : Ety} {ys : List e.T} {t s n : Nat} (hh : hth h t = .rows e ys) (hl : s + n ≤ ys.length) (hn : t ∉ σ) : brA σ h (.ro e ((ys.drop s).take n)) (.sl t e s n) := by
  simp only [brA, hh, asE_self, hl, hn, not_false_eq_true, and_self]
theorem br_full {e : Ety} {ys : List e.T} {t n : Nat} (hh : hth h t = .rows e ys) (hl : n = ys.length) (hn : t ∉ σ) : brA σ h (.ro e ys) (.sl t e 0 n) := by
  subst hl
  have := br_sl (s := 0) (n := ys.length) hh (by simp) hn
  simpa using this
theorem br_ptr {t t' off : Nat} (hs : σ[t]? = some t') : brA σ h (.ptr t off) (.ptr t' off) := by simp only [brA, fitA, hs, and_self]
theorem br_own {e : Ety} {t t' s n : Nat} (hs : σ[t]? = some t') : brA σ h (.sl t e s n) (.sl t' e s n) := by simp only [brA, fitA, hs, and_self]
end
/-- nothing is lent -/
def isRO (e : Ety) (xs : List e.T) (a : AV) : Prop := a = .ro e xs ∨ (a = .lit (.slice none 0 0) ∧ xs = [])
theorem isRO_ro {e : Ety} {xs : List e.T} : isRO e xs (.ro e xs) := .inl rfl
theorem isRO_nil {e : Ety} : isRO e [] (.lit (.slice none 0 0)) := .inr ⟨rfl, rfl⟩
theorem isRO.br {σ : List Nat} {h : List Ch} {e : Ety} {xs : List e.T} {a : AV} (H : isRO e xs a) : brA σ h (.ro e xs) a := by
  rcases H with rfl | ⟨rfl, rfl⟩
  · exact br_ro
  · exact br_ro0
theorem isRO.brT {e : Ety} {xs : List e.T} {a : AV} (H : isRO e xs a) : V.brT (.ro e xs) a = [] := by
  rcases H with rfl | ⟨rfl, rfl⟩ <;> rfl

/-! ### Frames of common shapes -/
section
variable {P : Program} {g : FuncId} {h : List Ch}
/-- nothing is handed over, nothing is new -/
theorem frame_pure {la as : List AV} {ret : AV} {K : KT} (hb : DoesK P 0 g la [] (EndF 0 ret [])) (hbr : brL [] h la as) (hrf : brTL la as = [] ∨ (rfA ret && true && true) = true) (hret : ∀ ρ, renA ρ ret = ret) (HK : K ret h) : Does P g as h K :=
  Does.frame (σ := []) (la := la) (lh := []) (ret := ret) (obj := []) (cs := []) hb rfl hbr trivial .nil hrf (by
    show K (renA _ ret) (h ++ [])
    rw [hret, List.append_nil]
    exact HK)
/-- one new chunk, the result shows it -/
theorem frame_new {la as : List AV} {ret ret' : AV} {c : Ch} {K : KT} (hb : DoesK P 0 g la [] (EndF 0 ret [c])) (hbr : brL [] h la as) (hrf : brTL la as = [] ∨ (rfA ret && true && (rfC c && true)) = true) (hc : ∀ ρ, renC ρ c = c) (hret : renA (rhoC [] h.length) ret = ret') (HK : K ret' (h ++ [c])) : Does P g as h K :=
  Does.frame (σ := []) (la := la) (lh := []) (ret := ret) (obj := []) (cs := [c]) hb rfl hbr trivial .nil hrf (by
    show K (renA _ ret) (h ++ [renC _ c])
    rw [hret, hc]
    exact HK)
/-- one object is handed over -/
theorem frame_obj {t : Nat} {la as : List AV} {ret ret' : AV} {c c' : Ch} {cs : List Ch} {K : KT} (hb : DoesK P 1 g la [c] (EndF 1 ret ([c'] ++ cs))) (ht : hth h t = c) (hg : c ≠ .gone) (hcc : ∀ σ, fitC σ c c) (hbr : brL [t] h la as) (hrf : brTL la as = [] ∨ (rfA ret && (rfC c' && true) && rfCs cs) = true)
    (hc : ∀ ρ, renC ρ c' = c') (hcs : ∀ ρ, renCs ρ cs = cs) (hret : renA (rhoC [t] h.length) ret = ret') (HK : K ret' (h.set t c' ++ cs)) : Does P g as h K :=
  Does.frame (σ := [t]) (la := la) (lh := [c]) (ret := ret) (obj := [c']) (cs := cs) hb rfl hbr ⟨hth_lt (by rw [ht]; exact hg), by rw [ht]; exact hcc _, trivial⟩ (by simp) hrf (by
    show K (renA _ ret) ((h.set t .gone).set t (renC _ c') ++ renCs _ cs)
    rw [List.set_set, hret, hc, hcs]
    exact HK)
/-- one object is handed over, nothing is new -/
theorem frame_obj0 {t : Nat} {la as : List AV} {ret ret' : AV} {c c' : Ch} {K : KT} (hb : DoesK P 1 g la [c] (EndF 1 ret ([c'] ++ []))) (ht : hth h t = c) (hg : c ≠ .gone) (hcc : ∀ σ, fitC σ c c) (hbr : brL [t] h la as) (hrf : brTL la as = [] ∨ (rfA ret && (rfC c' && true) && true) = true)
    (hc : ∀ ρ, renC ρ c' = c') (hret : renA (rhoC [t] h.length) ret = ret') (HK : K ret' (h.set t c')) : Does P g as h K :=
  frame_obj hb ht hg hcc hbr hrf hc (fun _ => rfl) hret (by rw [List.append_nil]; exact HK)
theorem set_hth {h : List Ch} {t : Nat} {c : Ch} (ht : hth h t = c) (hg : c ≠ .gone) : h.set t c = h := by
  have := hth_get ht hg
  obtain ⟨hlt, he⟩ := List.getElem?_eq_some_iff.1 this
  rw [← he]
  exact List.set_getElem_self hlt
theorem fitC_pack (l : List Ch) (σ : List Nat) : fitC σ (.pack l) (.pack l) := rfl
theorem fitC_rows (e : Ety) (xs : List e.T) (σ : List Nat) : fitC σ (.rows e xs) (.rows e xs) := by
  simp only [fitC, asE_self]
end

theorem and_k {A B : Prop} (h2 : B) (h1 : A) : A ∧ B := ⟨h1, h2⟩

/-- an object of one chunk is closed ahead of a call -/
theorem does_close1 {P : Program} {g : FuncId} {h : List Ch} {t : Nat} {vs as : List AV} {K : KT} (hc : hth h t = .cells vs) (hf : fitL [t] vs vs) (H : Does P g (.ptr t 0 :: as) (h.set t (.pack [.cells vs])) K) : Does P g (.ptr t 0 :: as) h K :=
  Does.ghost (gh_close (t := t) (ts := []) (l := [.cells vs]) ⟨⟨_, _, rfl⟩, ⟨hth_lt (by rw [hc]; simp), by rw [hc]; exact hf, trivial⟩, by simp⟩) H

/-! ### Memory -/
/-- the object is opened -/
theorem w_open {P : Program} {k : Nat} {c : Code} {tm : List AV} {h h' : List Ch} {q : Post} {vs : List AV} {rest : List Ch} (t : Nat) (hc : hth h t = .pack (.cells vs :: rest)) (he : openH h t vs rest = h') (H : Wp P k c tm h' q) : Wp P k c tm h q :=
  Wp.ghost (gh_open hc) (he ▸ H)

/-! ### Drawn regions -/
section
variable [ETab] {P : Program} {all : List Oper} {Fin : List AV → List Ch → Prop} {r : List Oper} {i : Nat} {tm : List AV} {h : List Ch} {ps : List Rec} {hs : List (Nat × List Ch)}
theorem d_nil (H : Fin tm h) : DW P all Fin [] i tm h ps hs := .nil H
theorem d_pure {d : Option Nat} {op : Op} {ty : TypeId} {pos : String} {af : Array Edge} (v : AV) (hf : ∀ K : KT, K v h → opK P op tm h K) (hh : ∀ p ∈ hs, reachB all i p.1 = false → Fact P op tm p.2 v p.2)
    (H : ∀ tm', tm' = putA tm d v → DW P all Fin r (i + 1) tm' h (⟨i, op, tm, v⟩ :: ps) hs) : DW P all Fin (⟨d, op, ty, pos, af, none⟩ :: r) i tm h ps hs :=
  .pure v (.inl rfl) hf hh (H _ rfl)
theorem d_heap {d : Option Nat} {op : Op} {ty : TypeId} {pos : String} {af : Array Edge} (v : AV) (h' : List Ch) (hf : ∀ K : KT, K v h' → opK P op tm h K) (hh : ∀ p ∈ hs, reachB all i p.1 = true) (hp : ∀ p ∈ ps, reachB all i p.i = false → Fact P p.o p.tm h' p.v h')
    (H : ∀ tm', tm' = putA tm d v → DW P all Fin r (i + 1) tm' h' ps ((i, h) :: hs)) : DW P all Fin (⟨d, op, ty, pos, af, none⟩ :: r) i tm h ps hs :=
  .heap v h' (.inl rfl) hf hh hp (H _ rfl)
theorem d_run_pure {d : Option Nat} {op : Op} {ty : TypeId} {pos : String} {af : Array Edge} {j t : Nat} {w : Bool} (hd : dstAt all j = some t) (hb : nthA tm t = .bool w) (v : AV) (hf : ∀ K : KT, K v h → opK P op tm h K) (hh : ∀ p ∈ hs, reachB all i p.1 = false → Fact P op tm p.2 v p.2)
    (H : ∀ tm', tm' = putA tm d v → DW P all Fin r (i + 1) tm' h (⟨i, op, tm, v⟩ :: ps) hs) : DW P all Fin (⟨d, op, ty, pos, af, some (j, w)⟩ :: r) i tm h ps hs :=
  .pure v (.inr ⟨j, w, t, rfl, hd, hb⟩) hf hh (H _ rfl)
theorem d_run_heap {d : Option Nat} {op : Op} {ty : TypeId} {pos : String} {af : Array Edge} {j t : Nat} {w : Bool} (hd : dstAt all j = some t) (hb : nthA tm t = .bool w) (v : AV) (h' : List Ch) (hf : ∀ K : KT, K v h' → opK P op tm h K) (hh : ∀ p ∈ hs, reachB all i p.1 = true) (hp : ∀ p ∈ ps, reachB all i p.i = false → Fact P p.o p.tm h' p.v h')
    (H : ∀ tm', tm' = putA tm d v → DW P all Fin r (i + 1) tm' h' ps ((i, h) :: hs)) : DW P all Fin (⟨d, op, ty, pos, af, some (j, w)⟩ :: r) i tm h ps hs :=
  .heap v h' (.inr ⟨j, w, t, rfl, hd, hb⟩) hf hh hp (H _ rfl)
theorem d_pass {d : Option Nat} {op : Op} {ty : TypeId} {pos : String} {af : Array Edge} {j t : Nat} {w : Bool} (hd : dstAt all j = some t) (hb : nthA tm t = .bool (!w)) (H : ∀ tm', tm' = putA tm d (.lit undef) → DW P all Fin r (i + 1) tm' h ps hs) : DW P all Fin (⟨d, op, ty, pos, af, some (j, w)⟩ :: r) i tm h ps hs :=
  .skip j t w rfl hd (.inl hb) (H _ rfl)
theorem d_passu {d : Option Nat} {op : Op} {ty : TypeId} {pos : String} {af : Array Edge} {j t : Nat} {w : Bool} (hd : dstAt all j = some t) (hb : nthA tm t = .lit undef) (H : ∀ tm', tm' = putA tm d (.lit undef) → DW P all Fin r (i + 1) tm' h ps hs) : DW P all Fin (⟨d, op, ty, pos, af, some (j, w)⟩ :: r) i tm h ps hs :=
  .skip j t w rfl hd (.inr hb) (H _ rfl)
/-- a boolean that is not known is looked at -/
theorem d_split {j t : Nat} {w b : Bool} {o : Oper} (_hg : o.guard = some (j, w)) (_hd : dstAt all j = some t) (_hb : nthA tm t = .bool b)
    (H1 : b = true → DW P all Fin (o :: r) i tm h ps hs) (H2 : b = false → DW P all Fin (o :: r) i tm h ps hs) : DW P all Fin (o :: r) i tm h ps hs := by
  cases b
  · exact H2 rfl
  · exact H1 rfl
omit [ETab] in
theorem all_nil {α : Type} {p : α → Prop} : ∀ x ∈ ([] : List α), p x := fun x hx => by cases hx
omit [ETab] in
theorem all_cons' {α : Type} {p : α → Prop} {a : α} {l : List α} (h2 : ∀ x ∈ l, p x) (h1 : p a) : ∀ x ∈ a :: l, p x := fun x hx => by
  rcases List.mem_cons.1 hx with rfl | hx
  · exact h1
  · exact h2 x hx
omit [ETab] in
theorem all_cons {α : Type} {p : α → Prop} {a : α} {l : List α} (h1 : p a) (h2 : ∀ x ∈ l, p x) : ∀ x ∈ a :: l, p x := fun x hx => by
  rcases List.mem_cons.1 hx with rfl | hx
  · exact h1
  · exact h2 x hx
end
attribute [go_sem ↓] slice3K clearK appInK appRcK rangeK nextK entryK lookupK mupdK mmapK mdelK mlenK len2K mkK eqSK eqNK eqCell eqFlds opK binK ibin shK sbin eqK unK convHK convK fldAddrK idxAddrK idxK loK sliceK nilCheckK extractK pickK_def lenTK fieldK callK loadK loadCellsK storeK openK allocK boxK srcK appSrcK appK bsK bsR bsC catK appCK taK conK isSlK frzX frz1 frzV buildK mmgo_def mm_def frzP_def frzL_def frzLX_def elemsK_def fillK_def resK_def hideB_true hideB_false nthA dstAt
attribute [go_sem] sliceHK_sl sliceHK_none sliceHK_ro sliceHK_str sliceHK_lit capN_rows capN_succ capM_self isTmp slR clipA_full app2K_rc app2K_sl app2K_ro app2K_str app2K_lit app2K_nil app3K_rc app3K_sl app3K_ro app3K_str app3K_lit app3K_csl zoneT okCells repN_len asM_self allP_nil KTy.av KTy.of KTy.kd lookR decV okV valA zokV Ety.dflt Int.natCast_zero Int.natCast_one List.take_length List.length_take Nat.min_self Int.toNat_natCast Int.toNat_zero Nat.mul_one Option.isNone_none Option.isNone_some Option.getD_none Option.getD_some Option.isSome_some Option.isSome_none maxBytes evA evAs evPs optA nthA List.set_cons_zero List.set_cons_succ List.set_nil writes dsts killT liveT setH Option.bind_some Option.bind_none ofV partA allN setA cellsA okCells tfs aggT hth zlenT openH renA renL renC renCs rhoO rhoC asE_self bytesOf Ety.enc Ety.dec Ety.sz Ety.decOk okByte roA AV.cell AV.tf Value.oneCell' retA fitA fitL fitC fitHs closeH goneH setHL frA frL frC frHs frOb frObL frObC frObH isNil rfA rfL rfC rfCs Ety.flat brTL brT List.map_cons List.map_nil List.length_cons List.length_nil List.length_set List.length_append List.cons_append List.nil_append List.append_nil List.drop_succ_cons List.drop_zero List.take_succ_cons List.take_zero Nat.zero_add Nat.add_zero List.replicate_succ List.replicate_zero List.getElem?_cons_zero List.getElem?_cons_succ List.replicate List.toList_toArray Bool.false_eq_true if_true if_false and_true true_and and_self implies_true forall_const List.range_zero exists_eq_left exists_eq_left' ne_eq not_false_eq_true not_true_eq_false
/-- no loop at the head -/
def notLoop : Code → Bool
  | .block _ (.loop _) => false
  | _ => true
theorem w_seqN {P : Program} {k : Nat} {a b : Code} {tm : List AV} {h : List Ch} {q : Post} (_ : notLoop a = true) (H : ∀ K : List AV → List Ch → Prop, (∀ tm h, Wp P k b tm h q → K tm h) → Wp P k a tm h ⟨K, q.x, q.r⟩) : Wp P k (.seq a b) tm h q := w_seq H
end Go.V

namespace Go.V
section
variable {P : Program} {Q : Exit → Act → World → Prop}
structure Sim (π : Nat → Nat) (X Y : Nat) (l l' : Array Oper) : Prop where
  ne : X ≠ Y
  inv : ∀ j, π (π j) = j
  op : ∀ j o, l[j]? = some o → ∃ o', l'[π j]? = some o' ∧ o'.op = o.op ∧ o'.dst = o.dst ∧ o'.type = o.type ∧ o'.pos = o.pos ∧ o'.guard = o.guard.map (fun x => (π x.1, x.2))
  no : ∀ j, l[j]? = none → l'[π j]? = none
  e1 : ∀ j o o', l[j]? = some o → l'[π j]? = some o' → ∀ e' ∈ o'.after, Region.binds .any e' = true → (∃ e ∈ o.after, Region.binds .any e = true ∧ e'.on = π e.on) ∨ (j = X ∧ e'.on = π Y)
  e2 : ∀ j o o', l[j]? = some o → l'[π j]? = some o' → ∀ e ∈ o.after, Region.binds .any e = true → ∃ e' ∈ o'.after, Region.binds .any e' = true ∧ e'.on = π e.on
theorem upon_same {o o' : Oper} (h1 : o'.op = o.op) (h2 : o'.dst = o.dst) (h3 : o'.type = o.type) (h4 : o'.pos = o.pos) {a : Act} {w : World} {K : Act → World → Prop} :
    (o'.wp P a w K Q → o.wp P a w K Q) ∧ (o'.asks P a w → o.asks P a w) := by
  obtain ⟨d, op, ty, pos, af, g⟩ := o
  obtain ⟨d', op', ty', pos', af', g'⟩ := o'
  dsimp only at h1 h2 h3 h4
  subst h1 h2 h3 h4
  exact ⟨fun h => h, fun h => h⟩
theorem wanted_sim {π : Nat → Nat} {X Y : Nat} {l l' : Array Oper} (S : Sim π X Y l l') {o o' : Oper} (hg : o'.guard = o.guard.map (fun x => (π x.1, x.2))) (tmps : Array Value) : Region.wanted o' (yielded l' tmps) = Region.wanted o (yielded l tmps) := by
  have hy : ∀ j, yielded l' tmps (π j) = yielded l tmps j := fun j => by
    unfold yielded
    cases h : l[j]? with
    | none => rw [S.no j h]
    | some o1 =>
      obtain ⟨o2, h2, _, h3, _⟩ := S.op j o1 h
      rw [h2]
      simp only [Option.bind_some, h3]
  unfold Region.wanted
  rw [hg]
  cases o.guard with
  | none => rfl
  | some x => simp only [Option.map_some, hy]
theorem wpOp_sim {π : Nat → Nat} {X Y : Nat} {l l' : Array Oper} (S : Sim π X Y l l') {i : Nat} {K : Act → World → Prop} {a : Act} {w : World} (h : wpOp P l' Q (π i) K a w) : wpOp P l Q i K a w := by
  unfold wpOp at *
  cases hi : l[i]? with
  | none =>
    rw [S.no i hi] at h
    exact h
  | some o =>
    obtain ⟨o', h1, h2, h3, h4, h5, h6⟩ := S.op i o hi
    rw [h1] at h
    simp only at h ⊢
    rw [wanted_sim S h6] at h
    split
    · rename_i hw
      rw [if_pos hw] at h
      obtain ⟨u1, u2⟩ := upon_same (P := P) (Q := Q) (a := a) (w := w) (K := K) h2 h3 h4 h5
      exact h.imp u1 fun x => ⟨u2 x.1, x.2⟩
    · rename_i hw
      rw [if_neg hw] at h
      rw [← h3]
      exact h
theorem ready_bwd {π : Nat → Nat} {X Y : Nat} {l l' : Array Oper} (S : Sim π X Y l l') {listed listed' : Array Bool} (hl : ∀ j d, listed'.getD (π j) d = listed.getD j d) {j : Nat} (h : π j ∈ Region.ready .any l' listed') : j ∈ Region.ready .any l listed := by
  obtain ⟨h1, o', ho', h2⟩ := mem_ready.1 h
  rw [hl] at h1
  cases ho : l[j]? with
  | none => rw [S.no j ho] at ho'; cases ho'
  | some o =>
    refine mem_ready.2 ⟨h1, o, ho, fun e he hb => ?_⟩
    obtain ⟨e', he', hb', hon⟩ := S.e2 j o o' ho ho' e he hb
    have := h2 e' he' hb'
    rw [hon, hl] at this
    exact this
theorem ready_fwd {π : Nat → Nat} {X Y : Nat} {l l' : Array Oper} (S : Sim π X Y l l') {listed listed' : Array Bool} (hl : ∀ j d, listed'.getD (π j) d = listed.getD j d) {j : Nat} (h : j ∈ Region.ready .any l listed) (hf : j = X → listed.getD Y false = true) : π j ∈ Region.ready .any l' listed' := by
  obtain ⟨h1, o, ho, h2⟩ := mem_ready.1 h
  obtain ⟨o', ho', _⟩ := S.op j o ho
  refine mem_ready.2 ⟨by rw [hl]; exact h1, o', ho', fun e' he' hb' => ?_⟩
  rcases S.e1 j o o' ho ho' e' he' hb' with ⟨e, he, hb, hon⟩ | ⟨hX, hon⟩
  · rw [hon, hl]
    exact h2 e he hb
  · rw [hon, hl]
    exact hf hX
/-- X does not come ahead of Y -/
def okO (X Y : Nat) : List Nat → Bool
  | [] => true
  | i :: r => if i = Y then true else if i = X then false else okO X Y r
theorem okO_or {X Y : Nat} : ∀ {l : List Nat}, okO X Y l = false → okO Y X l = true
  | [], h => by simp [okO] at h
  | i :: r, h => by
    unfold okO at h ⊢
    by_cases c : i = X
    · rw [if_pos c]
    · rw [if_neg c]
      by_cases d : i = Y
      · rw [if_pos d] at h; cases h
      · rw [if_neg d, if_neg c] at h
        rw [if_neg d]
        exact okO_or h
theorem run_sim {π : Nat → Nat} {X Y : Nat} {l l' : Array Oper} (S : Sim π X Y l l') : ∀ (fuel t : Nat) (listed listed' : Array Bool) (a : Act) (w : World), (∀ j d, listed'.getD (π j) d = listed.getD j d) →
    (listed.getD Y false = true ∨ okO X Y (Region.linearise.go .any l fuel t listed []) = true) → wpAny P .any l' Q fuel listed' a w → wpOps P l Q (Region.linearise.go .any l fuel t listed []) a w := by
  intro fuel
  induction fuel with
  | zero => intro t listed listed' a w _ _ h; simpa [Region.linearise.go, wpOps] using h.2
  | succ fuel ih =>
    intro t listed listed' a w hl hf h
    obtain ⟨h₀, h₁⟩ := h
    have hgo : Region.linearise.go .any l (fuel + 1) t listed [] = (match (Region.ready .any l listed)[t % (Region.ready .any l listed).length]? with
      | some i => Region.linearise.go .any l fuel (t / (Region.ready .any l listed).length) (listed.setIfInBounds i true) [i]
      | none => [].reverse) := by
      rw [Region.linearise.go]
      rfl
    rw [hgo] at hf ⊢
    cases hi : (Region.ready .any l listed)[t % (Region.ready .any l listed).length]? with
    | none =>
      have hnil : Region.ready .any l listed = [] := by
        cases hr : Region.ready .any l listed with
        | nil => rfl
        | cons x xs =>
          rw [hr] at hi
          have hlt : t % (x :: xs).length < (x :: xs).length := Nat.mod_lt _ (by simp)
          simp at hi
          simp at hlt
          omega
      have hnil' : Region.ready .any l' listed' = [] := by
        apply List.eq_nil_iff_forall_not_mem.2
        intro j hj
        have e : π (π j) = j := S.inv j
        rw [← e] at hj
        have := ready_bwd S hl hj
        rw [hnil] at this
        cases this
      simpa [wpOps] using h₀ hnil'
    | some i =>
      rw [hi] at hf
      simp only [] at hf ⊢
      rw [linearise_go_acc, List.reverse_singleton, List.singleton_append] at hf ⊢
      rw [wpOps_cons]
      have hmem := List.mem_of_getElem? hi
      have hi1 := (mem_ready.1 hmem).1
      have hin : i < listed.size := by
        false_or_by_contra
        rename_i hc
        simp [Array.getD, hc] at hi1
      have hfl : i = X → listed.getD Y false = true := fun e => by
        rcases hf with hf | hf
        · exact hf
        · unfold okO at hf
          by_cases c : i = Y
          · rw [if_pos c] at hf
            exact absurd (e.symm.trans c) S.ne
          · rw [if_neg c, if_pos e] at hf
            cases hf
      have hmem' := ready_fwd S hl hmem hfl
      have hi2 := (mem_ready.1 hmem').1
      have hin' : π i < listed'.size := by
        false_or_by_contra
        rename_i hc
        simp [Array.getD, hc] at hi2
      refine wpOp_sim S (wpOp_mono (fun a w hk => ih _ _ _ a w ?_ ?_ hk) (h₁ (π i) hmem'))
      · intro j d
        by_cases e : j = i
        · subst e
          simp [Array.getD, hin, hin']
        · have e' : π i ≠ π j := fun q => e (by rw [← S.inv j, ← q, S.inv i])
          rw [getD_set_ne d e', getD_set_ne d (fun q => e q.symm)]
          exact hl j d
      · by_cases c : i = Y
        · left
          subst c
          simp [Array.getD, hin]
        · rcases hf with hf | hf
          · left
            rw [getD_set_ne false c]
            exact hf
          · right
            unfold okO at hf
            rw [if_neg c] at hf
            split at hf
            · cases hf
            · exact hf
/-- places p and the next are exchanged -/
def sw (p j : Nat) : Nat := if j = p then p + 1 else if j = p + 1 then p else j
theorem sw_sw (p j : Nat) : sw p (sw p j) = j := by
  unfold sw
  by_cases h1 : j = p
  · simp [h1]
  · by_cases h2 : j = p + 1
    · simp [h2]
    · simp [h1, h2]
def reE (p : Nat) (e : Edge) : Edge := ⟨sw p e.on, e.ground⟩
def reO (p : Nat) (o : Oper) : Oper := ⟨o.dst, o.op, o.type, o.pos, o.after.map (reE p), o.guard.map fun x => (sw p x.1, x.2)⟩
def addE (p : Nat) (o : Oper) : Oper := ⟨o.dst, o.op, o.type, o.pos, o.after.push ⟨p, .data⟩, o.guard⟩
def opA (p j : Nat) (o : Oper) : Oper := if j = p + 1 then addE p o else o
def opB (p j : Nat) (o : Oper) : Oper := if j = p + 1 then addE p (reO p o) else reO p o
def mapK (f : Nat → Oper → Oper) : Nat → List Oper → List Oper
  | _, [] => []
  | k, o :: r => f k o :: mapK f (k + 1) r
theorem mapK_get (f : Nat → Oper → Oper) : ∀ (l : List Oper) (k j : Nat), (mapK f k l)[j]? = (l[j]?).map (f (k + j))
  | [], _, _ => by simp [mapK]
  | o :: r, k, 0 => by simp [mapK]
  | o :: r, k, j + 1 => by
    simp only [mapK, List.getElem?_cons_succ]
    rw [mapK_get f r (k + 1) j, Nat.add_right_comm, Nat.add_assoc]
theorem mapK_len (f : Nat → Oper → Oper) : ∀ (l : List Oper) (k : Nat), (mapK f k l).length = l.length
  | [], _ => rfl
  | _ :: r, k => by simp [mapK, mapK_len f r]
def lA (p : Nat) (l : List Oper) : List Oper := mapK (opA p) 0 l
def lS : Nat → List Oper → List Oper
  | 0, a :: b :: r => b :: a :: r
  | n + 1, a :: r => a :: lS n r
  | _, l => l
def lB (p : Nat) (l : List Oper) : List Oper := mapK (opB p) 0 (lS p l)
theorem lS_get : ∀ (p : Nat) (l : List Oper), p + 1 < l.length → ∀ j, (lS p l)[sw p j]? = l[j]?
  | 0, [], h, _ => by simp at h
  | 0, [_], h, _ => by simp at h
  | 0, a :: b :: r, _, j => by
    match j with
    | 0 => rfl
    | 1 => rfl
    | j + 2 => simp [lS, sw]
  | p + 1, [], h, _ => by simp at h
  | p + 1, a :: r, h, j => by
    match j with
    | 0 => simp [lS, sw]
    | j + 1 =>
      have e : sw (p + 1) (j + 1) = sw p j + 1 := by
        by_cases h1 : j = p
        · simp [sw, h1]
        · by_cases h2 : j = p + 1
          · simp [sw, h2]
          · simp [sw, h1, h2]
      rw [e]
      simp only [lS, List.getElem?_cons_succ]
      exact lS_get p r (by simpa using h) j
theorem simA (p : Nat) (l : List Oper) : Sim id (p + 1) p l.toArray (lA p l).toArray := by
  have hg : ∀ j, (lA p l)[j]? = (l[j]?).map (opA p j) := fun j => by unfold lA; rw [mapK_get, Nat.zero_add]
  refine ⟨by omega, fun _ => rfl, fun j o ho => ?_, fun j ho => ?_, fun j o o' ho ho' e' he' hb' => ?_, fun j o o' ho ho' e he hb => ?_⟩
  · have ho : l[j]? = some o := by simpa using ho
    refine ⟨opA p j o, by simp [hg, ho], ?_⟩
    unfold opA
    split
    · exact ⟨rfl, rfl, rfl, rfl, by show o.guard = _; cases o.guard <;> rfl⟩
    · exact ⟨rfl, rfl, rfl, rfl, by cases o.guard <;> rfl⟩
  · have ho : l[j]? = none := by simpa using ho
    simp [hg, ho]
  · have ho : l[j]? = some o := by simpa using ho
    have ho' : opA p j o = o' := by simpa [hg, ho] using ho'
    subst ho'
    unfold opA at he'
    split at he'
    · simp only [addE, Array.mem_push] at he'
      rcases he' with he' | rfl
      · exact .inl ⟨e', he', hb', rfl⟩
      · rename_i c
        exact .inr ⟨c, rfl⟩
    · exact .inl ⟨e', he', hb', rfl⟩
  · have ho : l[j]? = some o := by simpa using ho
    have ho' : opA p j o = o' := by simpa [hg, ho] using ho'
    subst ho'
    refine ⟨e, ?_, hb, rfl⟩
    unfold opA
    split
    · simp [addE, he]
    · exact he
theorem simB (p : Nat) (l : List Oper) (hp : p + 1 < l.length) : Sim (sw p) p (p + 1) l.toArray (lB p l).toArray := by
  have hg : ∀ j, (lB p l)[sw p j]? = (l[j]?).map (opB p (sw p j)) := fun j => by unfold lB; rw [mapK_get, Nat.zero_add, lS_get p l hp]
  have hsp : sw p (p + 1) = p := by simp [sw]
  refine ⟨by omega, sw_sw p, fun j o ho => ?_, fun j ho => ?_, fun j o o' ho ho' e' he' hb' => ?_, fun j o o' ho ho' e he hb => ?_⟩
  · have ho : l[j]? = some o := by simpa using ho
    refine ⟨opB p (sw p j) o, by simp [hg, ho], ?_⟩
    unfold opB
    split
    · exact ⟨rfl, rfl, rfl, rfl, rfl⟩
    · exact ⟨rfl, rfl, rfl, rfl, rfl⟩
  · have ho : l[j]? = none := by simpa using ho
    simp [hg, ho]
  · have ho : l[j]? = some o := by simpa using ho
    have ho' : opB p (sw p j) o = o' := by simpa [hg, ho] using ho'
    subst ho'
    have key : ∀ e' ∈ o.after.map (reE p), Region.binds .any e' = true → ∃ e ∈ o.after, Region.binds .any e = true ∧ e'.on = sw p e.on := fun e' he' hb' => by
      obtain ⟨e, he, rfl⟩ := Array.mem_map.1 he'
      exact ⟨e, he, by simpa [Region.binds, reE] using hb', rfl⟩
    unfold opB at he'
    split at he'
    · simp only [addE, reO, Array.mem_push] at he'
      rcases he' with he' | rfl
      · exact .inl (key e' he' hb')
      · rename_i c
        refine .inr ⟨?_, hsp.symm⟩
        have := congrArg (sw p) c
        rw [sw_sw, hsp] at this
        exact this
    · exact .inl (key e' he' hb')
  · have ho : l[j]? = some o := by simpa using ho
    have ho' : opB p (sw p j) o = o' := by simpa [hg, ho] using ho'
    subst ho'
    refine ⟨reE p e, ?_, by simpa [Region.binds, reE] using hb, rfl⟩
    have hm : reE p e ∈ o.after.map (reE p) := Array.mem_map.2 ⟨e, he, rfl⟩
    unfold opB
    split
    · simp only [addE, reO, Array.mem_push]
      exact .inl hm
    · exact hm
end
variable {P : Program} [ETab]
theorem draw_any {k : Nat} {l : List Oper} {tm : List AV} {h : List Ch} {q : Post} (hc : chkR l = true) (H : ∀ Fin : List AV → List Ch → Prop, (∀ tm h, q.n tm h → Fin tm h) → DW P l Fin l 0 tm h [] []) {R : RO} {μ : List Bind} {a : Act} {w : World} (s : SR R μ tm h a w) (hl : k ≤ μ.length) :
    wpAny P .any l.toArray (EndQ k R μ h w q) l.toArray.size (Array.replicate l.toArray.size false) a { w with drawn := w.drawn + 1 } := by
  have C := chkR_ok hc
  have hw := H q.n fun _ _ h => h
  have hp0 : Past P l h tm 0 tm h [] [] [] := ⟨rfl, by cases l <;> rfl, fun p hp => (by cases hp), rfl, fun j o v hj => by omega⟩
  obtain ⟨tm', h', ps', hs', vs', h1, h2⟩ := hw.data C (fun j => by simp) [] hp0
  rw [Nat.zero_add] at h2
  have hget : ∀ j, (Array.replicate l.length false).getD j false = false := by
    intro j
    by_cases hj : j < l.length <;> simp [hj]
  have hD0 : (fun j => (Array.replicate l.toArray.size false).getD j false) = fun _ => false := by
    funext j
    simpa using hget j
  have e1 : putsD (fun j => (Array.replicate l.toArray.size false).getD j false) l vs' 0 tm = tm := by
    rw [hD0]
    have key : ∀ (os : List Oper) (vs : List AV) (i : Nat), putsD (fun _ => false) os vs i tm = tm := by
      intro os
      induction os with
      | nil => intro vs i; cases vs <;> rfl
      | cons o os ih =>
        intro vs i
        cases vs with
        | nil => rfl
        | cons v vs => simp [putsD, ih]
    exact key ..
  have sm := s.mem.same (w' := { w with drawn := w.drawn + 1 }) (fun _ _ => rfl) (Nat.le_refl _) rfl rfl rfl
  have hheap : heapR (fun j => (Array.replicate l.toArray.size false).getD j false) hs' h' = h := by
    rw [hD0]
    exact h2.first
  refine any_ok C (Q := EndQ k R μ h w q) (k := k) (R0 := R) (μ0 := μ) (h0 := h) (w0 := w) (fun R' μ' tm' h' a' w' s' st kp hk => ⟨R', μ', tm', h', s', st, kp, hk⟩) h1 h2 _ _ R μ a _ (by simp) ?_ ?_ ?_ ?_ (.refl hl)
  · rw [hD0]
    intro i hi
    cases hi
  · rw [hD0]
    have : ∀ n, cntD (fun _ => false) n ≤ n := by
      intro n
      induction n with
      | zero => exact Nat.le_refl _
      | succ n ih => simp only [cntD]; simp; exact ih
    simpa using this l.length
  · rw [e1, hheap]
    exact ⟨sm.1, s.tm, s.dfr⟩
  · rw [hheap]
    exact sm.2
/-- in the region id the operations p and p + 1 have no order -/
structure SwapAt (id p : Nat) : Prop where
theorem w_drawS {p : Nat} {k : Nat} {id : Nat} {l la lb : List Oper} {tm : List AV} {h : List Ch} {q : Post} (hs : SwapAt id p) (hm : P.follows .mixedOrders = true) (hp : p + 1 < l.length) (eA : lA p l = la) (eB : lB p l = lb) (cA : chkR la = true) (cB : chkR lb = true)
    (HA : ∀ Fin : List AV → List Ch → Prop, (∀ tm h, q.n tm h → Fin tm h) → DW P la Fin la 0 tm h [] []) (HB : ∀ Fin : List AV → List Ch → Prop, (∀ tm h, q.n tm h → Fin tm h) → DW P lb Fin lb 0 tm h [] []) : Wp P k (.region id l.toArray true) tm h q :=
  ⟨fun R μ a w s hl => wp_region_draw fun t => by
    simp only [Region.schedule, hm, Bool.true_or, if_true]
    subst eA eB
    have zA := draw_any cA HA s hl
    have zB := draw_any cB HB s hl
    have sA : (lA p l).toArray.size = l.toArray.size := by simp [lA, mapK_len]
    have sB : (lB p l).toArray.size = l.toArray.size := by
      have key : ∀ (p : Nat) (l : List Oper), (lS p l).length = l.length := by
        intro p
        induction p with
        | zero => intro l; match l with
          | [] => rfl
          | [_] => rfl
          | _ :: _ :: _ => rfl
        | succ p ih => intro l; match l with
          | [] => rfl
          | _ :: r => simp [lS, ih]
      simp [lB, key, mapK_len]
    rw [sA] at zA
    rw [sB] at zB
    have hrep : ∀ j d, (Array.replicate l.toArray.size false).getD (sw p j) d = (Array.replicate l.toArray.size false).getD j d := fun j d => by
      have e : sw p j < l.length ↔ j < l.length := by unfold sw; split <;> (try split) <;> omega
      by_cases c : j < l.length
      · have c' := e.2 c
        simp [Array.getD, c, c']
      · have c' : ¬ sw p j < l.length := fun q => c (e.1 q)
        simp [Array.getD, c, c']
    cases ho : okO (p + 1) p (Region.linearise.go .any l.toArray l.toArray.size t (Array.replicate l.toArray.size false) []) with
    | true => exact run_sim (simA p l) _ t _ _ a _ (fun _ _ => rfl) (.inr ho) zA
    | false => exact run_sim (simB p l hp) _ t _ _ a _ hrep (.inr (okO_or ho)) zB⟩
end Go.V

namespace Go.V
variable {P : Program} {h : List Ch} {tm : List AV} {k : Nat} {q : Post}
/-- slot by slot the same, or nothing said -/
def subT : List AV → List AV → Prop
  | [], l => (match l with | [] => True | _ => False)
  | g :: gs, l => (match l with | a :: as => (g = .any ∨ g = a) ∧ subT gs as | [] => False)
theorem subT_rel {R : RO} {μ : List Bind} : ∀ {gs as : List AV} {vs : List Value}, subT gs as → LRel R μ as vs → LRel R μ gs vs
  | [], [], _, _, h => h
  | [], _ :: _, _, q, _ => q.elim
  | _ :: _, [], _, q, _ => q.elim
  | g :: gs, a :: as, _, q, h => by
    cases h with
    | cons h1 h2 =>
      refine .cons ?_ (subT_rel q.2 h2)
      rcases q.1 with rfl | rfl
      · exact .any
      · exact h1
theorem sub_nil : subT [] [] := trivial
theorem sub_cons {g a : AV} {gs as : List AV} (h1 : g = .any ∨ g = a) (h2 : subT gs as) : subT (g :: gs) (a :: as) := ⟨h1, h2⟩
def BackS {A : Type} (inv : A → Prop) (mu : A → Nat) (live : A → List AV) (h : List Ch) (x : A) (tm' : List AV) (h' : List Ch) : Prop :=
  ∃ x', (inv x' ∧ mu x' < mu x) ∧ subT (live x') tm' ∧ h' = h
theorem w_loopS [ETab] {c : Code} {A : Type} (inv : A → Prop) (mu : A → Nat) (live : A → List (Nat × AV)) (x0 : A) {ws : List Nat} {tk : List AV} (hw : writes c = ws) (ht : killT tm ws = tk) (hi : inv x0)
    (h0 : subT (liveT tk (live x0)) tm)
    (H : ∀ (x : A) (E : List AV → List Ch → Prop) t, inv x → (∀ tm' h', BackS inv mu (fun x => liveT tk (live x)) h x tm' h' → E tm' h') → liveT tk (live x) = t →
      Wp P k c t h ⟨E, q.x, q.r⟩) : Wp P k (.loop c) tm h q :=
  ⟨fun R μ a w s hl => by
    refine wp_loop_rel (fun n a' w' => ∃ R' μ' x, inv x ∧ mu x = n ∧ SR R' μ' (liveT tk (live x)) h a' w' ∧ Step (ownH h μ) R w (ownH h μ') R' w' ∧ Keeps k μ μ')
      (mu x0) ⟨R, μ, x0, hi, rfl, ⟨s.mem, subT_rel h0 s.tm, s.dfr⟩, Step.refl _ _ _, .refl hl⟩ ?_
    rintro n a' w' ⟨R', μ', x, hinv, rfl, s', st, kp⟩
    refine wp_mono ((H x _ _ hinv (fun tm' h' hb => hb) rfl).run R' μ' a' w' s' kp.len) ?_
    intro e a2 w2 hq
    obtain ⟨R2, μ2, tm2, h2, s2, st2, kp2, hq⟩ := hq
    cases e with
    | normal =>
      obtain ⟨x', ⟨hinv', hlt⟩, hsub, rfl⟩ := hq
      exact ⟨_, hlt, R2, _, x', hinv', rfl, ⟨s2.mem, subT_rel hsub s2.tm, s2.dfr⟩, st.trans st2, kp.trans kp2⟩
    | exit i => exact ⟨R2, μ2, tm2, h2, s2, st.trans st2, kp.trans kp2, hq⟩
    | goto l => exact ⟨R2, μ2, tm2, h2, s2, st.trans st2, kp.trans kp2, hq⟩
    | ret => exact ⟨R2, μ2, tm2, h2, s2, st.trans st2, kp.trans kp2, hq⟩
    | _ => exact hq.elim⟩
/-- a slice that the call made is handed back as one that lies for good -/
theorem end_ro {t n : Nat} {e : Ety} {xs ys : List e.T} (hc : hth h t = .rows e xs) (hn : n = xs.length) (he : ys = xs) (ho : frObH t e xs.length h) : ∃ v' h2, Gh [.sl t e 0 n] h [v'] h2 ∧ EndF 0 (.ro e ys) [] v' h2 := by
  subst he
  subst hn
  refine ⟨_, _, gh_frz hc (by simp [frObL, frOb]) ho, [], rfl, ⟨?_, trivial⟩, trivial, .nil⟩
  simp [frA, fitA, asE_self]
theorem ops_id [ETab] {k : Nat} {all r : List Oper} {K : List AV → List Ch → Prop} (H : Ops P k all r tm h K) : Ops P k all r tm h K := H
end Go.V

namespace Go.V
def Rng.zero : Rng := ⟨0, 0⟩
def Itm.zero : Itm := ⟨0, 0, 0, []⟩
def Ent.zero : Ent := ⟨0, 0, 0, 0, []⟩
def REnt.zero : REnt := ⟨0, 0, 0, [], 0⟩
theorem get_int (xs : List (Int)) (i : Nat) : Ety.get .int xs i = xs.getD i 0 := rfl
theorem get_byte (xs : List (UInt8)) (i : Nat) : Ety.get .byte xs i = xs.getD i 0 := rfl
theorem get_str (xs : List (List UInt8)) (i : Nat) : Ety.get .str xs i = xs.getD i [] := rfl
theorem get_rng (xs : List (Rng)) (i : Nat) : Ety.get .rng xs i = xs.getD i Rng.zero := rfl
theorem get_itm (xs : List (Itm)) (i : Nat) : Ety.get .itm xs i = xs.getD i Itm.zero := rfl
theorem get_ent (xs : List (Ent)) (i : Nat) : Ety.get .ent xs i = xs.getD i Ent.zero := rfl
theorem get_ren (xs : List (REnt)) (i : Nat) : Ety.get .ren xs i = xs.getD i REnt.zero := rfl
attribute [go_sem] dec_int dec_byte dec_str dec_rng dec_itm dec_ent dec_ren Rng.cells Itm.cells Ent.cells REnt.cells get_int get_byte get_str get_rng get_itm get_ent get_ren
end Go.V

namespace Go.V
open Go.RowKit

theorem wrap_u64 (k : Int) : IntKind.u64.wrap k = k % 18446744073709551616 := by simp [IntKind.wrap, IntKind.bits, IntKind.signed]
theorem wrap_u8 (k : Int) : IntKind.u8.wrap k = k % 256 := by simp [IntKind.wrap, IntKind.bits, IntKind.signed]
theorem wrap_i64 (n : Int) (h0 : -9223372036854775808 ≤ n) (h1 : n ≤ 9223372036854775807) : IntKind.i64.wrap n = n := by
  rw [IntKind.wrap_i64]
  omega
theorem u8_ofN (x : Nat) (h1 : x < 256) : (UInt8.ofNat x).toNat = x := by simp; omega
theorem u8_lt (x : UInt8) : x.toNat < 256 := x.toNat_lt

theorem u8_ltI (x : UInt8) : (x.toNat : Int) < 256 := by have := u8_lt x; omega
theorem u8w_lo (x : Int) : 0 ≤ IntKind.u8.wrap x := by rw [wrap_u8]; omega
theorem u8w_hi (x : Int) : IntKind.u8.wrap x < 256 := by rw [wrap_u8]; omega
theorem bits8 (op : BinOp) (x y : Int) : 0 ≤ bitsI op .u8 x y ∧ bitsI op .u8 x y < 256 := by
  cases op <;> exact ⟨u8w_lo _, u8w_hi _⟩
def I64 (n : Int) : Prop := -9223372036854775808 ≤ n ∧ n ≤ 9223372036854775807
/-- base 128, least significant group first -/
def vint (z : Nat) : List UInt8 := if z < 128 then [UInt8.ofNat z] else UInt8.ofNat (z % 128 + 128) :: vint (z / 128)
termination_by z
decreasing_by omega
theorem vint_small {z : Nat} (h : z < 128) : vint z = [UInt8.ofNat z] := by rw [vint, if_pos h]
theorem vint_big {z : Nat} (h : ¬ z < 128) : vint z = UInt8.ofNat (z % 128 + 128) :: vint (z / 128) := by rw [vint, if_neg h]
theorem vint_len (k : Nat) : ∀ z, z < 128 ^ (k + 1) → (vint z).length ≤ k + 1 := by
  induction k with
  | zero => intro z h; rw [vint_small (by omega)]; simp
  | succ k ih =>
    intro z h
    by_cases hz : z < 128
    · rw [vint_small hz]; simp
    · rw [vint_big hz]
      have := ih (z / 128) (by rw [Nat.div_lt_iff_lt_mul (by decide)]; rw [Nat.pow_succ] at h; exact h)
      simp only [List.length_cons]
      omega
/-- what has been read of a base-128 number: k groups, their value q -/
def VPre (ys : List UInt8) (k q : Nat) : Prop := q < 128 ^ k ∧ ∀ t : Nat, 0 < t ∨ k = 0 → vint (q + t * 128 ^ k) = ys.take k ++ vint t
theorem VPre.zero (ys : List UInt8) : VPre ys 0 0 := ⟨by simp, fun t _ => by simp⟩
theorem take_getD {ys : List UInt8} {k : Nat} (hk : k < ys.length) : ys.take (k + 1) = ys.take k ++ [ys.getD k 0] := by
  rw [List.take_succ_eq_append_getElem hk]
  simp [List.getD_eq_getElem?_getD, List.getElem?_eq_getElem hk]
theorem VPre.step {ys : List UInt8} {k q : Nat} (h : VPre ys k q) (hk : k < ys.length) (h1 : 128 ≤ (ys.getD k 0).toNat) : VPre ys (k + 1) (q + (ys.getD k 0).toNat % 128 * 128 ^ k) := by
  have ht := take_getD hk
  have h2 := u8_lt (ys.getD k 0)
  generalize ys.getD k 0 = x at h1 h2 ht ⊢
  refine ⟨?_, fun t h0 => ?_⟩
  · have := h.1
    have h3 : x.toNat % 128 * 128 ^ k ≤ 127 * 128 ^ k := Nat.mul_le_mul_right _ (by omega)
    rw [Nat.pow_succ]
    omega
  · have ht0 : 0 < t := by
      rcases h0 with h0 | h0
      · exact h0
      · omega
    have e : q + x.toNat % 128 * 128 ^ k + t * 128 ^ (k + 1) = q + (x.toNat % 128 + t * 128) * 128 ^ k := by
      rw [Nat.pow_succ, Nat.add_mul, Nat.mul_assoc t 128, Nat.mul_comm 128 (128 ^ k)]
      omega
    rw [e, h.2 _ (.inl (by omega)), vint_big (by omega), ht]
    have e1 : UInt8.ofNat ((x.toNat % 128 + t * 128) % 128 + 128) = x := by
      apply UInt8.toNat_inj.1
      rw [u8_ofN _ (by omega)]
      omega
    have e2 : (x.toNat % 128 + t * 128) / 128 = t := by omega
    rw [e1, e2]
    simp
/-- a last group: it is written in the shortest way and fits, or else what the value is encoded as differs -/
theorem VPre.last {ys : List UInt8} {k q : Nat} (h : VPre ys k q) (hk : k < ys.length) (hk9 : k ≤ 9) (h2 : (ys.getD k 0).toNat < 128) (z : Nat) (hz : z = (q + (ys.getD k 0).toNat * 128 ^ k) % 18446744073709551616) :
    vint z = ys.take (k + 1) ↔ ¬ (k = 9 ∧ 1 < (ys.getD k 0).toNat) ∧ ¬ ((ys.getD k 0).toNat = 0 ∧ 0 < k) := by
  have ht := take_getD hk
  generalize ys.getD k 0 = x at h2 ht hz ⊢
  have hlen : (ys.take k).length = k := by rw [List.length_take]; omega
  by_cases h0 : x.toNat = 0 ∧ 0 < k
  · constructor
    · intro e
      exfalso
      obtain ⟨hx0, h0⟩ := h0
      have h128 : (128 : Nat) ^ k ≤ 9223372036854775808 := Nat.pow_le_pow_right (n := 128) (i := k) (j := 9) (by decide) hk9
      have hq := h.1
      have hzq : z = q := by
        rw [hz, hx0]
        simp
        omega
      obtain ⟨j, rfl⟩ : ∃ j, k = j + 1 := ⟨k - 1, by omega⟩
      have := vint_len j q hq
      rw [hzq, ht] at e
      have e2 := congrArg List.length e
      rw [List.length_append, hlen] at e2
      simp at e2
      omega
    · rintro ⟨_, h3⟩
      exact absurd h0 h3
  · by_cases h9 : k = 9 ∧ 1 < x.toNat
    · constructor
      · intro e
        exfalso
        obtain ⟨rfl, h9⟩ := h9
        have hq := h.1
        have e128 : (128 : Nat) ^ 9 = 9223372036854775808 := rfl
        rw [e128] at hq hz
        have hzz : z = q + x.toNat % 2 * 9223372036854775808 := by omega
        rcases Nat.mod_two_eq_zero_or_one x.toNat with hx | hx
        · rw [hx] at hzz
          have := vint_len 8 q hq
          rw [show z = q from by omega, ht] at e
          have e2 := congrArg List.length e
          rw [List.length_append, hlen] at e2
          simp at e2
          omega
        · rw [hx] at hzz
          have h3 := h.2 1 (.inl (by omega))
          rw [e128, ← hzz, e, ht, vint_small (by omega)] at h3
          have h4 := List.append_cancel_left h3
          simp at h4
          have := congrArg UInt8.toNat h4
          simp at this
          omega
      · rintro ⟨h3, _⟩
        exact absurd h9 h3
    · constructor
      · exact fun _ => ⟨h9, h0⟩
      · intro _
        have hfit : q + x.toNat * 128 ^ k < 18446744073709551616 := by
          have hq := h.1
          rcases Nat.lt_or_ge k 9 with h8 | h8
          · have h3 : (128 : Nat) ^ k ≤ 72057594037927936 := Nat.pow_le_pow_right (n := 128) (i := k) (j := 8) (by decide) (by omega)
            have h4 : x.toNat * 128 ^ k ≤ 127 * 72057594037927936 := Nat.mul_le_mul (by omega) h3
            omega
          · have hk : k = 9 := by omega
            subst hk
            have e128 : (128 : Nat) ^ 9 = 9223372036854775808 := rfl
            rw [e128] at hq ⊢
            omega
        have e : z = q + x.toNat * 128 ^ k := by rw [hz]; exact Nat.mod_eq_of_lt hfit
        rw [e, h.2 _ (by omega), ht, vint_small (by omega)]
        simp
end Go.V
