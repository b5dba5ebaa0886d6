/-
  How the evaluation opens what is asked, from the outside in; small rules of the walk.
  Loops over a memory that is whatever it is: the state behind a round is the state at hand.
  The kinds of this seat, for the evaluation.
  Numbers and lists of bytes, with no program in sight: zigzag, base-128 and big-endian encodings.
-/
import Derived.Test.YtginlelmkebpmaaPart08
set_option linter.unusedVariables false
set_option linter.unusedSimpArgs false
namespace Go.V
theorem mmgo_def (mx : Bool) (k : IntKind) (x : Int) (l : List AV) (K : AV → Prop) : mmK.go mx k x l K = match l with
  | [] => K (.int k x)
  | a :: r => (match a with | .int _ y => mmK.go mx k (if mx then max x y else min x y) r K | _ => False) := by
  cases l with
  | nil => rfl
  | cons a l => cases a <;> rfl
theorem mm_def (mx : Bool) (l : List AV) (K : AV → Prop) : mmK mx l K = match l with
  | [] => False
  | a :: r => (match a with | .int k x => mmK.go mx k x r K | _ => False) := by
  cases l with
  | nil => rfl
  | cons a l => cases a <;> rfl
theorem frzP_def (l : List (Nat × AV)) (h : List Ch) (K : List (Nat × AV) → List Ch → Prop) : frzP l h K = match l with
  | [] => K [] h
  | p :: l => frzX p.2 h fun x h => frzP l h fun l h => K ((p.1, x) :: l) h := by cases l <;> rfl
theorem frzL_def (l : List AV) (h : List Ch) (K : List AV → List Ch → Prop) : frzL l h K = match l with
  | [] => K [] h
  | a :: l => frz1 a h fun a h => frzL l h fun l h => K (a :: l) h := by cases l <;> rfl
theorem frzLX_def (l : List AV) (h : List Ch) (K : List AV → List Ch → Prop) : frzLX l h K = match l with
  | [] => K [] h
  | x :: l => frzX x h fun x h => frzLX l h fun l h => K (x :: l) h := by cases l <;> rfl
theorem elemsK_def (e : Ety) (l : List (Nat × AV)) (j : Nat) (K : List e.T → Prop) : elemsK e l j K = match l with
  | [] => K []
  | p :: r => (match e.dec (cellsA p.2) with
    | some y => (p.1 = j ∧ okCells (cellsA p.2) ∧ tfs (cellsA p.2) ∧ e.decOk (cellsA p.2)) ∧ elemsK e r (j + 1) fun ys => K (y :: ys)
    | none => False) := by cases l <;> rfl
theorem fillK_def (place : Nat → Option (Nat × Nat)) (zs : List AV) (l : List (Nat × AV)) (K : List AV → Prop) : fillK place zs l K = match l with
  | [] => K zs
  | p :: r => (match place p.1 with
    | some q => ((cellsA p.2).length = q.2 ∧ q.1 + q.2 ≤ zs.length) ∧ okCells (cellsA p.2) ∧ fillK place (setA zs q.1 (cellsA p.2)) r K
    | none => False) := by
  cases l with
  | nil => rfl
  | cons p r =>
    simp only [fillK]
    cases place p.1 <;> rfl
theorem resK_def (P : Program) (l : List ResultVar) (tm : List AV) (h : List Ch) (K : List AV → Prop) : resK P l tm h K = match l with
  | [] => K []
  | r :: l => (match r with
    | .tmp t => resK P l tm h fun l => K (nthA tm t :: l)
    | .cell a t => loadK P t (nthA tm a) h fun v => resK P l tm h fun l => K (v :: l)) := by
  cases l with
  | nil => rfl
  | cons r l => cases r <;> rfl

/-- a claim that the evaluation does not look into -/
class Hold where
  val : Prop
def hideB (b : Bool) [A : Hold] [B : Hold] : Prop := splitB b A.val B.val
theorem hideB_true (A B : Hold) : @hideB true A B = A.val := splitB_true _ _
theorem hideB_false (A B : Hold) : @hideB false A B = B.val := splitB_false _ _
theorem hideB_i {b : Bool} {A B : Hold} (h1 : b = true → A.val) (h2 : b = false → B.val) : @hideB b A B := ⟨h1, h2⟩
theorem pickK_def (c a b : AV) (K : AV → Prop) : pickK c a b K = match c with
  | .bool c => @hideB c ⟨K a⟩ ⟨K b⟩
  | _ => False := by unfold pickK hideB; cases c <;> rfl
theorem w_res {P : Program} {tm : List AV} {h : List Ch} {rs : List ResultVar} {K : List AV → Prop} (H : resK P rs tm h K) : resK P rs tm h K := H

/-! ### Arguments that are lent -/
section
variable {σ : List Nat} {h : List Ch}
theorem br_cons {g a : AV} {gs as : List AV} (h1 : brA σ h g a) (h2 : brL σ h gs as) : brL σ h (g :: gs) (a :: as) := by
  simp only [brL]
  exact ⟨h1, h2⟩
theorem br_nil : brL σ h [] [] := trivial
theorem br_int {k : IntKind} {n : Int} : brA σ h (.int k n) (.int k n) := by simp only [brA, fitA, and_self]
theorem br_bool {b : Bool} : brA σ h (.bool b) (.bool b) := rfl
theorem br_str {s : List UInt8} : brA σ h (.str s) (.str s) := rfl
theorem br_any {a : AV} : brA σ h .any a := trivial
theorem br_lit {v : Value} : brA σ h (.lit v) (.lit v) := rfl
theorem br_agg {l l' : List AV} (h1 : brL σ h l l') : brA σ h (.agg l) (.agg l') := h1
theorem br_ro {e : Ety} {xs : List e.T} : brA σ h (.ro e xs) (.ro e xs) := by
  simp only [brA, fitA, asE_self]
theorem br_ro0 {e : Ety} : brA σ h (.ro e []) (.lit (.slice none 0 0)) := rfl
theorem br_rp {e : Ety} {xs : List e.T} {i off : Nat} : brA σ h (.rp e xs i off) (.rp e xs i off) := by
  simp only [brA, fitA, asE_self, and_self]
theorem br_sl {e : Ety} {ys : List e.T} {t s n : Nat} (hh : hth h t = .rows e ys) (hl : s + n ≤ ys.length) (hn : t ∉ σ) : brA σ h (.ro e ((ys.drop s).take n)) (.sl t e s n) := by
  simp only [brA, hh, asE_self, hl, hn, not_false_eq_true, and_self]
theorem br_full {e : Ety} {ys : List e.T} {t n : Nat} (hh : hth h t = .rows e ys) (hl : n = ys.length) (hn : t ∉ σ) : brA σ h (.ro e ys) (.sl t e 0 n) := by
  subst hl
  have := br_sl (s := 0) (n := ys.length) hh (by simp) hn
  simpa using this
theorem br_ptr {t t' off : Nat} (hs : σ[t]? = some t') : brA σ h (.ptr t off) (.ptr t' off) := by simp only [brA, fitA, hs, and_self]
theorem br_own {e : Ety} {t t' s n : Nat} (hs : σ[t]? = some t') : brA σ h (.sl t e s n) (.sl t' e s n) := by simp only [brA, fitA, hs, and_self]
end
/-- nothing is lent -/
def isRO (e : Ety) (xs : List e.T) (a : AV) : Prop := a = .ro e xs ∨ (a = .lit (.slice none 0 0) ∧ xs = [])
theorem isRO_ro {e : Ety} {xs : List e.T} : isRO e xs (.ro e xs) := .inl rfl
theorem isRO_nil {e : Ety} : isRO e [] (.lit (.slice none 0 0)) := .inr ⟨rfl, rfl⟩
theorem isRO.br {σ : List Nat} {h : List Ch} {e : Ety} {xs : List e.T} {a : AV} (H : isRO e xs a) : brA σ h (.ro e xs) a := by
  rcases H with rfl | ⟨rfl, rfl⟩
  · exact br_ro
  · exact br_ro0
theorem isRO.brT {e : Ety} {xs : List e.T} {a : AV} (H : isRO e xs a) : V.brT (.ro e xs) a = [] := by
  rcases H with rfl | ⟨rfl, rfl⟩ <;> rfl

/-! ### Frames of common shapes -/
section
variable {P : Program} {g : FuncId} {h : List Ch}
/-- nothing is handed over, nothing is new -/
theorem frame_pure {la as : List AV} {ret : AV} {K : KT} (hb : DoesK P 0 g la [] (EndF 0 ret [])) (hbr : brL [] h la as) (hrf : brTL la as = [] ∨ (rfA ret && true && true) = true) (hret : ∀ ρ, renA ρ ret = ret) (HK : K ret h) : Does P g as h K :=
  Does.frame (σ := []) (la := la) (lh := []) (ret := ret) (obj := []) (cs := []) hb rfl hbr trivial .nil hrf (by
    show K (renA _ ret) (h ++ [])
    rw [hret, List.append_nil]
    exact HK)
/-- one new chunk, the result shows it -/
theorem frame_new {la as : List AV} {ret ret' : AV} {c : Ch} {K : KT} (hb : DoesK P 0 g la [] (EndF 0 ret [c])) (hbr : brL [] h la as) (hrf : brTL la as = [] ∨ (rfA ret && true && (rfC c && true)) = true) (hc : ∀ ρ, renC ρ c = c) (hret : renA (rhoC [] h.length) ret = ret') (HK : K ret' (h ++ [c])) : Does P g as h K :=
  Does.frame (σ := []) (la := la) (lh := []) (ret := ret) (obj := []) (cs := [c]) hb rfl hbr trivial .nil hrf (by
    show K (renA _ ret) (h ++ [renC _ c])
    rw [hret, hc]
    exact HK)
/-- one object is handed over -/
theorem frame_obj {t : Nat} {la as : List AV} {ret ret' : AV} {c c' : Ch} {cs : List Ch} {K : KT} (hb : DoesK P 1 g la [c] (EndF 1 ret ([c'] ++ cs))) (ht : hth h t = c) (hg : c ≠ .gone) (hcc : ∀ σ, fitC σ c c) (hbr : brL [t] h la as) (hrf : brTL la as = [] ∨ (rfA ret && (rfC c' && true) && rfCs cs) = true)
    (hc : ∀ ρ, renC ρ c' = c') (hcs : ∀ ρ, renCs ρ cs = cs) (hret : renA (rhoC [t] h.length) ret = ret') (HK : K ret' (h.set t c' ++ cs)) : Does P g as h K :=
  Does.frame (σ := [t]) (la := la) (lh := [c]) (ret := ret) (obj := [c']) (cs := cs) hb rfl hbr ⟨hth_lt (by rw [ht]; exact hg), by rw [ht]; exact hcc _, trivial⟩ (by simp) hrf (by
    show K (renA _ ret) ((h.set t .gone).set t (renC _ c') ++ renCs _ cs)
    rw [List.set_set, hret, hc, hcs]
    exact HK)
/-- one object is handed over, nothing is new -/
theorem frame_obj0 {t : Nat} {la as : List AV} {ret ret' : AV} {c c' : Ch} {K : KT} (hb : DoesK P 1 g la [c] (EndF 1 ret ([c'] ++ []))) (ht : hth h t = c) (hg : c ≠ .gone) (hcc : ∀ σ, fitC σ c c) (hbr : brL [t] h la as) (hrf : brTL la as = [] ∨ (rfA ret && (rfC c' && true) && true) = true)
    (hc : ∀ ρ, renC ρ c' = c') (hret : renA (rhoC [t] h.length) ret = ret') (HK : K ret' (h.set t c')) : Does P g as h K :=
  frame_obj hb ht hg hcc hbr hrf hc (fun _ => rfl) hret (by rw [List.append_nil]; exact HK)
theorem set_hth {h : List Ch} {t : Nat} {c : Ch} (ht : hth h t = c) (hg : c ≠ .gone) : h.set t c = h := by
  have := hth_get ht hg
  obtain ⟨hlt, he⟩ := List.getElem?_eq_some_iff.1 this
  rw [← he]
  exact List.set_getElem_self hlt
theorem fitC_pack (l : List Ch) (σ : List Nat) : fitC σ (.pack l) (.pack l) := rfl
theorem fitC_rows (e : Ety) (xs : List e.T) (σ : List Nat) : fitC σ (.rows e xs) (.rows e xs) := by
  simp only [fitC, asE_self]
end

theorem and_k {A B : Prop} (h2 : B) (h1 : A) : A ∧ B := ⟨h1, h2⟩

/-- an object of one chunk is closed ahead of a call -/
theorem does_close1 {P : Program} {g : FuncId} {h : List Ch} {t : Nat} {vs as : List AV} {K : KT} (hc : hth h t = .cells vs) (hf : fitL [t] vs vs) (H : Does P g (.ptr t 0 :: as) (h.set t (.pack [.cells vs])) K) : Does P g (.ptr t 0 :: as) h K :=
  Does.ghost (gh_close (t := t) (ts := []) (l := [.cells vs]) ⟨⟨_, _, rfl⟩, ⟨hth_lt (by rw [hc]; simp), by rw [hc]; exact hf, trivial⟩, by simp⟩) H

/-! ### Memory -/
/-! ### Drawn regions -/
section
variable [ETab] {P : Program} {all : List Oper} {Fin : List AV → List Ch → Prop} {r : List Oper} {i : Nat} {tm : List AV} {h : List Ch} {ps : List Rec} {hs : List (Nat × List Ch)}
theorem d_nil (H : Fin tm h) : DW P all Fin [] i tm h ps hs := .nil H
theorem d_pure {d : Option Nat} {op : Op} {ty : TypeId} {pos : String} {af : Array Edge} (v : AV) (hf : ∀ K : KT, K v h → opK P op tm h K) (hh : ∀ p ∈ hs, reachB all i p.1 = false → Fact P op tm p.2 v p.2)
    (H : ∀ tm', tm' = putA tm d v → DW P all Fin r (i + 1) tm' h (⟨i, op, tm, v⟩ :: ps) hs) : DW P all Fin (⟨d, op, ty, pos, af, none⟩ :: r) i tm h ps hs :=
  .pure v (.inl rfl) hf hh (H _ rfl)
theorem d_heap {d : Option Nat} {op : Op} {ty : TypeId} {pos : String} {af : Array Edge} (v : AV) (h' : List Ch) (hf : ∀ K : KT, K v h' → opK P op tm h K) (hh : ∀ p ∈ hs, reachB all i p.1 = true) (hp : ∀ p ∈ ps, reachB all i p.i = false → Fact P p.o p.tm h' p.v h')
    (H : ∀ tm', tm' = putA tm d v → DW P all Fin r (i + 1) tm' h' ps ((i, h) :: hs)) : DW P all Fin (⟨d, op, ty, pos, af, none⟩ :: r) i tm h ps hs :=
  .heap v h' (.inl rfl) hf hh hp (H _ rfl)
theorem d_run_pure {d : Option Nat} {op : Op} {ty : TypeId} {pos : String} {af : Array Edge} {j t : Nat} {w : Bool} (hd : dstAt all j = some t) (hb : nthA tm t = .bool w) (v : AV) (hf : ∀ K : KT, K v h → opK P op tm h K) (hh : ∀ p ∈ hs, reachB all i p.1 = false → Fact P op tm p.2 v p.2)
    (H : ∀ tm', tm' = putA tm d v → DW P all Fin r (i + 1) tm' h (⟨i, op, tm, v⟩ :: ps) hs) : DW P all Fin (⟨d, op, ty, pos, af, some (j, w)⟩ :: r) i tm h ps hs :=
  .pure v (.inr ⟨j, w, t, rfl, hd, hb⟩) hf hh (H _ rfl)
theorem d_run_heap {d : Option Nat} {op : Op} {ty : TypeId} {pos : String} {af : Array Edge} {j t : Nat} {w : Bool} (hd : dstAt all j = some t) (hb : nthA tm t = .bool w) (v : AV) (h' : List Ch) (hf : ∀ K : KT, K v h' → opK P op tm h K) (hh : ∀ p ∈ hs, reachB all i p.1 = true) (hp : ∀ p ∈ ps, reachB all i p.i = false → Fact P p.o p.tm h' p.v h')
    (H : ∀ tm', tm' = putA tm d v → DW P all Fin r (i + 1) tm' h' ps ((i, h) :: hs)) : DW P all Fin (⟨d, op, ty, pos, af, some (j, w)⟩ :: r) i tm h ps hs :=
  .heap v h' (.inr ⟨j, w, t, rfl, hd, hb⟩) hf hh hp (H _ rfl)
theorem d_pass {d : Option Nat} {op : Op} {ty : TypeId} {pos : String} {af : Array Edge} {j t : Nat} {w : Bool} (hd : dstAt all j = some t) (hb : nthA tm t = .bool (!w)) (H : ∀ tm', tm' = putA tm d (.lit undef) → DW P all Fin r (i + 1) tm' h ps hs) : DW P all Fin (⟨d, op, ty, pos, af, some (j, w)⟩ :: r) i tm h ps hs :=
  .skip j t w rfl hd (.inl hb) (H _ rfl)
theorem d_passu {d : Option Nat} {op : Op} {ty : TypeId} {pos : String} {af : Array Edge} {j t : Nat} {w : Bool} (hd : dstAt all j = some t) (hb : nthA tm t = .lit undef) (H : ∀ tm', tm' = putA tm d (.lit undef) → DW P all Fin r (i + 1) tm' h ps hs) : DW P all Fin (⟨d, op, ty, pos, af, some (j, w)⟩ :: r) i tm h ps hs :=
  .skip j t w rfl hd (.inr hb) (H _ rfl)
/-- a boolean that is not known is looked at -/
theorem d_split {j t : Nat} {w b : Bool} {o : Oper} (_hg : o.guard = some (j, w)) (_hd : dstAt all j = some t) (_hb : nthA tm t = .bool b)
    (H1 : b = true → DW P all Fin (o :: r) i tm h ps hs) (H2 : b = false → DW P all Fin (o :: r) i tm h ps hs) : DW P all Fin (o :: r) i tm h ps hs := by
  cases b
  · exact H2 rfl
  · exact H1 rfl
omit [ETab] in
theorem all_nil {α : Type} {p : α → Prop} : ∀ x ∈ ([] : List α), p x := fun x hx => by cases hx
omit [ETab] in
theorem all_cons' {α : Type} {p : α → Prop} {a : α} {l : List α} (h2 : ∀ x ∈ l, p x) (h1 : p a) : ∀ x ∈ a :: l, p x := fun x hx => by
  rcases List.mem_cons.1 hx with rfl | hx
  · exact h1
  · exact h2 x hx
omit [ETab] in
theorem all_cons {α : Type} {p : α → Prop} {a : α} {l : List α} (h1 : p a) (h2 : ∀ x ∈ l, p x) : ∀ x ∈ a :: l, p x := fun x hx => by
  rcases List.mem_cons.1 hx with rfl | hx
  · exact h1
  · exact h2 x hx
end
attribute [go_sem ↓] slice3K clearK appInK appRcK rangeK nextK entryK lookupK mupdK mmapK mdelK mlenK len2K mkK eqSK eqNK eqCell eqFlds opK binK ibin shK sbin eqK unK convHK convK fldAddrK idxAddrK idxK loK sliceK nilCheckK extractK pickK_def lenTK fieldK callK loadK loadCellsK storeK openK allocK boxK srcK appSrcK appK bsK bsR frzX frz1 frzV buildK mmgo_def mm_def frzP_def frzL_def frzLX_def elemsK_def fillK_def resK_def hideB_true hideB_false nthA dstAt
attribute [go_sem] sliceHK_sl sliceHK_none sliceHK_ro sliceHK_str sliceHK_lit capN_rows capN_succ capM_self isTmp slR clipA_full app2K_rc app2K_sl app2K_ro app2K_str app2K_lit app2K_nil zoneT okCells repN_len asM_self allP_nil KTy.av KTy.of KTy.kd lookR decV okV valA zokV Ety.dflt Int.natCast_zero Int.natCast_one List.take_length List.length_take Nat.min_self Int.toNat_natCast Int.toNat_zero Nat.mul_one Option.isNone_none Option.isNone_some Option.getD_none Option.getD_some Option.isSome_some Option.isSome_none maxBytes evA evAs evPs optA nthA List.set_cons_zero List.set_cons_succ List.set_nil writes dsts killT liveT setH Option.bind_some Option.bind_none ofV partA allN setA cellsA okCells tfs aggT hth zlenT openH renA renL renC renCs rhoO rhoC asE_self bytesOf Ety.enc Ety.dec Ety.sz Ety.decOk okByte roA AV.cell AV.tf Value.oneCell' retA fitA fitL fitC fitHs closeH goneH setHL frA frL frC frHs frOb frObL frObC frObH isNil rfA rfL rfC rfCs Ety.flat brTL brT List.map_cons List.map_nil List.length_cons List.length_nil List.length_set List.length_append List.cons_append List.nil_append List.append_nil List.drop_succ_cons List.drop_zero List.take_succ_cons List.take_zero Nat.zero_add Nat.add_zero List.replicate_succ List.replicate_zero List.getElem?_cons_zero List.getElem?_cons_succ List.replicate List.toList_toArray Bool.false_eq_true if_true if_false and_true true_and and_self implies_true forall_const List.range_zero exists_eq_left exists_eq_left' ne_eq not_false_eq_true not_true_eq_false
/-- no loop at the head -/
def notLoop : Code → Bool
  | .block _ (.loop _) => false
  | _ => true
theorem w_seqN {P : Program} {k : Nat} {a b : Code} {tm : List AV} {h : List Ch} {q : Post} (_ : notLoop a = true) (H : ∀ K : List AV → List Ch → Prop, (∀ tm h, Wp P k b tm h q → K tm h) → Wp P k a tm h ⟨K, q.x, q.r⟩) : Wp P k (.seq a b) tm h q := w_seq H
end Go.V

namespace Go.V
variable {P : Program} {h : List Ch} {tm : List AV} {k : Nat} {q : Post}
theorem ops_id [ETab] {k : Nat} {all r : List Oper} {K : List AV → List Ch → Prop} (H : Ops P k all r tm h K) : Ops P k all r tm h K := H
end Go.V

namespace Go.V
def Cfg.zero : Cfg := ⟨0, 0, 0⟩
def Rcy.zero : Rcy := ⟨0, 0, 0⟩
def Sw.zero : Sw := ⟨false, 0⟩
def Gct.zero : Gct := ⟨0, 0, [], []⟩
def Gca.zero : Gca := ⟨0, false, 0⟩
def Pr.zero : Pr := ⟨0, 0⟩
theorem get_int (xs : List (Int)) (i : Nat) : Ety.get .int xs i = xs.getD i 0 := rfl
theorem get_byte (xs : List (UInt8)) (i : Nat) : Ety.get .byte xs i = xs.getD i 0 := rfl
theorem get_str (xs : List (List UInt8)) (i : Nat) : Ety.get .str xs i = xs.getD i [] := rfl
theorem get_rcy (xs : List (Rcy)) (i : Nat) : Ety.get .rcy xs i = xs.getD i Rcy.zero := rfl
theorem get_sw (xs : List (Sw)) (i : Nat) : Ety.get .sw xs i = xs.getD i Sw.zero := rfl
theorem get_gct (xs : List (Gct)) (i : Nat) : Ety.get .gct xs i = xs.getD i Gct.zero := rfl
theorem get_pr (xs : List (Pr)) (i : Nat) : Ety.get .pr xs i = xs.getD i Pr.zero := rfl
attribute [go_sem] dec_int dec_byte dec_str dec_rcy dec_sw dec_gct dec_pr Cfg.cells Rcy.cells Sw.cells Gct.cells Gca.cells Pr.cells get_int get_byte get_str get_rcy get_sw get_gct get_pr
end Go.V

namespace Go.V
open Go.RowKit

theorem wrap_i64 (n : Int) (h0 : -9223372036854775808 ≤ n) (h1 : n ≤ 9223372036854775807) : IntKind.i64.wrap n = n := by
  rw [IntKind.wrap_i64]
  omega
/-- base 128, least significant group first -/
def vint (z : Nat) : List UInt8 := if z < 128 then [UInt8.ofNat z] else UInt8.ofNat (z % 128 + 128) :: vint (z / 128)
termination_by z
decreasing_by omega
/-- what has been read of a base-128 number: k groups, their value q -/
def VPre (ys : List UInt8) (k q : Nat) : Prop := q < 128 ^ k ∧ ∀ t : Nat, 0 < t ∨ k = 0 → vint (q + t * 128 ^ k) = ys.take k ++ vint t
theorem VPre.zero (ys : List UInt8) : VPre ys 0 0 := ⟨by simp, fun t _ => by simp⟩
end Go.V
