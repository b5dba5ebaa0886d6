/-
  The rules of a walk: one operation a step.
-/
import Derived.Test.YtmfhicbbhncddaaV13
set_option linter.unusedVariables false
set_option linter.unusedSimpArgs false
namespace Go.V
section
variable [ETab] {P : Program} {k : Nat} {tm : List AV} {h : List Ch} {q : Post} {all r : List Oper} {K : List AV → List Ch → Prop}
omit [ETab] in
theorem w_reg {id : Nat} {l : List Oper} (H : Ops P k l l tm h q.n) : Wp P k (.region id l.toArray false) tm h q := Wp.of_ops H
omit [ETab] in
theorem w_nil (H : K tm h) : Ops P k all [] tm h K := ⟨fun R μ a w s hl Q hQ => hQ R μ tm h a w s (Step.refl _ _ _) (.refl hl) H⟩
theorem ops_go {o : Oper} (H : opK P o.op tm h fun v h => Ops P k all r (putA tm o.dst v) h K) {R : RO} {μ : List Bind} {a : Act} {w : World} (s : SR R μ tm h a w) (hl : k ≤ μ.length) {Q : Exit → Act → World → Prop} (hQ : Then k R μ h w K (Q .normal)) : Oper.wp P o a w (wpList P all.toArray Q r) Q := by
  refine Oper.wp_mono (fun a' w' haft => ?_) (opK_ok s.mem s.tm H (Q := Q))
  obtain ⟨R', μ', h', av, v, hk, rfl, hr, H', he, hst⟩ := haft
  have kp := Keeps.ext hl he
  exact hk.run R' μ' _ w' (s.put o.dst hr H' hst.ro he) kp.len Q (hQ.pre hst kp)
omit [ETab] in
theorem ops_skip {o : Oper} (H : Ops P k all r (putA tm o.dst (.lit undef)) h K) {R : RO} {μ : List Bind} {a : Act} {w : World} (s : SR R μ tm h a w) (hl : k ≤ μ.length) {Q : Exit → Act → World → Prop} (hQ : Then k R μ h w K (Q .normal)) : wpList P all.toArray Q r (a.put o.dst undef) w :=
  H.run R μ _ w (s.put o.dst .lit s.mem (RO.le.refl R) (Ext.refl μ)) hl Q hQ
theorem w_op {d : Option Nat} {op : Op} {ty : TypeId} {pos : String} {af : Array Edge} (H : ∀ K' : KT, (∀ v h, (∀ tm', tm' = putA tm d v → Ops P k all r tm' h K) → K' v h) → opK P op tm h K') :
    Ops P k all (⟨d, op, ty, pos, af, none⟩ :: r) tm h K :=
  ⟨fun R μ a w s hl Q hQ => by
    simp only [wpList]
    rw [if_pos (by simp [Region.wanted])]
    exact .inl (ops_go (H _ fun v h hh => hh _ rfl) s hl hQ)⟩
omit [ETab] in
theorem wanted_of {j t : Nat} {w b : Bool} {R : RO} {μ : List Bind} {a : Act} {wo : World} (hd : dstAt all j = some t) (hb : nthA tm t = .bool b) (s : SR R μ tm h a wo) {o : Oper} (hg : o.guard = some (j, w)) : Region.wanted o (yielded all.toArray a.tmps) = (b == w) := by
  have hdo : (all.toArray[j]?).bind (·.dst) = some t := by rw [← hd, dstAt_get]; simp
  have h1 := nth_rel s hb
  have hy : yielded all.toArray a.tmps j = some b := by
    unfold yielded
    rw [hdo, Option.bind_some, h1]
  unfold Region.wanted
  rw [hg]
  simp only [hy]
  cases b <;> cases w <;> rfl
theorem w_run {d : Option Nat} {op : Op} {ty : TypeId} {pos : String} {af : Array Edge} {j t : Nat} {w : Bool} (hd : dstAt all j = some t) (hb : nthA tm t = .bool w) (H : ∀ K' : KT, (∀ v h, (∀ tm', tm' = putA tm d v → Ops P k all r tm' h K) → K' v h) → opK P op tm h K') :
    Ops P k all (⟨d, op, ty, pos, af, some (j, w)⟩ :: r) tm h K :=
  ⟨fun R μ a wo s hl Q hQ => by
    simp only [wpList]
    rw [wanted_of hd hb s rfl, if_pos (by cases w <;> rfl)]
    exact .inl (ops_go (H _ fun v h hh => hh _ rfl) s hl hQ)⟩
/-- a guard that does not want the operation -/
def NoRun (w : Bool) (a : AV) : Prop := a = .bool (!w) ∨ a = .lit undef
omit [ETab] in
theorem nth_lit {R : RO} {μ : List Bind} {a : Act} {wo : World} (s : SR R μ tm h a wo) {t : Nat} {v : Value} (hb : nthA tm t = .lit v) : a.tmps[t]? = some v := by
  have h1 := s.tm
  cases e : a.tmps[t]? with
  | none =>
    have : tm.length ≤ t := by rw [h1.len]; simpa using e
    rw [nthA_none tm t this] at hb
    simp at hb
  | some u =>
    have := h1.nth t (v := u) (by simpa using e)
    rw [hb] at this
    cases this; rfl
omit [ETab] in
theorem wanted_no {j t : Nat} {w : Bool} {R : RO} {μ : List Bind} {a : Act} {wo : World} (hd : dstAt all j = some t) (hb : NoRun w (nthA tm t)) (s : SR R μ tm h a wo) {o : Oper} (hg : o.guard = some (j, w)) : Region.wanted o (yielded all.toArray a.tmps) = false := by
  rcases hb with hb | hb
  · rw [wanted_of hd hb s hg]
    cases w <;> rfl
  · have hdo : (all.toArray[j]?).bind (·.dst) = some t := by rw [← hd, dstAt_get]; simp
    have h1 := nth_lit s hb
    have hy : yielded all.toArray a.tmps j = none := by
      unfold yielded
      rw [hdo, Option.bind_some, h1]
      rfl
    unfold Region.wanted
    rw [hg]
    simp only [hy]
    rfl
omit [ETab] in
theorem w_pass {d : Option Nat} {op : Op} {ty : TypeId} {pos : String} {af : Array Edge} {j t : Nat} {w : Bool} (hd : dstAt all j = some t) (hb : nthA tm t = .bool (!w)) (H : ∀ tm', tm' = putA tm d (.lit undef) → Ops P k all r tm' h K) :
    Ops P k all (⟨d, op, ty, pos, af, some (j, w)⟩ :: r) tm h K :=
  ⟨fun R μ a wo s hl Q hQ => by
    simp only [wpList]
    rw [wanted_no hd (.inl hb) s rfl, if_neg (by simp)]
    exact ops_skip (o := ⟨d, op, ty, pos, af, some (j, w)⟩) (H _ rfl) s hl hQ⟩
omit [ETab] in
theorem w_passu {d : Option Nat} {op : Op} {ty : TypeId} {pos : String} {af : Array Edge} {j t : Nat} {w : Bool} (hd : dstAt all j = some t) (hb : nthA tm t = .lit undef) (H : ∀ tm', tm' = putA tm d (.lit undef) → Ops P k all r tm' h K) :
    Ops P k all (⟨d, op, ty, pos, af, some (j, w)⟩ :: r) tm h K :=
  ⟨fun R μ a wo s hl Q hQ => by
    simp only [wpList]
    rw [wanted_no hd (.inr hb) s rfl, if_neg (by simp)]
    exact ops_skip (o := ⟨d, op, ty, pos, af, some (j, w)⟩) (H _ rfl) s hl hQ⟩
omit [ETab] in
/-- a boolean that is not known is looked at -/
theorem w_split {j t : Nat} {w b : Bool} {o : Oper} (_hg : o.guard = some (j, w)) (_hd : dstAt all j = some t) (hb : nthA tm t = .bool b)
    (H1 : b = true → ∀ tm', tm' = tm.set t (.bool true) → Ops P k all (o :: r) tm' h K) (H2 : b = false → ∀ tm', tm' = tm.set t (.bool false) → Ops P k all (o :: r) tm' h K) : Ops P k all (o :: r) tm h K :=
  ⟨fun R μ a wo s hl Q hQ => by
    cases b with
    | true => exact (H1 rfl _ rfl).run R μ a wo (s.tag hb) hl Q hQ
    | false => exact (H2 rfl _ rfl).run R μ a wo (s.tag hb) hl Q hQ⟩

/-! ### Functions -/
def resK (P : Program) : List ResultVar → List AV → List Ch → (List AV → Prop) → Prop
  | [], _, _, K => K []
  | .tmp t :: r, tm, h, K => resK P r tm h fun l => K (nthA tm t :: l)
  | .cell a t :: r, tm, h, K => loadK P t (nthA tm a) h fun v => resK P r tm h fun l => K (v :: l)
def retA : List AV → AV
  | [a] => a
  | l => .tup l
omit [ETab] in
theorem tmp_rel {R : RO} {μ : List Bind} {tm : List AV} {a : Act} (h : LRel R μ tm a.tmps.toList) (t : Nat) : Rel R μ (nthA tm t) (a.tmps.getD t undef) := evA_rel h (.tmp t)
omit [ETab] in
theorem resK_ok {R : RO} {μ : List Bind} {w : World} (H : HOk R μ h w) {tm : List AV} {a : Act} (ht : LRel R μ tm a.tmps.toList) : ∀ (rs : List ResultVar) {K : List AV → Prop}, resK P rs tm h K →
    ∃ l vs, K l ∧ LRel R μ l vs ∧ (rs.mapM fun r => (match r with | .tmp t => pure (a.tmps.getD t undef) | .cell b t => do loadVar t (← asAddr (a.tmps.getD b undef)) : Sem Value)).run P w = .ok vs w
  | [], K, hK => ⟨[], [], hK, .nil, rfl⟩
  | .tmp t :: r, K, hK => by
    obtain ⟨l, vs, h1, h2, h3⟩ := resK_ok H ht r hK
    refine ⟨_, _, h1, .cons (tmp_rel ht t) h2, ?_⟩
    simp only [List.mapM_cons, Sem.run_bind, Sem.run_pure, Result.andThen_ok, h3]
  | .cell b t :: r, K, hK => by
    simp only [resK] at hK
    obtain ⟨v, av, hk, hr, hrun⟩ := loadK_ok H (tmp_rel ht b) hK
    obtain ⟨l, vs, h1, h2, h3⟩ := resK_ok H ht r hk
    refine ⟨_, _, h1, .cons hr h2, ?_⟩
    have hload : (do loadVar t (← asAddr (a.tmps.getD b undef)) : Sem Value).run P w = .ok v w := by
      rw [← hrun]
      have hnp := tmp_rel ht b
      unfold Instr.loadAt
      unfold loadK at hK
      generalize a.tmps.getD b undef = u at hnp
      split at hK
      · rename_i he; rw [he] at hnp; cases hnp; rfl
      · rename_i he; rw [he] at hnp; cases hnp; rfl
      · rename_i he; rw [he] at hnp; cases hnp; rfl
      · exact hK.elim
    simp only [List.mapM_cons, Sem.run_bind, hload, Result.andThen_ok, h3, Sem.run_pure]


/-- what function g does over this memory, the first k tags staying -/
structure DoesK (P : Program) (k : Nat) (g : FuncId) (args : List AV) (h : List Ch) (K : KT) : Prop where
  here : Here P g
  run : ∀ (R : RO) (μ : List Bind) (w : World) (vs : List Value), LRel R μ args vs → HOk R μ h w → k ≤ μ.length → Calls P g vs.toArray w fun e w' =>
    ∃ v R' μ' h' av, e = .returned v ∧ K av h' ∧ Rel R' μ' av v ∧ HOk R' μ' h' w' ∧ Keeps k μ μ' ∧ Step (ownH h μ) R w (ownH h' μ') R' w'
omit [ETab] in
theorem Does.of_K {g : FuncId} {args : List AV} {K : KT} (H : DoesK P h.length g args h K) : Does P g args h K :=
  ⟨H.here, fun R μ w vs hv H0 => (H.run R μ w vs hv H0 (by rw [H0.rel.len]; exact Nat.le_refl _)).mono fun e w' hr => by
    obtain ⟨v, R', μ', h', av, rfl, h1, h2, h3, h4, h5⟩ := hr
    rw [H0.rel.len] at h4
    exact ⟨v, R', μ', h', av, rfl, h1, h2, h3, h4.toExt, h5⟩⟩
omit [ETab] in
/-- the body is walked -/
theorem w_body {g : FuncId} {fn : Func} (hf : P.funcs[g]? = some fn) {c : Code} (hb : fn.body = some c) (hn : (fn.name == "runtime.NumGoroutine") = false) {rs : List ResultVar} (hr : fn.results.toList = rs) {args : List AV} (ht : args ++ List.replicate (fn.ntmps - args.length) .any = tm) {K : KT}
    (H : ∀ K' : List AV → List Ch → Prop, (∀ tm h, resK P rs tm h (fun l => K (retA l) h) → K' tm h) → Wp P k c tm h ⟨K', fun _ _ _ => False, K'⟩) : DoesK P k g args h K := by
  refine ⟨⟨fn, hf, by simp [hb], hn⟩, fun R μ w vs hv H0 hk => calls_of_wp hf hb ?_⟩
  have hrep : ∀ n, LRel R μ (List.replicate n .any) (List.replicate n undef) := by
    intro n
    induction n with
    | zero => exact .nil
    | succ n ih => exact .cons .any ih
  have s : SR R μ tm h { tmps := vs.toArray ++ Array.replicate (fn.ntmps - vs.toArray.size) undef, defers := [] } w := by
    refine ⟨H0, ?_, rfl⟩
    simp only [Array.toList_append, Array.toList_replicate, List.size_toArray]
    rw [← hv.len, ← ht]
    exact hv.app (hrep _)
  have fin : ∀ (a' : Act) (w' : World) (R' : RO) (μ' : List Bind) (tm' : List AV) (h' : List Ch), SR R' μ' tm' h' a' w' → Step (ownH h μ) R w (ownH h' μ') R' w' → Keeps k μ μ' → resK P rs tm' h' (fun l => K (retA l) h') →
      a'.defers = [] ∧ ∃ v, (results fn a'.tmps).run P w' = .ok v w' ∧ ∃ v' R' μ' h' av, Ending.returned v = .returned v' ∧ K av h' ∧ Rel R' μ' av v' ∧ HOk R' μ' h' w' ∧ Keeps k μ μ' ∧ Step (ownH h μ) R w (ownH h' μ') R' w' := by
    intro a' w' R' μ' tm' h' s' st kp hr'
    obtain ⟨l, us, h1, h2, h3⟩ := resK_ok s'.mem s'.tm _ hr'
    have hm : (fn.results.mapM fun r => (match r with | .tmp t => pure (a'.tmps.getD t undef) | .cell b t => do loadVar t (← asAddr (a'.tmps.getD b undef)) : Go.Sem Value)).run P w' = .ok us.toArray w' := by
      rw [← Array.toArray_toList (xs := fn.results), List.mapM_toArray, Sem.run_map, hr, h3]
      rfl
    refine ⟨s'.dfr, if hu : us.toArray.size = 1 then us.toArray[0] else .tuple us.toArray, ?_, ?_⟩
    · simp only [results, Sem.run_bind]
      exact (congrArg (fun (r : Result (Array Value)) => r.andThen fun a w' => Sem.run P (pure (if h : a.size = 1 then a[0] else Value.tuple a)) w') hm).trans rfl
    · refine ⟨_, R', μ', h', retA l, rfl, h1, ?_, s'.mem, kp, st⟩
      cases h2 with
      | nil => simp [retA]; exact .tup .nil
      | cons ha hs =>
        cases hs with
        | nil => simpa [retA] using ha
        | cons hb hs =>
          rw [dif_neg (by simp)]
          exact .tup (.cons ha (.cons hb hs))
  refine wp_mono ((H _ fun _ _ h => h).run R μ _ w s hk) ?_
  intro e a' w' hq
  obtain ⟨R', μ', tm', h', s', st, kp, hq⟩ := hq
  cases e with
  | normal => exact fin a' w' R' μ' tm' h' s' st kp hq
  | ret => exact fin a' w' R' μ' tm' h' s' st kp hq
  | exit i => exact hq.elim
  | _ => exact hq.elim
end
end Go.V
