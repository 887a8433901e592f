/-
  A machine of one goroutine that can be reckoned in the kernel, and the proof that the model does what it does: part SiE.
-/
import Derived.Test.YtmoppkfallanoaaGreatDoorSiD
import Derived.Defers
import Derived.RangeFuncIn
import Derived.Below
import Derived.ChangeSame
set_option linter.unusedSimpArgs false
set_option linter.unusedVariables false
set_option linter.unusedSectionVars false
namespace Go.Sh
open Go.RowKit
variable [Syms]
section
variable {P : Program} {E : Env} {μ : Mu} {own : Own} {h : Hp} {w₀ w : World} {cs₀ : List Frame}

def At (P : Program) (E : Env) (w₀ : World) (cs₀ : List Frame) (m : Machine) (s : St) : Prop :=
  ∃ fr cs w, Steps P m (lone fr (cs ++ cs₀) w) ∧ MR E w₀ s fr cs w

def Ends (P : Program) (w₀ : World) (cs₀ : List Frame) (m : Machine) (v : SV) (s : St) : Prop :=
  ∃ fr w μ x, Steps P m (lone fr cs₀ w) ∧ fr.mode = .returning ∧ fr.defers = [] ∧ fr.fn = s.fr.fn ∧ fr.kind = s.fr.kind ∧ (∃ fn, P.funcs[fr.fn]? = some fn ∧ (results fn fr.tmps).run P w = .ok x w) ∧ VR μ v x ∧ Rel μ s.h w₀ w

def Good (P : Program) (E : Env) (w₀ : World) (cs₀ : List Frame) (m : Machine) : Out → Prop
  | .next s => At P E w₀ cs₀ m s
  | .fork l => ∃ s ∈ l, At P E w₀ cs₀ m s
  | .done v s => Ends P w₀ cs₀ m v s
  | .fail _ => True

theorem At.ahead {m m' : Machine} {s : St} (h : Steps P m m') (k : At P E w₀ cs₀ m' s) : At P E w₀ cs₀ m s := by
  obtain ⟨fr, cs, w, hs, hm⟩ := k
  exact ⟨fr, cs, w, Steps.trans h hs, hm⟩

theorem Good.ahead {m m' : Machine} {o : Out} (h : Steps P m m') (k : Good P E w₀ cs₀ m' o) : Good P E w₀ cs₀ m o := by
  cases o with
  | next s => exact At.ahead h k
  | fork l => obtain ⟨s, hs, k⟩ := k; exact ⟨s, hs, k.ahead h⟩
  | done v s => obtain ⟨fr, w, μ, x, hs, k⟩ := k; exact ⟨fr, w, μ, x, Steps.trans h hs, k⟩
  | fail m => trivial

theorem At.now {fr : Frame} {cs : List Frame} {s : St} (R : Rel μ s.h w₀ w) (F : FrameR E μ own s.h.nx s.cs.length false s.fr fr) (K : StkR E μ own s.h.nx s.cs cs) : At P E w₀ cs₀ (lone fr (cs ++ cs₀) w) s :=
  ⟨fr, cs, w, Steps.refl _ _, ⟨μ, own, R, F, K⟩⟩

theorem At.step {m : Machine} {fr : Frame} {cs : List Frame} {s : St} (e : step P m = .next (lone fr (cs ++ cs₀) w)) (R : Rel μ s.h w₀ w) (F : FrameR E μ own s.h.nx s.cs.length false s.fr fr) (K : StkR E μ own s.h.nx s.cs cs) : At P E w₀ cs₀ m s :=
  ⟨fr, cs, w, Steps.one e, ⟨μ, own, R, F, K⟩⟩

/-- A frame's operation has its value. -/
theorem good_finish {m : Machine} {sf : SFrame} {fr : Frame} {scs : List SFrame} {cs : List Frame} {v : SV} {x : Value} (R : Rel μ h w₀ w) (F : FrameR E μ own h.nx scs.length true sf fr) (K : StkR E μ own h.nx scs cs)
    (hv : VR μ v x) (e : step P m = .next (lone (fr.finish x) (cs ++ cs₀) w)) : Good P E w₀ cs₀ m (nextF (sf.finish v) scs h) := by
  cases hf : sf.finish v with
  | none => trivial
  | some sf' => exact At.step (s := ⟨sf', scs, h⟩) e R (F.finish hf hv) K

theorem finish_isSome {sf : SFrame} {v v' : SV} (h : (sf.finish v).isSome = true) : (sf.finish v').isSome = true := by
  unfold SFrame.finish at *
  split at h
  · simp only at h ⊢
    split at h
    · rename_i hd; simp [hd]
    · cases h
  · simp only at h ⊢
    split at h
    · rename_i hd; simp [hd]
    · cases h
  · rfl
  · cases h

theorem setAll_R {nt : Nat} : ∀ (ps : List Tmp) (as : List SV) (vs : List Value) {tm tm' : T SV} {a : Array Value}, VRs μ as vs → TmR μ nt tm a → setAll nt ps as tm = some tm' →
    vs.length = ps.length ∧ TmR μ nt tm' ((ps.zip vs).foldl (fun tmps (t, a) => tmps.setIfInBounds t a) a)
  | [], [], vs, tm, tm', a, hv, ht, e => by
    simp only [VRs] at hv; subst hv
    simp only [setAll, Option.some.injEq] at e; subst e
    exact ⟨rfl, ht⟩
  | [], _ :: _, _, _, _, _, _, _, e => by simp [setAll] at e
  | _ :: _, [], _, _, _, _, _, _, e => by simp [setAll] at e
  | p :: ps, s :: as, vs, tm, tm', a, hv, ht, e => by
    simp only [VRs] at hv
    obtain ⟨x, xs, rfl, hx, hxs⟩ := hv
    simp only [setAll] at e
    split at e
    · rename_i hp
      obtain ⟨h1, h2⟩ := setAll_R ps as xs hxs (ht.set hp hx) e
      exact ⟨by simp [h1], by simpa using h2⟩
    · cases e

theorem run_getLoop {r : Nat} {o : Loop} (h : w.heap[r]? = some (.loop o)) : (Instr.getLoop r).run P w = .ok o w := by
  simp [Instr.getLoop, Sem.run_bind, run_getObj h (by simp), Result.andThen]

theorem run_yield {r : Nat} {o : Loop} {args : Array Value} (h : w.heap[r]? = some (.loop o)) (hs : args.size = o.params.size) :
    (Instr.yield r args).run P w = .ok (.round r o.fn ((o.params.zip args).foldl (fun tmps (t, a) => tmps.setIfInBounds t a) o.tmps) o.assign o.body) w := by
  simp [Instr.yield, Sem.run_bind, run_getLoop h, Result.andThen, hs]

theorem try_recover {sf : SFrame} {fr : Frame} {d : Nat} {nx : Nat} {susp : Bool} {scs : List SFrame} {cs : List Frame} (hk : sf.kind = .normal ∨ sf.kind = .deferred) (F : FrameR E μ own nx d susp sf fr) (K : StkR E μ own nx scs cs) (hne : scs ≠ []) :
    match tryRecoverS sf scs with
    | some (v, scs') => ∃ x cs', tryRecover fr (cs ++ cs₀) = some (x, cs' ++ cs₀) ∧ VR μ v x ∧ StkR E μ own nx scs' cs' ∧ scs'.length = scs.length
    | none => tryRecover fr (cs ++ cs₀) = none := by
  cases scs with
  | nil => exact absurd rfl hne
  | cons c rest =>
    simp only [StkR] at K
    obtain ⟨y, ys, rfl, Fy, Ky⟩ := K
    rcases hk with hk | hk
    · have hfk : fr.kind = .normal := F.kind.trans hk
      unfold tryRecoverS tryRecover
      simp only [hk, hfk]
    · have hfk : fr.kind = .deferred := F.kind.trans hk
      have hm := Fy.mode
      unfold tryRecoverS tryRecover
      simp only [hk, hfk, List.cons_append]
      cases hc : c.mode with
      | run => rw [hc] at hm; rw [hm.1]
      | returning => rw [hc] at hm; rw [hm.1]
      | panicking ch =>
        rw [hc] at hm
        obtain ⟨ch', h1, h2, h3⟩ := hm
        rw [h1]
        cases ch with
        | nil => simp only [ChainR] at h2; subst h2; rfl
        | cons en older =>
          simp only [ChainR] at h2
          obtain ⟨x, xs, rfl, ⟨q1, q2, q3⟩, hxs⟩ := h2
          obtain ⟨xv, xr, xg⟩ := x
          simp only at q1 q2 q3
          subst q2; subst q3
          cases hr : en.recovered with
          | true =>
            obtain ⟨ev, er⟩ := en
            simp only at hr; subst hr
            rfl
          | false =>
            obtain ⟨ev, er⟩ := en
            simp only at hr; subst hr
            refine ⟨xv, { y with mode := .panicking ({ v := xv, recovered := true } :: xs) } :: ys, rfl, q1, ?_, rfl⟩
            simp only [StkR]
            refine ⟨_, ys, rfl, ⟨Fy.fn, Fy.kind, Fy.round, Fy.defers, ?_⟩, Ky⟩
            exact ⟨_, rfl, by simp only [ChainR]; exact ⟨_, _, rfl, ⟨q1, rfl, rfl⟩, hxs⟩, h3⟩

/-- What is asked of the functions that are not entered. -/
def OrcOK (P : Program) (E : Env) (w₀ : World) : Prop :=
  ∀ (f : FuncId) (sargs : List SV) (vargs : Array Value) (μ : Mu) (h : Hp) (w : World) (v : SV), E.orc f sargs h = some v → Rel μ h w₀ w → VRs μ sargs vargs.toList →
    Calls P f vargs w fun e w' => ∃ x, e = .returned x ∧ VR μ v x ∧ Below w.heap.size w w'

theorem Rel.below' {μ : Mu} {h : Hp} {w₀ w w' : World} (R : Rel μ h w₀ w) (hB : Below w.heap.size w w') : Rel μ h w₀ w' := by
  refine ⟨fun b l o hb hg => ?_, R.inj, R.lt, R.dom, fun b l hb => ⟨(R.base b l hb).1, Nat.lt_of_lt_of_le (R.base b l hb).2 hB.size⟩, R.below.trans (hB.mono R.below.size), fun b l t c m hb ht hg => by rw [hB.block _ (R.base b l hb).2]; exact R.ty _ _ _ _ _ hb ht hg, R.tym, R.gl, R.bx⟩
  rw [hB.block _ (R.base b l hb).2]
  exact R.obj b l o hb hg

/-- What becomes of a frame whose operation ran. -/
theorem apply_sound (O : EnvOK P E) (Q : OrcOK P E w₀) {sf : SFrame} {fr : Frame} {scs : List SFrame} {cs : List Frame} (R : Rel μ h w₀ w) (F : FrameR E μ own h.nx scs.length true sf fr) (K : StkR E μ own h.nx scs cs)
    {s : Sem Next} {r : OR} (hn : NextR P μ h w₀ w r (s.run P w)) (hkind : (match fr.todo with | .call _ true _ _ :: _ => CallKind.wrapped | _ => CallKind.normal) = .normal)
    (hs : stepG P true { frame := fr, callers := cs ++ cs₀, status := .running, dying := none } w = stepG.apply P true fr (cs ++ cs₀) none s w) :
    Good P E w₀ cs₀ (lone fr (cs ++ cs₀) w) (applyS E sf scs h r) := by
  cases r with
  | val v h' =>
    obtain ⟨x, w', μ', hres, R', G, hv⟩ := hn
    have X : ∀ d, Ext μ own h.nx μ' own h'.nx d := fun d => G.ext own d
    refine good_finish R' (F.mono (X _)) (K.mono fun d _ => X d) hv ?_
    exact step_lone_go (by rw [hs]; rcases hres with hr | ⟨hr, rfl⟩ <;> simp [stepG.apply, Sem.runT_eq, hr])
  | enter f args =>
    obtain ⟨as, hres, R', ha⟩ := hn
    simp only [applyS]
    have hst : step P (lone fr (cs ++ cs₀) w) = .next (lone (Frame.enter P f as .normal) (fr :: (cs ++ cs₀)) w) :=
      step_lone_go (by rw [hs]; simp [stepG.apply, Sem.runT_eq, hres]; exact congrArg (Frame.enter P f as) hkind)
    cases ho : E.orc f args h with
    | some v =>
      obtain ⟨e, w', fr', ⟨x, rfl, hx, hB⟩, hcs, _, hlv⟩ := Q f args as μ h w v ho R ha (fr :: (cs ++ cs₀))
      exact Good.ahead (Steps.head hst hcs) (good_finish (R.below' hB) F K hx (step_leave_returned hlv))
    | none =>
    cases he : enterFr E f args .normal with
    | none => trivial
    | some c =>
      refine At.step (own := own) (s := ⟨c, sf :: scs, h⟩) (fr := Frame.enter P f as .normal) (cs := fr :: cs) ?_ R' (enter_frame O ha he) ?_
      · exact hst
      · simp only [StkR]; exact ⟨_, _, rfl, F, K⟩
  | defer d =>
    obtain ⟨d', w', hres, R', hd⟩ := hn
    simp only [applyS]
    have F' : FrameR E μ own h.nx scs.length true { sf with defers := d :: sf.defers } { fr with defers := d' :: fr.defers } := ⟨F.fn, F.kind, F.round, by simp only [DefsR]; exact ⟨_, _, rfl, hd, F.defers⟩, F.mode⟩
    exact good_finish R' F' K (VR.undef μ) (step_lone_go (by rw [hs]; simp [stepG.apply, Sem.runT_eq, hres]))
  | recover =>
    obtain ⟨w', hres, R'⟩ := hn
    simp only [applyS]
    split
    · trivial
    · rename_i hc
      simp only [Bool.or_eq_true, List.isEmpty_iff, not_or, Bool.not_eq_true, Option.isSome_eq_false_iff, Option.isNone_iff_eq_none] at hc
      obtain ⟨hro, hne⟩ := hc
      have hro' : fr.roundOf = none := by have := F.round; rw [hro] at this; exact this
      have go : (sf.kind = .normal ∨ sf.kind = .deferred) → Good P E w₀ cs₀ (lone fr (cs ++ cs₀) w) (match tryRecoverS sf scs with
          | some (v, cs) => nextF (sf.finish v) cs h
          | none => nextF (sf.finish .nilIface) scs h) := by
        intro hk
        have ht := try_recover (cs₀ := cs₀) hk F K hne
        cases hr : tryRecoverS sf scs with
        | none =>
          rw [hr] at ht
          exact good_finish R' F K (v := .nilIface) (x := .nilIface) (by simp [VR]) (step_lone_go (by rw [hs]; simp [stepG.apply, Sem.runT_eq, hres, hro', ht]))
        | some p =>
          obtain ⟨v, scs'⟩ := p
          rw [hr] at ht
          obtain ⟨x, cs', h1, h2, h3, h4⟩ := ht
          exact good_finish R' (h4 ▸ F) h3 h2 (step_lone_go (by rw [hs]; simp [stepG.apply, Sem.runT_eq, hres, hro', h1]))
      split
      · rename_i hk; exact go (.inl hk)
      · rename_i hk; exact go (.inr hk)
      · trivial
  | round l args =>
    obtain ⟨loc, as, hl, ha, hres⟩ := hn
    simp only [applyS]
    cases hg : h.t.get l with
    | none => trivial
    | some o =>
      cases o with
      | loop r =>
        simp only
        cases hset : setAll r.nt r.params.toList args r.tmps with
        | none => trivial
        | some tm =>
          have hob := R.obj _ _ _ hl hg
          simp only [ObjR] at hob
          obtain ⟨rl, hw, hR⟩ := hob
          obtain ⟨q1, q2⟩ := setAll_R _ _ _ ha hR.tmps hset
          simp only [Array.length_toList] at q1
          have hres' := hres.trans (run_yield hw (by rw [hR.params]; exact q1))
          refine At.step (own := own) (s := ⟨_, sf :: scs, h⟩) (fr := Frame.round loc.r rl.fn ((rl.params.zip as).foldl (fun tmps (t, a) => tmps.setIfInBounds t a) rl.tmps) rl.assign rl.body .normal) (cs := fr :: cs) ?_ R ?_ ?_
          · exact step_lone_go (by rw [hs]; simp [stepG.apply, Sem.runT_eq, hres'])
          · refine ⟨hR.fn, rfl, ⟨loc, hl, rfl⟩, by simp [DefsR, Frame.round], ⟨rfl, .inl ⟨?_, ?_⟩⟩⟩
            · simp only [Frame.round]
              rw [← Array.foldl_toList, Array.toList_zip, hR.params]
              exact q2
            · simp only [Frame.round, ItemsR, ItemR, hR.assign, hR.body]
              exact ⟨_, _, rfl, rfl, _, _, rfl, rfl, _, _, rfl, rfl, rfl⟩
          · simp only [StkR]; exact ⟨_, _, rfl, F, K⟩
      | _ => trivial
  | panic v =>
    obtain ⟨x, w', hres, R', hv⟩ := hn
    refine At.step (own := own) (s := ⟨_, scs, h⟩) (fr := fr.raise [{ v := x, recovered := false }]) (step_lone_go (by rw [hs]; simp [stepG.apply, Sem.runT_eq, hres])) R' (F.raise ?_) K
    simp only [ChainR]
    exact ⟨_, _, rfl, ⟨hv, rfl, rfl⟩, rfl⟩
  | fork l =>
    obtain ⟨p, hp, x, w', μ', hres, R', G, hv⟩ := hn
    simp only [applyS]
    split
    · rename_i hfin
      have hfin' := finish_isSome (v' := p.1) hfin
      cases hf : sf.finish p.1 with
      | none => rw [hf] at hfin'; cases hfin'
      | some sf' =>
        have X : ∀ d, Ext μ own h.nx μ' own p.2.nx d := fun d => G.ext own d
        refine ⟨⟨sf', scs, p.2⟩, ?_, ?_⟩
        · rw [List.mem_filterMap]
          exact ⟨p, hp, by simp [hf]⟩
        · exact At.step (own := own) (s := ⟨sf', scs, p.2⟩) (step_lone_go (by rw [hs]; simp [stepG.apply, Sem.runT_eq, hres])) R' ((F.mono (X _)).finish hf hv) (K.mono fun d _ => X d)
    · trivial
  | fail m => trivial
end
end Go.Sh

namespace Go.Sh
open Go.RowKit
variable [Syms]
section
variable {P : Program} {E : Env} {μ : Mu} {own : Own} {h : Hp} {w₀ w : World} {cs₀ : List Frame}

theorem atR_self {fr : Frame} (h : fr.mode = .run) : fr.atR ⟨fr.tmps, fr.defers⟩ fr.todo = fr := by
  obtain ⟨fn, tmps, todo, defers, mode, kind, roundOf⟩ := fr
  simp only at h
  subst h
  rfl

/-! ### results -/
def resSem (tmps : Array Value) : ResultVar → Sem Value
  | .tmp t => pure (tmps.getD t undef)
  | .cell a t => do loadVar t (← asAddr (tmps.getD a undef))

theorem results_eq (fn : Func) (tmps : Array Value) : results fn tmps = (do let vs ← fn.results.mapM (resSem tmps); pure (if h : vs.size = 1 then vs[0] else .tuple vs)) := by
  have : (fun x => match x with | .tmp t => pure (tmps.getD t undef) | .cell a t => do loadVar t (← asAddr (tmps.getD a undef)) : ResultVar → Sem Value) = resSem tmps := by
    funext x; cases x <;> rfl
  rw [← this]
  rfl

theorem resultS_sound (O : EnvOK P E) (R : Rel μ h w₀ w) {tm : T SV} {tmps : Array Value} {r : ResultVar} {v : SV} (e : resultS E tm h r = some v)
    (hv : ∀ t, t = (match r with | .tmp t => t | .cell a _ => a) → VR μ ((tm.get t).getD undefS) (tmps.getD t undef)) :
    ∃ x, (resSem tmps r).run P w = .ok x w ∧ VR μ v x := by
  cases r with
  | tmp t =>
    simp only [resultS, Option.some.injEq] at e
    subst e
    exact ⟨_, by simp [resSem], hv t rfl⟩
  | cell a t =>
    simp only [resultS] at e
    have ha := hv a rfl
    unfold loadS at e
    split at e
    · rename_i b o hb
      rw [hb] at ha
      simp only [VR] at ha
      obtain ⟨l, hl, hx⟩ := ha
      split at e
      · rename_i c m hc
        obtain ⟨x, ex, hxv⟩ := run_loadVar O R hl hc e
        refine ⟨x, ?_, hxv⟩
        simp only [resSem, hx, asAddr, Sem.run_bind, Sem.run_pure, Result.andThen_ok, ex]
      · cases e
    · rename_i g o hb
      rw [hb] at ha
      simp only [VR] at ha
      split at e
      · rename_i c hc
        obtain ⟨x, ex, hxv⟩ := run_loadGlob O R hc e
        refine ⟨x, ?_, hxv⟩
        simp only [resSem, ha, asAddr, Sem.run_bind, Sem.run_pure, Result.andThen_ok, ex]
      · cases e
    · cases e

theorem resultList_sound (O : EnvOK P E) (R : Rel μ h w₀ w) {tm : T SV} {tmps : Array Value} : ∀ (rs : List ResultVar) {vs : List SV}, resultList E tm h rs = some vs →
    (∀ t ∈ rs.map (fun | .tmp t => t | .cell a _ => a), VR μ ((tm.get t).getD undefS) (tmps.getD t undef)) →
    ∃ xs, (rs.mapM (resSem tmps)).run P w = .ok xs w ∧ VRs μ vs xs
  | [], vs, e, _ => by
    simp only [resultList, Option.some.injEq] at e
    subst e
    exact ⟨[], by simp, by simp [VRs]⟩
  | r :: rs, vs, e, hv => by
    simp only [resultList] at e
    cases h1 : resultS E tm h r with
    | none => simp [h1] at e
    | some v =>
      cases h2 : resultList E tm h rs with
      | none => simp [h1, h2] at e
      | some vs' =>
        simp only [h1, h2, Option.some.injEq] at e
        subst e
        obtain ⟨x, hx, hxv⟩ := resultS_sound O R (tmps := tmps) h1 fun t ht => hv t (by rw [List.map_cons, ht]; cases r <;> simp)
        obtain ⟨xs, hxs, hxsv⟩ := resultList_sound O R rs h2 fun t ht => hv t (by simp only [List.map_cons, List.mem_cons]; exact .inr ht)
        refine ⟨x :: xs, ?_, by simp only [VRs]; exact ⟨_, _, rfl, hxv, hxsv⟩⟩
        simp only [List.mapM_cons, Sem.run_bind, hx, Result.andThen_ok, hxs, Sem.run_pure]

theorem results_sound (O : EnvOK P E) (R : Rel μ h w₀ w) {sf : SFrame} {fr : Frame} {fn : Func} (hf : E.fn sf.fn = some fn) (hr : RetR E μ sf fr) {v : SV} (e : resultsS E fn sf.tmps h = some v) :
    ∃ x, (results fn fr.tmps).run P w = .ok x w ∧ VR μ v x := by
  unfold resultsS at e
  have key : ∀ vs, resultList E sf.tmps h fn.results.toList = some vs → ∃ xs, (results fn fr.tmps).run P w = .ok (if hx : xs.toArray.size = 1 then xs.toArray[0] else .tuple xs.toArray) w ∧ VRs μ vs xs := by
    intro vs hvs
    obtain ⟨xs, h1, h2⟩ := resultList_sound O R (tmps := fr.tmps) _ hvs (hr fn hf)
    refine ⟨xs, ?_, h2⟩
    rw [results_eq, ← Array.toArray_toList (xs := fn.results), List.mapM_toArray]
    simp only [Sem.run_bind, Sem.run_map]
    rw [h1]
    rfl
  split at e
  · rename_i v1 hvs
    cases e
    obtain ⟨xs, h1, h2⟩ := key _ hvs
    simp only [VRs] at h2
    obtain ⟨x, _, rfl, hx, rfl⟩ := h2
    exact ⟨x, by simpa using h1, hx⟩
  · rename_i vs hne hvs
    cases e
    obtain ⟨xs, h1, h2⟩ := key _ hvs
    have hl := h2.length
    have : ¬ xs.toArray.size = 1 := by
      intro h1
      simp only [List.size_toArray] at h1
      rw [h1] at hl
      obtain ⟨v1, rfl⟩ := List.length_eq_one_iff.1 hl
      exact hne v1 rfl
    rw [dif_neg this] at h1
    exact ⟨_, h1, by simp only [VR]; exact ⟨_, rfl, by simpa using h2⟩⟩
  · cases e

/-! ### unwinding -/
theorem ChainR.goexit : ∀ {a : List SEntry} {b : List PanicEntry}, ChainR μ a b → b.dropWhile (!·.goexit) = []
  | [], b, k => by simp only [ChainR] at k; subst k; rfl
  | _ :: _, b, k => by
    simp only [ChainR] at k
    obtain ⟨x, xs, rfl, ⟨_, _, hg⟩, hxs⟩ := k
    rw [List.dropWhile_cons_of_pos (by simp [hg])]
    exact hxs.goexit

theorem settle_R {nx d : Nat} {sf : SFrame} {fr : Frame} {susp : Bool} (F : FrameR E μ own nx d true sf fr) (hs : susp = true ∨ sf.mode ≠ .run ∨ True) (hrun : sf.mode ≠ .run) : FrameR E μ own nx d susp { sf with mode := settleS sf.mode } { fr with mode := settle fr.mode } := by
  have hm := F.mode
  refine ⟨F.fn, F.kind, F.round, F.defers, ?_⟩
  cases hc : sf.mode with
  | run => exact absurd hc hrun
  | returning =>
    rw [hc] at hm
    show ModeR _ _ _ _ _ _ _ _ (settleS .returning)
    exact ⟨by show settle fr.mode = _; rw [hm.1]; rfl, hm.2⟩
  | panicking ch =>
    rw [hc] at hm
    obtain ⟨ch', h1, h2, h3⟩ := hm
    cases ch with
    | nil =>
      simp only [ChainR] at h2
      subst h2
      show ModeR _ _ _ _ _ _ _ _ (settleS (.panicking []))
      exact ⟨[], by show settle fr.mode = _; rw [h1]; rfl, by simp [ChainR], h3⟩
    | cons en older =>
      simp only [ChainR] at h2
      obtain ⟨x, xs, rfl, ⟨q1, q2, q3⟩, hxs⟩ := h2
      obtain ⟨xv, xr, xg⟩ := x
      obtain ⟨ev, er⟩ := en
      simp only at q1 q2 q3
      subst q2; subst q3
      cases xr with
      | true =>
        show ModeR _ _ _ _ _ _ _ _ (settleS (.panicking (⟨ev, true⟩ :: older)))
        refine ⟨?_, h3⟩
        show settle fr.mode = _
        rw [h1]
        simp only [settle, hxs.goexit]
      | false =>
        show ModeR _ _ _ _ _ _ _ _ (settleS (.panicking (⟨ev, false⟩ :: older)))
        exact ⟨⟨xv, false, false⟩ :: xs, by show settle fr.mode = _; rw [h1]; rfl, by simp only [ChainR]; exact ⟨_, _, rfl, ⟨q1, rfl, rfl⟩, hxs⟩, h3⟩

theorem run_take {r : Nat} {ds : List Deferred} (hr : w.heap[r]? = some (.deferred (some ds))) : (Instr.takeDeferred r).run P w = .ok ds (wput w r (.deferred none)) := by
  simp [Instr.takeDeferred, Sem.run_bind, run_getObj hr (by simp), run_setObj (o' := .deferred none) hr (by simp), Result.andThen]

theorem mode_run {nx d : Nat} {susp : Bool} {sf : SFrame} {fr : Frame} (F : FrameR E μ own nx d susp sf fr) (hm : sf.mode ≠ .run) : fr.mode ≠ .run := by
  have := F.mode
  cases hc : sf.mode with
  | run => exact absurd hc hm
  | returning => rw [hc] at this; rw [this.1]; simp
  | panicking ch => rw [hc] at this; obtain ⟨ch', h1, _⟩ := this; rw [h1]; simp

theorem susp_any {nx d : Nat} {susp susp' : Bool} {sf : SFrame} {fr : Frame} (F : FrameR E μ own nx d susp sf fr) (hm : sf.mode ≠ .run) : FrameR E μ own nx d susp' sf fr := by
  have h1 := F.mode
  refine ⟨F.fn, F.kind, F.round, F.defers, ?_⟩
  cases hc : sf.mode with
  | run => exact absurd hc hm
  | returning => rw [hc] at h1; exact h1
  | panicking ch => rw [hc] at h1; exact h1

theorem unwind_sound (O : EnvOK P E) {sf : SFrame} {fr : Frame} {scs : List SFrame} {cs : List Frame} (R : Rel μ h w₀ w) (F : FrameR E μ own h.nx scs.length false sf fr) (K : StkR E μ own h.nx scs cs) (hm : sf.mode ≠ .run) :
    Good P E w₀ cs₀ (lone fr (cs ++ cs₀) w) (unwindS E sf scs h) := by
  have hmr := mode_run F hm
  have hd := F.defers
  unfold unwindS
  split
  · -- what the rounds deferred
    rename_i b args ds hds
    rw [hds] at hd
    simp only [DefsR] at hd
    obtain ⟨x, xs, hx, ⟨ht, _⟩, hxs⟩ := hd
    simp only [TargetR] at ht
    obtain ⟨l, hl, htar⟩ := ht
    split
    · rename_i calls hg
      have hob := R.obj _ _ _ hl hg
      simp only [ObjR] at hob
      obtain ⟨rs, hw, hrs⟩ := hob
      obtain ⟨R', G⟩ := R.put (o := .deferred none) (ro := .deferred none) hl (by simp [hg]) rfl
      obtain ⟨xt, xa⟩ := x
      simp only at htar
      subst htar
      refine At.step (own := own) (s := ⟨{ sf with defers := calls ++ ds }, scs, h.put b (.deferred none)⟩) (fr := { fr with defers := rs ++ xs }) ?_ R' ⟨F.fn, F.kind, F.round, hrs.append hxs, F.mode⟩ K
      refine step_lone_go ?_
      cases hmode : fr.mode with
      | run => exact absurd hmode hmr
      | returning => simp [stepG, unwind, hmode, hx, Sem.runT_eq, run_take hw]
      | panicking chain => simp [stepG, unwind, hmode, hx, Sem.runT_eq, run_take hw]
    · trivial
  · -- a deferred call
    rename_i fn cap args ds hds
    rw [hds] at hd
    simp only [DefsR] at hd
    obtain ⟨x, xs, hx, ⟨ht, ha⟩, hxs⟩ := hd
    have hn := invoke_sound (P := P) O R ht ha
    have ht' := ht
    simp only [TargetR] at ht'
    obtain ⟨f', c', htar, _, _⟩ := ht'
    split
    · rename_i f as hi
      rw [hi] at hn
      obtain ⟨vas, hres, _, has⟩ := hn
      cases he : enterFr E f as .deferred with
      | none => trivial
      | some c =>
        refine At.step (own := own) (s := ⟨c, { sf with defers := ds } :: scs, h⟩) (fr := Frame.enter P f vas .deferred) (cs := { fr with defers := xs } :: cs) ?_ R (enter_frame O has he) ?_
        · exact step_defer hmr hx htar hres
        · simp only [StkR]
          have F1 : FrameR E μ own h.nx scs.length true sf fr := susp_any F hm
          exact ⟨_, _, rfl, ⟨F1.fn, F1.kind, F1.round, hxs, F1.mode⟩, K⟩
    · trivial
  · trivial
  · rename_i hds
    rw [hds] at hd
    simp only [DefsR] at hd
    split
    · trivial
    · -- a panic goes up
      rename_i chain hmode
      have hF := F.mode
      rw [hmode] at hF
      obtain ⟨ch', h1, h2, h3⟩ := hF
      split
      · rename_i c rest fn hfn
        simp only [StkR] at K
        obtain ⟨y, ys, rfl, Fy, Ky⟩ := K
        obtain ⟨hP, _⟩ := O.fn _ _ hfn
        refine At.step (own := own) (s := ⟨c.raise chain, rest, h⟩) (fr := y.raise ch') (cs := ys) ?_ R (Fy.raise h2) Ky
        exact step_leave_panicked (by exact ⟨h1, hd, fn, F.fn ▸ hP⟩)
      · trivial
    · -- it returns
      rename_i hmode
      have hF := F.mode
      rw [hmode] at hF
      obtain ⟨h1, h2⟩ := hF
      split
      · trivial
      · rename_i fn hfn
        obtain ⟨hP, _⟩ := O.fn _ _ hfn
        have hP' : P.funcs[fr.fn]? = some fn := F.fn ▸ hP
        split
        · trivial
        · rename_i v hv
          obtain ⟨x, hx, hxv⟩ := results_sound O R hfn h2 hv
          split
          · -- at the bottom
            simp only [StkR] at K
            subst K
            exact ⟨fr, w, μ, x, Steps.refl _ _, h1, hd, F.fn, F.kind, ⟨fn, hP', hx⟩, hxv, R⟩
          · rename_i c rest
            simp only [StkR] at K
            obtain ⟨y, ys, rfl, Fy, Ky⟩ := K
            split
            · rename_i hk
              exact good_finish R Fy Ky hxv (step_leave_returned ⟨h1, hd, F.kind.trans hk, fn, hP', hx⟩)
            · rename_i hk
              have hgo : fr.going P w (.returned x) := ⟨h1, hd, fn, hP', hx⟩
              have hst := step_going_returned (c := y) (cs := ys ++ cs₀) (F.kind.trans hk) hgo
              split
              · trivial
              · rename_i hcm
                exact At.step (own := own) (s := ⟨{ c with mode := settleS c.mode }, rest, h⟩) hst R (settle_R Fy (.inr (.inr trivial)) hcm) Ky
            · trivial
end
end Go.Sh

namespace Go.Sh
open Go.RowKit
variable [Syms]
section
variable {P : Program} {E : Env} {μ : Mu} {own : Own} {h : Hp} {w₀ w : World} {cs₀ : List Frame}

/-! ### moves -/
theorem exitTo_R (id : Nat) : ∀ {k : List SItem} {k' : List Item}, ItemsR μ k k' →
    match exitToS id k with
    | some r => ∃ r', exitTo id k' = some r' ∧ ItemsR μ r r'
    | none => exitTo id k' = none
  | [], k', hk => by simp only [ItemsR] at hk; subst hk; rfl
  | a :: k, k', hk => by
    simp only [ItemsR] at hk
    obtain ⟨x, xs, rfl, hx, hxs⟩ := hk
    have ih := exitTo_R id hxs
    cases a <;> simp only [ItemR] at hx <;> first
      | (subst hx; simpa only [exitToS, exitTo] using ih)
      | (obtain ⟨y, _, rfl⟩ := hx; simpa only [exitToS, exitTo] using ih)
      | (exact hx.elim)
      | skip
    rename_i id'
    subst hx
    simp only [exitToS, exitTo]
    by_cases e : (id' == id) = true
    · rw [if_pos e, if_pos e]; exact ⟨xs, rfl, hxs⟩
    · rw [if_neg e, if_neg e]; exact ih

theorem gotoIn_R (l : Nat) : ∀ {k : List SItem} {k' : List Item}, ItemsR μ k k' →
    match gotoInS l k with
    | some r => ∃ r', gotoIn l k' = some r' ∧ ItemsR μ r r'
    | none => gotoIn l k' = none
  | [], k', hk => by simp only [ItemsR] at hk; subst hk; rfl
  | a :: k, k', hk => by
    simp only [ItemsR] at hk
    obtain ⟨x, xs, rfl, hx, hxs⟩ := hk
    have ih := gotoIn_R l hxs
    cases a <;> simp only [ItemR] at hx <;> first
      | (subst hx; simpa only [gotoInS, gotoIn] using ih)
      | (obtain ⟨y, _, rfl⟩ := hx; simpa only [gotoInS, gotoIn] using ih)
      | (exact hx.elim)
      | skip
    rename_i body
    subst hx
    simp only [gotoInS, gotoIn]
    cases findLabel body l with
    | none => simpa using ih
    | some rest => simp only [ItemsR]; exact ⟨_, rfl, _, _, rfl, rfl, _, _, rfl, rfl, hxs⟩

section plain
variable {sf : SFrame} {fr : Frame} {scs : List SFrame} {cs : List Frame}

theorem good_to (R : Rel μ h w₀ w) (F : FrameR E μ own h.nx scs.length false sf fr) (K : StkR E μ own h.nx scs cs) (hm : sf.mode = .run) (ht : TmR μ sf.nt sf.tmps fr.tmps) {m : Machine} {todo : List SItem} {todo' : List Item}
    (hi : ItemsR μ todo todo') (e : step P m = .next (lone (fr.atR ⟨fr.tmps, fr.defers⟩ todo') (cs ++ cs₀) w)) : Good P E w₀ cs₀ m (.next { fr := { sf with todo }, cs := scs, h }) :=
  At.step (own := own) (s := ⟨{ sf with todo }, scs, h⟩) e R ⟨F.fn, F.kind, F.round, F.defers, by
    show ModeR _ _ _ _ _ _ _ _ sf.mode
    rw [hm]
    exact ⟨rfl, .inl ⟨ht, hi⟩⟩⟩ K

theorem run_endRound {r : Nat} {o : Loop} {jump : Option Code} (hr : w.heap[r]? = some (.loop o)) :
    (Instr.endRound r jump).run P w = .ok (.bool jump.isNone) (wput w r (.loop { o with state := if jump.isNone then .ready else .done, pending := jump })) := by
  simp only [Instr.endRound, Sem.run_bind, run_getLoop hr, run_setObj (o' := .loop { o with state := if jump.isNone then .ready else .done, pending := jump }) hr (by simp), Result.andThen, Sem.run_pure]

theorem leave_sound (R : Rel μ h w₀ w) (F : FrameR E μ own h.nx scs.length false sf fr) (K : StkR E μ own h.nx scs cs) (hm : sf.mode = .run) {jump : Option Code}
    (h1 : fr.roundOf = none → (jump = none ∨ jump = some .ret) → step P (lone fr (cs ++ cs₀) w) = .next (lone { fr with mode := .returning } (cs ++ cs₀) w))
    (h2 : ∀ l c rest v w', fr.roundOf = some l → fr.kind = .normal → (Instr.endRound l jump).run P w = .ok v w' → step P (lone fr (c :: rest) w) = .next (lone (c.finish v) rest w')) :
    Good P E w₀ cs₀ (lone fr (cs ++ cs₀) w) (leaveS sf scs h jump) := by
  have hF := F.mode
  rw [hm] at hF
  have hret := hF.2.ret
  have hro := F.round
  have key : (jump = none ∨ jump = some .ret) → sf.roundOf = none → Good P E w₀ cs₀ (lone fr (cs ++ cs₀) w) (.next { fr := { sf with mode := .returning }, cs := scs, h }) := by
    intro hj hr
    rw [hr] at hro
    exact At.step (own := own) (s := ⟨{ sf with mode := .returning }, scs, h⟩) (h1 hro hj) R ⟨F.fn, F.kind, F.round, F.defers, ⟨rfl, hret⟩⟩ K
  unfold leaveS
  split
  · rename_i hr
    split
    · exact key (.inl rfl) hr
    · exact key (.inr rfl) hr
    · trivial
  · rename_i l hr
    rw [hr] at hro
    obtain ⟨loc, hl, hfr⟩ := hro
    split
    · rename_i r c rest hg
      simp only [StkR] at K
      obtain ⟨y, ys, rfl, Fy, Ky⟩ := K
      split
      · rename_i hk
        have hob := R.obj _ _ _ hl hg
        simp only [ObjR] at hob
        obtain ⟨ro, hw, hR⟩ := hob
        obtain ⟨R', G⟩ := R.put (o := .loop { r with state := if jump.isNone then .ready else .done, pending := jump }) (ro := .loop { ro with state := if jump.isNone then .ready else .done, pending := jump }) hl (by simp [hg])
          ⟨_, rfl, { hR with state := rfl, pending := rfl }⟩
        exact good_finish R' Fy Ky (by simp [VR]) (h2 _ _ _ _ _ hfr (F.kind.trans hk) (run_endRound hw))
      · trivial
    · trivial

theorem run_beginRound {r : Nat} {o : Loop} (hr : w.heap[r]? = some (.loop o)) (hs : o.state = .ready) :
    (Instr.beginRound r).run P w = .ok () (wput w r (.loop { o with state := .busy })) := by
  simp [Instr.beginRound, Sem.run_bind, run_getLoop hr, run_setObj (o' := .loop { o with state := .busy }) hr (by simp), Result.andThen, hs]

theorem run_endLoop {r : Nat} {o : Loop} (hr : w.heap[r]? = some (.loop o)) (hs : o.state ≠ .busy) :
    (Instr.endLoop r).run P w = .ok o.pending (wput w r (.loop { o with state := .exhausted })) := by
  simp [hs, Instr.endLoop, Sem.run_bind, run_getLoop hr, run_setObj (o' := .loop { o with state := .exhausted }) hr (by simp), Result.andThen]

theorem run_newObj (o : Obj) : (newObj o).run P w = .ok w.heap.size (w.alloc o) := by
  simp [newObj, Sem.run]

theorem run_resolve {ρ : Operand → Value} {g : Operand} {l : Nat} {fn : Fn} {a b : Array Value} (hv : ρ g = .func fn a b) :
    (resolve ρ (rangeCall g l) 0).run P w = .ok { target := .fn fn b, args := a ++ #[ρ (.const (.func (.yield l) #[] #[]))] } w := by
  simp [resolve, Deferred.ofValue, hv]

/-- The call of a range over a function. -/
theorem range_call (O : EnvOK P E) {h : Hp} {w : World} {μ : Mu} (R : Rel μ h w₀ w) {k : List SItem} {k' : List Item} {d0 : List SDef} {d1 : List Deferred} (F : FrameR E μ own h.nx scs.length false sf fr) (K : StkR E μ own h.nx scs cs)
    (hm : sf.mode = .run) (ht : TmR μ sf.nt sf.tmps fr.tmps) (hk : ItemsR μ k k') (hd : DefsR μ d0 d1) {m : Machine} {g : Operand} {l : Nat} {loc : Loc} (hl : μ l = some loc)
    (e : ∀ d f args, (resolve (Act.mk fr.tmps fr.defers).eval (rangeCall g loc.r) 0).run P w = .ok d w → (invoke d.target d.args).run P w = .ok (.enter f args) w →
      step P m = .next (lone (Frame.enter P f args .normal) (fr.atR ⟨fr.tmps, d1 ++ fr.defers⟩ (.inRangeFunc loc.r :: k') :: (cs ++ cs₀)) w)) :
    Good P E w₀ cs₀ m (match evalS sf.tmps g with
        | .func fn first captured =>
          match invokeS E (.fn fn captured) (first ++ [.func (.yield l) [] []]) h with
          | .enter f args => match enterFr E f args .normal with | some c => .next { fr := c, cs := { sf with todo := .inRangeFunc l :: k, defers := d0 ++ sf.defers } :: scs, h } | none => .fail "enter"
          | _ => .fail "rangeFunc call"
        | _ => .fail "rangeFunc") := by
  have hv := evalS_R (μ := μ) (x := g) (tm := sf.tmps) (tmps := fr.tmps) (fun t _ => ht.2 t) (df := fr.defers)
  split
  · rename_i fn first captured hfn
    rw [hfn] at hv
    simp only [VR] at hv
    obtain ⟨fn', a', b', hg, hF, ha, hb⟩ := hv
    have hres := run_resolve (P := P) (w := w) (l := loc.r) hg
    have hargs : VRs μ (first ++ [.func (.yield l) [] []]) (a' ++ #[(Act.mk fr.tmps fr.defers).eval (.const (.func (.yield loc.r) #[] #[]))]).toList := by
      rw [Array.toList_append]
      refine ha.append (VRs.one ?_)
      show VR μ _ (.func (.yield loc.r) #[] #[])
      simp only [VR]
      exact ⟨.yield loc.r, #[], #[], rfl, ⟨loc, hl, rfl⟩, by simp [VRs], by simp [VRs]⟩
    have hn := invoke_sound (P := P) O R (t := .fn fn captured) (vt := .fn fn' b') ⟨_, _, rfl, hF, hb⟩ hargs
    split
    · rename_i f as hi
      rw [hi] at hn
      obtain ⟨vas, hinv, _, has⟩ := hn
      cases he : enterFr E f as .normal with
      | none => trivial
      | some c =>
        refine At.step (own := own) (s := ⟨c, { sf with todo := .inRangeFunc l :: k, defers := d0 ++ sf.defers } :: scs, h⟩) (fr := Frame.enter P f vas .normal) (cs := fr.atR ⟨fr.tmps, d1 ++ fr.defers⟩ (.inRangeFunc loc.r :: k') :: cs) (e _ _ _ hres hinv) R (enter_frame O has he) ?_
        simp only [StkR]
        refine ⟨_, _, rfl, ⟨F.fn, F.kind, F.round, hd.append F.defers, ?_⟩, K⟩
        show ModeR _ _ _ _ _ _ _ _ sf.mode
        rw [hm]
        exact ⟨rfl, .inl ⟨ht, by simp only [ItemsR, ItemR]; exact ⟨_, _, rfl, ⟨loc, hl, rfl⟩, hk⟩⟩⟩
    · trivial
  · trivial
end plain
end
end Go.Sh

namespace Go.Sh
open Go.RowKit
variable [Syms]
section
variable {P : Program} {E : Env} {μ : Mu} {own : Own} {h : Hp} {w₀ w : World} {cs₀ : List Frame} {sf : SFrame} {fr : Frame} {scs : List SFrame} {cs : List Frame}

theorem semAt_deferIn {o : Oper} {ro : Option Nat} {ro' : Option Nat} (hr : OptR μ ro ro') (h : ¬ deferIn ro o.op = true) (ρ : Operand → Value) : o.semAt ro' ρ = execOp ρ o := by
  cases ro with
  | none =>
    simp only [OptR] at hr
    subst hr; rfl
  | some l =>
    apply Oper.semAt_eq
    intro c hc
    apply h
    rw [hc]; rfl

theorem exec_tag (O : EnvOK P E) {o : Oper} {tm : T SV} {ρ : Operand → Value} (k : NextR P μ h w₀ w (execS E tm o h) ((execOp ρ o).run P w)) : NextR P μ h w₀ w (tagR o.op (execS E tm o h)) ((execOp ρ o).run P w) := by
  obtain ⟨dst, op, type, pos, after, guard⟩ := o
  cases op with
  | alloc e =>
    generalize hr : execS E tm ⟨dst, .alloc e, type, pos, after, guard⟩ h = r at k ⊢
    unfold tagR
    split
    · rename_i e' b h' heq1
      cases heq1
      have hz : ∃ z, E.zero e = some z := by
        simp only [execS, allocOp, allocS] at hr
        cases hz : E.zero e with
        | none => simp [hz] at hr
        | some z => exact ⟨z, rfl⟩
      obtain ⟨z, hz⟩ := hz
      obtain ⟨v, ev, _⟩ := O.runZero (w := w) hz
      have hrun : (execOp ρ ⟨dst, .alloc e, type, pos, after, guard⟩).run P w = .ok (.value (.pointer (some ⟨w.heap.size, 0, none⟩))) (w.alloc (.cells v.cells e)) := by
        simp [execOp, Instr.alloc, ev, newVar, run_newRow]
      simp only [NextR] at k ⊢
      obtain ⟨x, w', μ', hres, R', G', hv⟩ := k
      rw [hrun] at hres
      have hres' : x = .pointer (some ⟨w.heap.size, 0, none⟩) ∧ w' = w.alloc (.cells v.cells e) := by
        rcases hres with hres | ⟨hres, _⟩
        · cases hres; exact ⟨rfl, rfl⟩
        · cases hres
      obtain ⟨rfl, rfl⟩ := hres'
      have hv' := hv
      simp only [VR] at hv
      obtain ⟨l, hl, hp⟩ := hv
      simp only [Value.pointer.injEq, Option.some.injEq, Addr.mk.injEq] at hp
      obtain ⟨R4, G4⟩ := R'.tag hl (t := e) (by rw [← hp.1]; exact ⟨_, _, heap_alloc_new' w _⟩)
      exact ⟨_, _, μ', .inl hrun, R4, G'.trans G4, hv'⟩
    · exact k
  | _ => exact k

/-- An operation whose turn it is. -/
theorem oper_sound (tg : OR → OR) (O : EnvOK P E) (Q : OrcOK P E w₀) (R : Rel μ h w₀ w) (F : FrameR E μ own h.nx scs.length true sf fr) (K : StkR E μ own h.nx scs cs) {ops : Array Oper} {i : Nat} {l : List Nat} {k : List Item} (hmr : fr.mode = .run)
    (htd : fr.todo = .inRegion ops (i :: l) :: k) {o : Oper} (ho : ops[i]? = some o) (hρ : ∀ x ∈ o.op.operands, VR μ (evalS sf.tmps x) ((Act.mk fr.tmps fr.defers).eval x))
    (htg : ∀ ρ : Operand → Value, NextR P μ h w₀ w (execS E sf.tmps o h) ((execOp ρ o).run P w) → NextR P μ h w₀ w (tg (execS E sf.tmps o h)) ((execOp ρ o).run P w))
    (hg : ∀ b, wantedS ops o sf.tmps = some b → Region.wanted o (yielded ops fr.tmps) = b) :
    Good P E w₀ cs₀ (lone fr (cs ++ cs₀) w) (match wantedS ops o sf.tmps with
        | some true => if deferIn sf.roundOf o.op then .fail "defer in a round" else applyS E sf scs h (tg (execS E sf.tmps o h))
        | some false => nextF (sf.finish undefS) scs h
        | none => .fail "guard") := by
  have hself := atR_self hmr
  rw [htd] at hself
  split
  · rename_i hw
    split
    · trivial
    · rename_i hdi
      have hn := htg _ (exec_sound (P := P) O R (o := o) hρ)
      refine apply_sound O Q R F K hn (by rw [htd]) ?_
      have := stepGR_op (P := P) (b := fr) (a := ⟨fr.tmps, fr.defers⟩) (k := k) (cs := cs ++ cs₀) (w := w) (rest := l) ho (hg _ hw)
      rw [hself, semAt_deferIn F.round hdi] at this
      exact this
  · rename_i hw
    refine good_finish R F K (VR.undef μ) ?_
    have := stepR_op_skip (P := P) (b := fr) (a := ⟨fr.tmps, fr.defers⟩) (k := k) (cs := cs ++ cs₀) (w := w) (ops := ops) (i := i) (rest := l) (by rw [ho]; simpa using hg _ hw)
    rw [← Frame.finish_atR, hself] at this
    exact this
  · trivial

theorem guardTmp_sound {ops : Array Oper} {o : Oper} {tm : T SV} {tmps : Array Value} {t : Tmp} (e : guardTmp ops o tm = some t) (ht : ∀ u, VR μ ((tm.get u).getD undefS) (tmps.getD u undef)) : ∃ b, tmps.getD t undef = .bool b := by
  unfold guardTmp at e
  cases hg : o.guard with
  | none => simp [hg] at e
  | some gw =>
    obtain ⟨j, wt⟩ := gw
    simp only [hg] at e
    cases hd : (ops[j]?).bind (·.dst) with
    | none => simp [hd] at e
    | some u =>
      simp only [hd] at e
      split at e
      · rename_i k hk
        simp only [Option.some.injEq] at e
        subst e
        have := ht u
        rw [hk] at this
        simp only [Option.getD_some, VR, Unk.has] at this
        exact this.2
      · rename_i r c l hk
        simp only [Option.some.injEq] at e
        subst e
        have := ht u
        rw [hk] at this
        simp only [Option.getD_some, VR] at this
        exact ⟨_, this⟩
      · cases e

theorem guardBx_ok {tm : T SV} {t : Tmp} {b : Bool} {bx : List (Nat × Int × Int)} {v : Value} (B : BoxOK bx) (hb : v = .bool b) (ht : VR μ ((tm.get t).getD undefS) v) : BoxOK (guardBx tm t b bx) := by
  unfold guardBx
  split
  · rename_i r c l hk
    rw [hk] at ht
    simp only [Option.getD_some, VR] at ht
    rw [hb] at ht
    have e : b = r.holds (c + sumL l) := by injection ht
    cases b with
    | true => exact refine_sound B e.symm
    | false => exact refine_sound B (by show r.no.holds _ = true; rw [Cmp.no_holds, ← e]; rfl)
  · exact B

theorem At.rebox {m : Machine} {s : St} {bx : List (Nat × Int × Int)} (hb : BoxOK bx) (A : At P E w₀ cs₀ m s) : At P E w₀ cs₀ m ⟨s.fr, s.cs, { t := s.h.t, nx := s.h.nx, ty := s.h.ty, gl := s.h.gl, bx }⟩ := by
  obtain ⟨fr, cs, w, hst, M⟩ := A
  obtain ⟨μ, own, R, F, K⟩ := M.ex
  exact ⟨fr, cs, w, hst, ⟨⟨μ, own, ⟨R.obj, R.inj, R.lt, R.dom, R.base, R.below, R.ty, R.tym, R.gl, hb⟩, F, K⟩⟩⟩

theorem plain_susp (F : FrameR E μ own h.nx scs.length false sf fr) (hm : sf.mode = .run) (hp : TmR μ sf.nt sf.tmps fr.tmps ∧ ItemsR μ sf.todo fr.todo) : FrameR E μ own h.nx scs.length true sf fr := by
  have hF := F.mode
  refine ⟨F.fn, F.kind, F.round, F.defers, ?_⟩
  rw [hm] at hF ⊢
  exact ⟨hF.1, .inl hp⟩

/-- A region that draws its order. -/
theorem regD_sound (O : EnvOK P E) (Q : OrcOK P E w₀) (R : Rel μ h w₀ w) (F : FrameR E μ own h.nx scs.length false sf fr) (K : StkR E μ own h.nx scs cs) (hm : sf.mode = .run) {ops : Array Oper} {done chain l : List Nat} {k : List SItem} {k' : List Item}
    (htd' : fr.todo = .inRegion ops l :: k') (hk : ItemsR μ k k') (G : RegR E μ own h.nx scs.length sf.fn sf.nt ops done chain l sf.tmps fr.tmps) :
    Good P E w₀ cs₀ (lone fr (cs ++ cs₀) w) (regDS E sf scs h ops done chain k) := by
  have hmr : fr.mode = .run := by have := F.mode; rw [hm] at this; exact this.1
  have hself := atR_self hmr
  rw [htd'] at hself
  unfold regDS
  split
  · trivial
  · rename_i tm h' done' hw
    split
    · trivial
    · rename_i ha
      simp only [Bool.not_eq_true', Bool.not_eq_false] at ha
      obtain ⟨own', R', G', hC, X⟩ := wave_sound ops.size 0 R G (fun _ _ h0 => absurd h0 (Nat.not_lt_zero _)) (by omega) (by rw [← List.range_eq_range']; exact hw)
      obtain ⟨μ2, w2, tmps2, l2, hs, R2, G2, X2, hle, hl2⟩ := pending O (b := fr) (df := fr.defers) (k' := k') (cs := cs ++ cs₀) l R' G' hC ha
      rw [hself] at hs
      have hX : ∀ d', d' ≠ scs.length → Ext μ own h.nx μ2 own' h'.nx d' := fun d' hd' => (X d').trans (X2 d' hd')
      have K2 : StkR E μ2 own' h'.nx scs cs := K.mono fun d' hd' => hX d' (by omega)
      have hk2 : ItemsR μ2 k k' := hk.mono hle
      obtain ⟨fn, hfn, hok⟩ := G2.ok
      obtain ⟨_, hops⟩ := regOK_spec hok
      refine Good.ahead hs ?_
      have F2 : ∀ susp, (susp = true → ∃ i l' c', l2 = i :: l' ∧ chain = i :: c') →
          FrameR E μ2 own' h'.nx scs.length susp { sf with tmps := tm, todo := .inRegD ops done' chain :: k } (fr.atR ⟨tmps2, fr.defers⟩ (.inRegion ops l2 :: k')) := by
        intro susp hsus
        refine ⟨F.fn, F.kind, F.round.mono hle, F.defers.mono hle, ?_⟩
        show ModeR _ _ _ _ _ _ _ _ sf.mode
        rw [hm]
        exact ⟨rfl, .inr ⟨ops, done', chain, k, l2, k', rfl, rfl, hk2, G2, hsus⟩⟩
      split
      · -- all is done
        rename_i hch
        have hl : l2 = [] := by
          rcases hl2 with hl2 | ⟨i, r, o, hl2, ho, hf⟩
          · exact hl2
          · obtain ⟨c, hc⟩ := G2.head hl2 ho hf
            cases hc
        subst hl
        refine At.step (own := own') (s := ⟨{ sf with tmps := tm, todo := k }, scs, h'⟩) (fr := fr.atR ⟨tmps2, fr.defers⟩ k') stepR_region_end R2 ⟨F.fn, F.kind, F.round.mono hle, F.defers.mono hle, ?_⟩ K2
        show ModeR _ _ _ _ _ _ _ _ sf.mode
        rw [hm]
        exact ⟨rfl, .inl ⟨⟨G2.size, fun t => G2.vals t fun j o hj => by cases hj⟩, hk2⟩⟩
      · rename_i i c
        have hl : ∃ r, l2 = i :: r := by
          rcases hl2 with hl2 | ⟨i', r, o, hl2, ho, hf⟩
          · have hch := G2.chain
            rw [hl2, List.filter_eq_nil_iff.2 (fun a _ => by simp)] at hch
            cases hch
          · obtain ⟨c', hc⟩ := G2.head hl2 ho hf
            cases hc
            exact ⟨r, hl2⟩
        obtain ⟨r, hl⟩ := hl
        split
        · trivial
        · rename_i o ho
          have hp := G2.ready hl ho
          refine oper_sound id O Q R2 (F2 true fun _ => ⟨i, r, c, hl, rfl⟩) K2 (ops := ops) (i := i) (l := r) (k := k') rfl (by rw [hl]; rfl) ho (G2.operands ho hp fr.defers) (fun _ k => k) fun b hb => wanted_sound hb fun g wt t hg hd => G2.look ho hp (by
            unfold looksAt; rw [List.mem_append]; right; simp [hg, hd])

/-- ONE STEP. -/
theorem sim (O : EnvOK P E) (Q : OrcOK P E w₀) {s : St} (M : MR E w₀ s fr cs w) : Good P E w₀ cs₀ (lone fr (cs ++ cs₀) w) (sstep E s) := by
  obtain ⟨μ, own, R, F, K⟩ := M.ex
  obtain ⟨sf, scs, h⟩ := s
  simp only at R F K
  by_cases hm : sf.mode = .run
  · have hF := F.mode
    rw [hm] at hF
    obtain ⟨hmr, hT⟩ := hF
    obtain ⟨sfn, stm, snt, std, sdf, smode, skind, sro⟩ := sf
    simp only at hm
    subst hm
    have hm : (SFrame.mk sfn stm snt std sdf .run skind sro).mode = .run := rfl
    have hself := atR_self hmr
    rcases hT with ⟨ht, hi⟩ | ⟨ops, done, chain, k, l, k', htd, htd', hk, G, _⟩
    · have F1 := plain_susp F hm ⟨ht, hi⟩
      simp only at ht hi
      cases std with
      | nil =>
        simp only [ItemsR] at hi
        simp only [sstep]
        rw [hi] at hself
        refine leave_sound R F K hm (fun hr _ => ?_) fun l c rest v w' hr hk he => ?_
        · have := stepR_end (P := P) (b := fr) (a := ⟨fr.tmps, fr.defers⟩) (cs := cs ++ cs₀) (w := w) hr
          rwa [hself] at this
        · have := stepR_round_end (P := P) (b := fr) (a := ⟨fr.tmps, fr.defers⟩) (c := c) (cs := rest) (w := w) hr hk he
          rwa [hself] at this
      | cons it k =>
        simp only [ItemsR] at hi
        obtain ⟨x, k', hfr, hx, hk⟩ := hi
        rw [hfr] at hself
        have to : ∀ {todo : List SItem} {todo' : List Item}, ItemsR μ todo todo' → step P (lone (fr.atR ⟨fr.tmps, fr.defers⟩ (x :: k')) (cs ++ cs₀) w) = .next (lone (fr.atR ⟨fr.tmps, fr.defers⟩ todo') (cs ++ cs₀) w) →
            Good P E w₀ cs₀ (lone fr (cs ++ cs₀) w) (.next { fr := ⟨sfn, stm, snt, todo, sdf, .run, skind, sro⟩, cs := scs, h }) := fun hi e => good_to R F K hm ht hi (by rw [hself] at e; exact e)
        cases it with
        | inBlock id => simp only [ItemR] at hx; subst hx; simp only [sstep]; exact to hk stepR_inBlock
        | inScope b =>
          simp only [ItemR] at hx; subst hx; simp only [sstep]
          exact to hk (step_lone_go (by simp [stepG, stepG.exec, Frame.atR]))
        | inLoop b => simp only [ItemR] at hx; subst hx; simp only [sstep]; exact to (by simp only [ItemsR, ItemR]; exact ⟨_, _, rfl, rfl, _, _, rfl, rfl, hk⟩) stepR_inLoop
        | inReg ops l =>
          simp only [ItemR] at hx; subst hx
          cases l with
          | nil => simp only [sstep]; exact to hk stepR_region_end
          | cons i l =>
            simp only [sstep]
            split
            · trivial
            · rename_i o ho
              have hop := oper_sound (cs₀ := cs₀) (tagR o.op) O Q R F1 K hmr hfr ho (fun x _ => evalS_R fun t _ => ht.2 t) (fun ρ k => exec_tag O k) fun b hb => wanted_sound hb fun g wt t _ _ => ht.2 t
              cases hw : wantedS ops o stm with
              | some b =>
                simp only [hw] at hop
                cases b <;> exact hop
              | none =>
                simp only
                split
                · rename_i t hgt
                  split
                  · obtain ⟨b, hb⟩ := guardTmp_sound hgt (ht.2)
                    have F' : FrameR E μ own h.nx scs.length false ⟨sfn, stm.set t (.bool b), snt, .inReg ops (i :: l) :: k, sdf, .run, skind, sro⟩ fr :=
                      ⟨F.fn, F.kind, F.round, F.defers, ⟨hmr, .inl ⟨⟨ht.1, fun u => by
                        show VR μ (((stm.set t (.bool b)).get u).getD undefS) _
                        rw [T.get_set]
                        by_cases e : u = t
                        · subst e; rw [if_pos rfl, hb]; simp [VR]
                        · rw [if_neg e]; exact ht.2 u⟩, by rw [hfr]; simp only [ItemsR, ItemR]; exact ⟨_, _, rfl, rfl, hk⟩⟩⟩⟩
                    refine ⟨⟨⟨sfn, stm.set t (.bool b), snt, .inReg ops (i :: l) :: k, sdf, .run, skind, sro⟩, scs, { t := h.t, nx := h.nx, ty := h.ty, gl := h.gl, bx := guardBx stm t b h.bx }⟩, by cases b <;> simp, At.rebox (s := ⟨_, scs, h⟩) (guardBx_ok R.bx hb (ht.2 t)) (At.now (own := own) (s := ⟨_, scs, h⟩) R F' K)⟩
                  · trivial
                · trivial
        | inRegD ops done chain => simp only [ItemR] at hx
        | inRangeFunc l => simp only [sstep]; trivial
        | endRangeFunc l =>
          simp only [ItemR] at hx
          obtain ⟨loc, hl, rfl⟩ := hx
          simp only [sstep]
          split
          · rename_i r hg
            have hob := R.obj _ _ _ hl hg
            simp only [ObjR] at hob
            obtain ⟨ro, hw, hR⟩ := hob
            split
            · trivial
            · rename_i hst
              obtain ⟨R', G'⟩ := R.put (o := .loop { r with state := .exhausted }) (ro := .loop { ro with state := .exhausted }) hl (by simp [hg]) ⟨_, rfl, { hR with state := rfl }⟩
              have hend := run_endLoop (P := P) hw (by rw [hR.state]; exact hst)
              have e := stepR_endRangeFunc (P := P) (b := fr) (a := ⟨fr.tmps, fr.defers⟩) (k := k') (cs := cs ++ cs₀) hend
              rw [hself] at e
              refine At.step (own := own) (s := ⟨⟨sfn, stm, snt, (r.pending.map SItem.code).toList ++ k, sdf, .run, skind, sro⟩, scs, h.put l (.loop { r with state := .exhausted })⟩) e R' ⟨F.fn, F.kind, F.round, F.defers, ?_⟩ K
              refine ⟨rfl, .inl ⟨ht, ?_⟩⟩
              show ItemsR μ ((r.pending.map SItem.code).toList ++ k) ((ro.pending.map Item.code).toList ++ k')
              rw [hR.pending]
              cases r.pending with
              | none => simpa using hk
              | some c => simp only [Option.map_some, Option.toList_some, List.singleton_append, ItemsR, ItemR]; exact ⟨_, _, rfl, rfl, hk⟩
          · trivial
        | beginRound =>
          simp only [ItemR] at hx; subst hx
          simp only [sstep]
          have hro := F.round
          split
          · rename_i l
            obtain ⟨loc, hl, hfro⟩ := hro
            split
            · rename_i r hg
              have hob := R.obj _ _ _ hl hg
              simp only [ObjR] at hob
              obtain ⟨ro, hw, hR⟩ := hob
              split
              · rename_i hst
                obtain ⟨R', G'⟩ := R.put (o := .loop { r with state := .busy }) (ro := .loop { ro with state := .busy }) hl (by simp [hg]) ⟨_, rfl, { hR with state := rfl }⟩
                have e := stepR_beginRound (P := P) (b := fr) (a := ⟨fr.tmps, fr.defers⟩) (k := k') (cs := cs ++ cs₀) hfro (run_beginRound (P := P) hw (by rw [hR.state]; exact hst))
                rw [hself] at e
                refine At.step (own := own) (s := ⟨⟨sfn, stm, snt, k, sdf, .run, skind, some l⟩, scs, h.put l (.loop { r with state := .busy })⟩) e R' ⟨F.fn, F.kind, F.round, F.defers, ?_⟩ K
                exact ⟨rfl, .inl ⟨ht, hk⟩⟩
              · trivial
            · trivial
          · trivial
        | code c =>
          simp only [ItemR] at hx; subst hx
          cases c with
          | skip => simp only [sstep]; exact to hk stepR_skip
          | label l => simp only [sstep]; exact to hk stepR_label
          | seq a b => simp only [sstep]; exact to (by simp only [ItemsR, ItemR]; exact ⟨_, _, rfl, rfl, _, _, rfl, rfl, hk⟩) stepR_seq
          | cond c a b =>
            simp only [sstep]
            have hv := evalS_R (μ := μ) (x := c) (tm := stm) (tmps := fr.tmps) (fun t _ => ht.2 t) (df := fr.defers)
            split
            · rename_i t hc
              rw [hc] at hv
              simp only [VR] at hv
              exact to (by simp only [ItemsR, ItemR]; exact ⟨_, _, rfl, rfl, hk⟩) (stepR_cond hv)
            · rename_i kk hc
              rw [hc] at hv
              simp only [VR, Unk.has] at hv
              obtain ⟨_, t, hv⟩ := hv
              have := to (todo := .code (if t then a else b) :: k) (by simp only [ItemsR, ItemR]; exact ⟨_, _, rfl, rfl, hk⟩) (stepR_cond hv)
              exact ⟨⟨⟨sfn, stm, snt, .code (if t then a else b) :: k, sdf, .run, skind, sro⟩, scs, h⟩, by cases t <;> simp, this⟩
            · rename_i r cc l hc
              rw [hc] at hv
              simp only [VR] at hv
              have A := fun t hv => to (todo := .code (if t then a else b) :: k) (by simp only [ItemsR, ItemR]; exact ⟨_, _, rfl, rfl, hk⟩) (stepR_cond (t := t) hv)
              cases ht' : r.holds (cc + sumL l) with
              | true =>
                rw [ht'] at hv
                exact ⟨_, List.mem_cons_self, At.rebox (refine_sound R.bx ht') (A true hv)⟩
              | false =>
                rw [ht'] at hv
                exact ⟨_, List.mem_cons_of_mem _ List.mem_cons_self, At.rebox (refine_sound R.bx (by rw [Cmp.no_holds, ht']; rfl)) (A false hv)⟩
            · trivial
          | block id b => simp only [sstep]; exact to (by simp only [ItemsR, ItemR]; exact ⟨_, _, rfl, rfl, _, _, rfl, rfl, hk⟩) stepR_block
          | loop b => simp only [sstep]; exact to (by simp only [ItemsR, ItemR]; exact ⟨_, _, rfl, rfl, _, _, rfl, rfl, hk⟩) stepR_loop
          | scope b =>
            simp only [sstep]
            exact to (by simp only [ItemsR, ItemR]; exact ⟨_, _, rfl, rfl, _, _, rfl, rfl, hk⟩) (step_lone_go (by simp [stepG, stepG.exec, Frame.atR]))
          | ret =>
            simp only [sstep]
            refine leave_sound R F K hm (fun hr _ => ?_) fun l c rest v w' hr hk he => ?_
            · have := stepR_ret (P := P) (b := fr) (a := ⟨fr.tmps, fr.defers⟩) (k := k') (cs := cs ++ cs₀) (w := w) hr
              rwa [hself] at this
            · have := stepR_round_ret (P := P) (b := fr) (a := ⟨fr.tmps, fr.defers⟩) (k := k') (c := c) (cs := rest) (w := w) hr hk he
              rwa [hself] at this
          | exit id =>
            simp only [sstep]
            have hx := exitTo_R id hk
            split
            · rename_i r hr
              rw [hr] at hx
              obtain ⟨r', h1, h2⟩ := hx
              exact to h2 (stepR_exit h1)
            · rename_i hr
              rw [hr] at hx
              refine leave_sound R F K hm (fun _ hj => ?_) fun l c rest v w' hr hk he => ?_
              · rcases hj with hj | hj <;> cases hj
              · have := stepR_round_exit (P := P) (b := fr) (a := ⟨fr.tmps, fr.defers⟩) (k := k') (c := c) (cs := rest) (w := w) hr hk hx he
                rwa [hself] at this
          | goto l =>
            simp only [sstep]
            have hx := gotoIn_R l hk
            split
            · rename_i r hr
              rw [hr] at hx
              obtain ⟨r', h1, h2⟩ := hx
              exact to h2 (stepR_goto h1)
            · rename_i hr
              rw [hr] at hx
              refine leave_sound R F K hm (fun _ hj => ?_) fun l c rest v w' hr hk he => ?_
              · rcases hj with hj | hj <;> cases hj
              · have := stepR_round_goto (P := P) (b := fr) (a := ⟨fr.tmps, fr.defers⟩) (k := k') (c := c) (cs := rest) (w := w) hr hk hx he
                rwa [hself] at this
          | refuse m => simp only [sstep]; trivial
          | region id ops draw =>
            simp only [sstep]
            split
            · -- it draws
              rename_i hdr
              subst hdr
              split
              · rename_i fn hfn
                split
                · rename_i hok
                  simp only [Bool.and_eq_true] at hok
                  have e := stepR_region_draw (P := P) (b := fr) (a := ⟨fr.tmps, fr.defers⟩) (k := k') (cs := cs ++ cs₀) (w := w) (id := id) (ops := ops)
                  rw [hself, O.mixed] at e
                  refine At.step (own := own) (s := ⟨⟨sfn, stm, snt, .inRegD ops [] (chainOf E ops) :: k, sdf, .run, skind, sro⟩, scs, h⟩) e R.drewN ⟨F.fn, F.kind, F.round, F.defers, ?_⟩ K
                  refine ⟨rfl, .inr ⟨ops, [], chainOf E ops, k, _, k', rfl, rfl, hk, RegR.enter hfn hok.1 ?_ ht _, fun hc => by cases hc⟩⟩
                  intro i o ho
                  have := List.all_eq_true.1 hok.2 o (by
                    rw [← Array.getElem?_toList] at ho
                    exact List.mem_of_getElem? ho)
                  exact this
                · trivial
              · trivial
            · rename_i hdr
              simp only [Bool.not_eq_true] at hdr
              subst hdr
              exact to (by simp only [ItemsR, ItemR]; exact ⟨_, _, rfl, rfl, hk⟩) stepR_region
          | rangeFunc g ps assign body =>
            simp only [sstep]
            have hro := F.round
            split
            · -- an outermost loop
              simp only [OptR] at hro
              obtain ⟨R1, G1⟩ := R.alloc (o := .deferred (some [])) (ro := .deferred (some [])) (n := 0) ⟨[], rfl, by simp [DefsR]⟩
              have hloc : (μ.set h.nx ⟨w.heap.size, 0, 0⟩) h.nx = some ⟨w.heap.size, 0, 0⟩ := by simp [Mu.set]
              obtain ⟨R2, G2⟩ := R1.alloc (o := .loop { state := .ready, pending := none, fn := sfn, tmps := stm, nt := snt, params := ps, assign, body, defers := h.nx })
                (ro := .loop { state := .ready, pending := none, fn := fr.fn, tmps := fr.tmps, params := ps, assign, body, defers := w.heap.size }) (n := 0)
                ⟨_, rfl, ⟨rfl, rfl, F.fn, ht.mono (G1.le.trans (Mu.le_set R1.fresh)), rfl, rfl, rfl, ⟨w.heap.size, 0, 0⟩, Mu.le_set R1.fresh _ _ hloc, rfl⟩⟩
              have X := fun d => (G1.trans G2).ext own d
              have hle := (G1.trans G2).le
              refine range_call (own := own) (l := h.nx + 1) (loc := ⟨w.heap.size + 1, 0, 0⟩) O R2 (F.mono (X _)) (K.mono fun d _ => X d) hm (ht.mono hle) (hk.mono hle) (d0 := [{ target := .collected h.nx, args := [] }]) (d1 := [{ target := .collected w.heap.size, args := #[] }]) ?_ ?_ ?_
              · simp only [DefsR]
                exact ⟨_, _, rfl, ⟨⟨⟨w.heap.size, 0, 0⟩, Mu.le_set R1.fresh _ _ hloc, rfl⟩, by simp [VRs]⟩, rfl⟩
              · show (if h.nx + 1 = (h.alloc _).nx then some (⟨(w.alloc (.deferred (some []))).heap.size, 0, 0⟩ : Loc) else _) = _
                rw [if_pos (by simp [Hp.alloc])]
                simp
              · intro d f args hres hinv
                have he : (Instr.enterLoop fr.fn fr.tmps ps assign body fr.roundOf).run P w = .ok (w.heap.size + 1, [{ target := .collected w.heap.size, args := #[] }]) ((w.alloc (.deferred (some []))).alloc (.loop { state := .ready, pending := none, fn := fr.fn, tmps := fr.tmps, params := ps, assign, body, defers := w.heap.size })) := by
                  simp [Instr.enterLoop, hro, Sem.run_bind, run_newObj, Result.andThen] <;> rfl
                have := stepR_rangeFunc (P := P) (b := fr) (a := ⟨fr.tmps, fr.defers⟩) (k := k') (cs := cs ++ cs₀) he hres hinv
                rwa [hself] at this
            · rename_i l
              obtain ⟨loc, hl, hfro⟩ := hro
              split
              · rename_i o hg
                have hob := R.obj _ _ _ hl hg
                simp only [ObjR] at hob
                obtain ⟨ro, hw, hR⟩ := hob
                obtain ⟨dl, hdl, hdr⟩ := hR.defers
                obtain ⟨R2, G2⟩ := R.alloc (o := .loop { state := .ready, pending := none, fn := sfn, tmps := stm, nt := snt, params := ps, assign, body, defers := o.defers })
                  (ro := .loop { state := .ready, pending := none, fn := fr.fn, tmps := fr.tmps, params := ps, assign, body, defers := ro.defers }) (n := 0)
                  ⟨_, rfl, ⟨rfl, rfl, F.fn, ht.mono (Mu.le_set R.fresh), rfl, rfl, rfl, dl, Mu.le_set R.fresh _ _ hdl, hdr⟩⟩
                have X := fun d => G2.ext own d
                refine range_call (own := own) (l := h.nx) (loc := ⟨w.heap.size, 0, 0⟩) O R2 (F.mono (X _)) (K.mono fun d _ => X d) hm (ht.mono G2.le) (hk.mono G2.le) (d0 := []) (d1 := []) (by simp [DefsR]) (by simp [Mu.set]) ?_
                intro d f args hres hinv
                have he : (Instr.enterLoop fr.fn fr.tmps ps assign body fr.roundOf).run P w = .ok (w.heap.size, []) (w.alloc (.loop { state := .ready, pending := none, fn := fr.fn, tmps := fr.tmps, params := ps, assign, body, defers := ro.defers })) := by
                  simp [Instr.enterLoop, hfro, Sem.run_bind, run_getLoop hw, run_newObj, Result.andThen]
                have := stepR_rangeFunc (P := P) (b := fr) (a := ⟨fr.tmps, fr.defers⟩) (k := k') (cs := cs ++ cs₀) he hres hinv
                rwa [hself] at this
              · trivial
    · simp only at htd
      subst htd
      simp only [sstep]
      exact regD_sound O Q R F K hm htd' hk G
  · have hu := unwind_sound (cs₀ := cs₀) O R F K hm
    unfold sstep
    simp only
    exact hu
end
end Go.Sh

namespace Go.Sh
open Go.RowKit
variable [Syms]

/-- The run of a machine, whatever it is answered. -/
def runB (E : Env) (ok : SV → St → Bool) : Nat → St → Bool
  | 0, _ => false
  | n + 1, s =>
    match sstep E s with
    | .next s' => runB E ok n s'
    | .fork l => l.all (runB E ok n)
    | .done v s' => ok v s'
    | .fail _ => false

section
variable {P : Program} {E : Env} {w₀ : World} {cs₀ : List Frame}

theorem runB_sound (O : EnvOK P E) (Q : OrcOK P E w₀) {ok : SV → St → Bool} : ∀ (n : Nat) {s : St} {fr : Frame} {cs : List Frame} {w : World}, MR E w₀ s fr cs w → runB E ok n s = true →
    ∃ v s', ok v s' = true ∧ Ends P w₀ cs₀ (lone fr (cs ++ cs₀) w) v s'
  | 0, _, _, _, _, _, h => by simp [runB] at h
  | n + 1, s, fr, cs, w, M, h => by
    have hs := sim (P := P) (cs₀ := cs₀) O Q M
    simp only [runB] at h
    have go : ∀ s', At P E w₀ cs₀ (lone fr (cs ++ cs₀) w) s' → runB E ok n s' = true → ∃ v s', ok v s' = true ∧ Ends P w₀ cs₀ (lone fr (cs ++ cs₀) w) v s' := by
      intro s' hA hr
      obtain ⟨fr', cs', w', hst, M'⟩ := hA
      obtain ⟨v, s2, hok, hE⟩ := runB_sound O Q n M' hr
      obtain ⟨fr2, w2, μ, x, hst2, rest⟩ := hE
      exact ⟨v, s2, hok, fr2, w2, μ, x, Steps.trans hst hst2, rest⟩
    cases hss : sstep E s with
    | next s' => rw [hss] at hs h; exact go s' hs h
    | fork l =>
      rw [hss] at hs h
      obtain ⟨s', hm, hA⟩ := hs
      exact go s' hA (List.all_eq_true.1 h s' hm)
    | done v s' => rw [hss] at hs h; exact ⟨v, s', h, hs⟩
    | fail m => rw [hss] at h; cases h

def mu0 : Mu := fun _ => none
def hpG (gl : List (Nat × List SV)) (bx : List (Nat × Int × Int) := []) : Hp := { t := .leaf, nx := 0, ty := .leaf, gl, bx }

/-- The package-level variables hold what is said of them. -/
def GlobOK (gl : List (Nat × List SV)) (w : World) : Prop := ∀ g c, glAt gl g = some c → g < w.heap.size ∧ ∃ rc e fz, w.heap[g]? = some (.cells rc e fz) ∧ VRs mu0 c (rc.toList.take c.length)

theorem GlobOK.nil (w : World) : GlobOK [] w := fun _ _ h => by cases h

theorem rel0 {gl : List (Nat × List SV)} {bx : List (Nat × Int × Int)} {w : World} (hg : GlobOK gl w) (hb : BoxOK bx) : Rel mu0 (hpG gl bx) w w :=
  ⟨fun _ _ _ h => (by cases h), fun _ _ _ _ h => (by cases h), fun _ _ h => (by cases h), fun _ _ => rfl, fun _ _ h => (by cases h), Below.refl _ _, fun _ _ _ _ _ h => (by cases h), fun _ _ h => (by cases h), hg, hb⟩

/-- A run from a call's entry, its arguments known. -/
def goes (E : Env) (gl : List (Nat × List SV)) (bx : List (Nat × Int × Int)) (f : FuncId) (args : List SV) (ok : SV → Bool) (n : Nat) : Bool :=
  match enterFr E f args .normal with
  | some fr => runB E (fun v s => ok v && s.fr.fn == f && (match s.fr.kind with | .normal => true | _ => false)) n { fr, cs := [], h := hpG gl bx }
  | none => false

theorem goes_calls (O : EnvOK P E) {w : World} (Q : OrcOK P E w) {gl : List (Nat × List SV)} (hgl : GlobOK gl w) {bx : List (Nat × Int × Int)} (hbx : BoxOK bx) {f : FuncId} {args : List SV} {vargs : Array Value} {ok : SV → Bool} {n : Nat} (ha : VRs mu0 args vargs.toList) (h : goes E gl bx f args ok n = true) :
    Calls P f vargs w (fun e w' => ∃ v μ x, ok v = true ∧ e = .returned x ∧ VR μ v x ∧ Below w.heap.size w w') := by
  intro cs
  unfold goes at h
  cases he : enterFr E f args .normal with
  | none => rw [he] at h; cases h
  | some sf =>
    rw [he] at h
    have M : MR E w ⟨sf, [], hpG gl bx⟩ (Frame.enter P f vargs .normal) [] w := ⟨⟨mu0, fun _ => none, rel0 hgl hbx, enter_frame O ha he, rfl⟩⟩
    obtain ⟨v, s', hok, fr, w', μ, x, hst, h1, h2, h3, h4, ⟨fn, h5, h6⟩, h7, R⟩ := runB_sound (cs₀ := cs) O Q n M h
    simp only [Bool.and_eq_true, beq_iff_eq] at hok
    obtain ⟨⟨hok1, hok2⟩, hok3⟩ := hok
    have hk : s'.fr.kind = .normal := by cases hk : s'.fr.kind <;> rw [hk] at hok3 <;> first | rfl | cases hok3
    exact ⟨.returned x, w', fr, ⟨v, μ, x, hok1, rfl, h7, R.below⟩, hst, h3.trans hok2, h1, h2, h4.trans hk, fn, h5, h6⟩

def isTrue : SV → Bool
  | .bool b => b
  | _ => false

theorem goes_true (O : EnvOK P E) {w : World} (Q : OrcOK P E w) {gl : List (Nat × List SV)} (hgl : GlobOK gl w) {bx : List (Nat × Int × Int)} (hbx : BoxOK bx) {f : FuncId} {args : List SV} {vargs : Array Value} {n : Nat} (ha : VRs mu0 args vargs.toList) (h : goes E gl bx f args isTrue n = true) : Calls P f vargs w (fun e w' => e = .returned (.bool true) ∧ Below w.heap.size w w') := by
  refine Calls.mono (goes_calls O Q hgl hbx ha h) ?_
  rintro e w' ⟨v, μ, x, hv, rfl, hx, hb⟩
  refine ⟨?_, hb⟩
  cases v <;> simp only [isTrue, Bool.false_eq_true] at hv
  subst hv
  simp only [VR] at hx
  rw [hx]
end

/-! ### a program's own -/
def okFn (fn : Func) : Bool := !(fn.name == "runtime.NumGoroutine") && (fn.body.isSome || (Extern.findNext fn).isNone)

def envOf (P : Program) (orc : FuncId → List SV → Hp → Option SV) : Env where
  info := P.info?
  und := P.underlying
  fn := fun f => P.funcs[f]?
  seq := fun t => !P.eqGuardType P.depth t && !P.stoodInHeld t
  rt := P.rt
  orc := orc
  lies := fun e c o u n => liesAt P P.depth e c o u n

def noOrc : FuncId → List SV → Hp → Option SV := fun _ _ _ => none

theorem noOrc_ok {P : Program} {w : World} : OrcOK P (envOf P noOrc) w := fun _ _ _ _ _ _ _ h => by cases h

theorem find_bits (fn : Func) (h : fn.name = "math.Float64bits") : Extern.find fn = some Extern.MathFloatBits.float64bits := by
  unfold Extern.find; rw [h]; rfl
theorem find_frombits (fn : Func) (h : fn.name = "math.Float64frombits") : Extern.find fn = some Extern.MathFloatBits.float64frombits := by
  unfold Extern.find; rw [h]; rfl
theorem find_ceil (fn : Func) (h : fn.name = "math.archCeil") : Extern.find fn = some (Extern.MathFloor.toIntegral "math.archCeil" .up) := by
  unfold Extern.find; rw [h]; rfl
theorem find_floor (fn : Func) (h : fn.name = "math.archFloor") : Extern.find fn = some (Extern.MathFloor.toIntegral "math.archFloor" .down) := by
  unfold Extern.find; rw [h]; rfl

theorem find_count (fn : Func) (h : fn.name = "internal/bytealg.CountString") : Extern.find fn = some Extern.BytealgCount.count := by
  unfold Extern.find; rw [h]; rfl
theorem find_indexByte (fn : Func) (h : fn.name = "internal/bytealg.IndexByteString") : Extern.find fn = some Extern.BytealgIndexByte.indexByte := by
  unfold Extern.find; rw [h]; rfl
theorem find_noEscape (fn : Func) (h : fn.name = "internal/abi.NoEscape") : Extern.find fn = some Extern.AbiNoEscape.same := by
  unfold Extern.find; rw [h]; rfl
theorem find_makeNoZero (fn : Func) (h : fn.name = "internal/bytealg.MakeNoZero") : Extern.find fn = some (Extern.BytealgMakeNoZero.makeNoZero fn.params fn.resultTypes) := by
  unfold Extern.find; rw [h]; rfl

theorem envOf_ok {P : Program} {orc : FuncId → List SV → Hp → Option SV} (hf : P.funcs.toList.all okFn = true) (hm : P.follows .mixedOrders = true) : EnvOK P (envOf P orc) where
  info := fun _ _ h => h
  und := fun _ _ h => h
  fn := fun f fn h => by
    have h' : P.funcs[f]? = some fn := h
    refine ⟨h', ?_⟩
    have := List.all_eq_true.1 hf fn (by rw [← Array.getElem?_toList] at h'; exact List.mem_of_getElem? h')
    unfold okFn at this
    simp only [Bool.and_eq_true, Bool.not_eq_true'] at this
    exact this.1
  seq := fun t h => by
    have h' : (!P.eqGuardType P.depth t && !P.stoodInHeld t) = true := h
    simpa using h'
  rt := rfl
  mixed := hm
  lies := fun _ _ _ _ _ h => h
  ext := fun f fn h hb => by
    have h' : P.funcs[f]? = some fn := h
    have := List.all_eq_true.1 hf fn (by rw [← Array.getElem?_toList] at h'; exact List.mem_of_getElem? h')
    unfold okFn at this
    simp only [Bool.and_eq_true, Bool.not_eq_true', hb, Option.isSome_none, Bool.false_or, Option.isNone_iff_eq_none] at this
    exact ⟨this.2, find_bits fn, find_frombits fn, find_ceil fn, find_floor fn, find_count fn, find_indexByte fn, find_noEscape fn, find_makeNoZero fn⟩

/-- What is known of a value that no memory is looked at for. -/
def plainSV : SV → Bool
  | .int _ _ | .bool _ | .string _ | .any => true
  | _ => false

omit [Syms] in
/-- A closed run. -/
theorem closed_true {P : Program} (hf : P.funcs.toList.all okFn = true) (hm : P.follows .mixedOrders = true) {f : FuncId} {n : Nat} (h : goes (envOf P noOrc) [] [] f [] isTrue n = true) (w : World) :
    Calls P f #[] w (fun e w' => e = .returned (.bool true) ∧ Below w.heap.size w w') :=
  letI : Syms := Syms.none
  goes_true (envOf_ok hf hm) noOrc_ok (GlobOK.nil w) boxOK_nil (by simp [VRs]) h
end Go.Sh

namespace Go.Sh
open Go.RowKit Go.ChangeShapes Go.WideShapes
section
variable {H : Type} {enc : TypeId × Value → H} {P : Program}
/-- A row's end, where below the heap's old end the world is as it was. -/
theorem post_below {f : Func} {s : ChangeSpec} {apart fresh handsOn again : Bool} {W W' : World} {args : Array Value} {v : Value} {ds gs : List (DataW H)} {before pa pv : List MemPlace}
    (hW : DataW.Whole enc P f.params.toList s.vars apart W args.toList ds gs before)
    (hres : ∀ (b : Nat) (sp : Nat → Bool) (hd : Bool), DataW.TrodAll enc P W' b sp hd f.resultTypes.toList (v.resultList f.resultTypes.size) (s.fn H (ds ++ gs)).results [])
    (hargs : ∀ sp : Nat → Bool, (∀ p ∈ before, sp p.block = true) → DataW.TrodAll enc P W' 0 sp true f.params.toList args.toList (s.fn H (ds ++ gs)).args pa)
    (hvars : ∀ sp : Nat → Bool, (∀ p ∈ before, sp p.block = true) → DataW.TrodVars enc P W' sp s.vars (s.fn H (ds ++ gs)).vars pv)
    (hps : before = pa ++ pv) (hB : Below W.heap.size W W')
    (hok : ∀ (j : Nat) (t : TypeId) (r : Value), f.resultTypes[j]? = some t → (v.resultList f.resultTypes.size)[j]? = some r → Value.okWide P W' .any 0 t r) :
    s.post enc P f apart fresh handsOn again W args v W' := by
  have hlt := hW.lt
  have hold : ∀ p ∈ before, (fun b => decide (b < W.heap.size)) p.block = true := fun p hp => by simpa using hlt p hp
  refine ⟨ds, gs, before, [], pa, pv, hW, hres _ _ _, hargs _ hold, hvars _ hold, World.keptBut_mono (fun p hp => ⟨hp, ?_⟩) (hB.frame (· ∈ before)), fun _ => ?_⟩
  · rw [hps, List.mem_append] at hp
    exact Or.inr hp
  · obtain ⟨_, _, _, _, _, hz, hn⟩ := hW
    refine ⟨hok, _, _, ([] ++ pa) ++ pv, ⟨[] ++ pa, pv, trodAll_append (hargs _ (fun _ _ => rfl)) (hres _ _ _), hvars _ (fun _ _ => rfl), rfl, ?_, ?_⟩, ?_⟩
    · intro b off hp
      have hp' : MemPlace.cell b off ∈ before := by rw [hps]; simpa using hp
      rw [hB.frozen (p := ⟨b, off, none⟩) (hlt _ hp')]
      exact hz b off hp'
    · intro ha
      have := hn ha
      rw [hps] at this
      simpa using this
    · intro p hp _
      rw [hps]
      simpa using hp
end
end Go.Sh
