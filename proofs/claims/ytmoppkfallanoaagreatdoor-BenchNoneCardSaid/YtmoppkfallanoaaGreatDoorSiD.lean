/-
  A machine of one goroutine that can be reckoned in the kernel, and the proof that the model does what it does: part SiD.
-/
import Derived.Test.YtmoppkfallanoaaGreatDoorSiC
import Derived.Orders
set_option linter.unusedSimpArgs false
set_option linter.unusedVariables false
set_option linter.unusedSectionVars false
namespace Go.Sh
open Go.RowKit
variable [Syms]

/-! ## Frames -/
def ItemR (μ : Mu) : SItem → Item → Prop
  | .code c, i => i = .code c
  | .inBlock id, i => i = .inBlock id
  | .inLoop b, i => i = .inLoop b
  | .inScope b, i => i = .inScope b
  | .inReg ops l, i => i = .inRegion ops l
  | .inRegD _ _ _, _ => False
  | .inRangeFunc l, i => ∃ x, μ l = some x ∧ i = .inRangeFunc x.r
  | .endRangeFunc l, i => ∃ x, μ l = some x ∧ i = .endRangeFunc x.r
  | .beginRound, i => i = .beginRound

def ItemsR (μ : Mu) : List SItem → List Item → Prop
  | [], l => l = []
  | a :: r, l => ∃ x xs, l = x :: xs ∧ ItemR μ a x ∧ ItemsR μ r xs

abbrev Own := Nat → Option (Nat × Nat)

/-- Nothing of the list stands behind something later in it. -/
def Topo (ops : Array Oper) : List Nat → Prop
  | [] => True
  | i :: r => (∀ o, ops[i]? = some o → ∀ p ∈ preds o, p ∉ i :: r) ∧ Topo ops r

structure RegR (E : Env) (μ : Mu) (own : Own) (nx d : Nat) (f : FuncId) (nt : Nat) (ops : Array Oper) (done chain l : List Nat) (tm : T SV) (tmps : Array Value) : Prop where
  ok : ∃ fn, E.fn f = some fn ∧ regOK E ops (retTmps fn) = true
  size : tmps.size = nt
  dsts : ∀ (i : Nat) o, ops[i]? = some o → dstOk o.dst nt = true
  nodup : l.Nodup
  lt : ∀ i ∈ l, i < ops.size
  topo : Topo ops l
  down : ∀ i o, ops[i]? = some o → i ∉ l → ∀ p ∈ preds o, p ∉ l
  chain : chain = (chainOf E ops).filter (fun i => l.contains i)
  done1 : ∀ i, i < ops.size → i ∉ l → i ∈ done
  done2 : ∀ i, i ∈ l → i ∈ done → ∃ o, ops[i]? = some o ∧ isFree E o.op = true
  vals : ∀ t, (∀ j o, j ∈ l → j ∈ done → ops[j]? = some o → o.dst ≠ some t) → VR μ ((tm.get t).getD undefS) (tmps.getD t undef)
  pend : ∀ j o dd b, j ∈ l → j ∈ done → ops[j]? = some o → isAlloc E o.op = true → o.dst = some dd → blockOf ((tm.get dd).getD undefS) = some b → own b = some (d, j) ∧ μ b = none ∧ b < nx

def RetR (E : Env) (μ : Mu) (sf : SFrame) (fr : Frame) : Prop :=
  ∀ fn, E.fn sf.fn = some fn → ∀ t ∈ retTmps fn, VR μ ((sf.tmps.get t).getD undefS) (fr.tmps.getD t undef)

def ChainR (μ : Mu) : List SEntry → List PanicEntry → Prop
  | [], l => l = []
  | a :: r, l => ∃ x xs, l = x :: xs ∧ (VR μ a.v x.v ∧ x.recovered = a.recovered ∧ x.goexit = false) ∧ ChainR μ r xs

/-- What the frame is at: beside a region that draws its order, or in it. -/
def TopR (E : Env) (μ : Mu) (own : Own) (nx d : Nat) (susp : Bool) (sf : SFrame) (fr : Frame) : Prop :=
  (TmR μ sf.nt sf.tmps fr.tmps ∧ ItemsR μ sf.todo fr.todo) ∨
  (∃ ops done chain k l k', sf.todo = .inRegD ops done chain :: k ∧ fr.todo = .inRegion ops l :: k' ∧ ItemsR μ k k' ∧
    RegR E μ own nx d sf.fn sf.nt ops done chain l sf.tmps fr.tmps ∧ (susp = true → ∃ i l' c', l = i :: l' ∧ chain = i :: c'))

def ModeR (E : Env) (μ : Mu) (own : Own) (nx d : Nat) (susp : Bool) (sf : SFrame) (fr : Frame) : SMode → Prop
  | .run => fr.mode = .run ∧ TopR E μ own nx d susp sf fr
  | .returning => fr.mode = .returning ∧ RetR E μ sf fr
  | .panicking ch => ∃ ch', fr.mode = .panicking ch' ∧ ChainR μ ch ch' ∧ RetR E μ sf fr

structure FrameR (E : Env) (μ : Mu) (own : Own) (nx d : Nat) (susp : Bool) (sf : SFrame) (fr : Frame) : Prop where
  fn : fr.fn = sf.fn
  kind : fr.kind = sf.kind
  round : OptR μ sf.roundOf fr.roundOf
  defers : DefsR μ sf.defers fr.defers
  mode : ModeR E μ own nx d susp sf fr sf.mode

def StkR (E : Env) (μ : Mu) (own : Own) (nx : Nat) : List SFrame → List Frame → Prop
  | [], l => l = []
  | a :: r, l => ∃ x xs, l = x :: xs ∧ FrameR E μ own nx r.length true a x ∧ StkR E μ own nx r xs

structure MR (E : Env) (w₀ : World) (s : St) (fr : Frame) (cs : List Frame) (w : World) : Prop where
  ex : ∃ μ own, Rel μ s.h w₀ w ∧ FrameR E μ own s.h.nx s.cs.length false s.fr fr ∧ StkR E μ own s.h.nx s.cs cs

/-! ### growing -/
theorem ItemR.mono {μ μ' : Mu} (h : μ.le μ') {a : SItem} {b : Item} (k : ItemR μ a b) : ItemR μ' a b := by
  cases a <;> simp only [ItemR] at k ⊢ <;> first
    | exact k
    | (obtain ⟨x, hx, e⟩ := k; exact ⟨x, h _ _ hx, e⟩)

theorem ItemsR.mono {μ μ' : Mu} (h : μ.le μ') : ∀ {a : List SItem} {b : List Item}, ItemsR μ a b → ItemsR μ' a b
  | [], _, k => by simpa [ItemsR] using k
  | _ :: _, _, k => by simp only [ItemsR] at k ⊢; obtain ⟨x, xs, e, hx, hxs⟩ := k; exact ⟨x, xs, e, hx.mono h, ItemsR.mono h hxs⟩

theorem OptR.mono {μ μ' : Mu} (h : μ.le μ') {a b : Option Nat} (k : OptR μ a b) : OptR μ' a b := by
  cases a with
  | none => exact k
  | some x => obtain ⟨l, hl, e⟩ := k; exact ⟨l, h _ _ hl, e⟩

theorem ChainR.mono {μ μ' : Mu} (h : μ.le μ') : ∀ {a : List SEntry} {b : List PanicEntry}, ChainR μ a b → ChainR μ' a b
  | [], _, k => by simpa [ChainR] using k
  | _ :: _, _, k => by simp only [ChainR] at k ⊢; obtain ⟨x, xs, e, ⟨h1, h2, h3⟩, hxs⟩ := k; exact ⟨x, xs, e, ⟨h1.mono h, h2, h3⟩, ChainR.mono h hxs⟩

theorem ChainR.append {μ : Mu} : ∀ {a c : List SEntry} {b d : List PanicEntry}, ChainR μ a b → ChainR μ c d → ChainR μ (a ++ c) (b ++ d)
  | [], _, _, _, k, k' => by simp only [ChainR] at k; subst k; simpa using k'
  | _ :: _, _, _, _, k, k' => by
    simp only [ChainR] at k
    obtain ⟨x, xs, rfl, hx, hxs⟩ := k
    simp only [List.cons_append, ChainR]
    exact ⟨x, _, rfl, hx, ChainR.append hxs k'⟩

/-- What a step at depth d may turn in the book of blocks. -/
structure Ext (μ : Mu) (own : Own) (nx : Nat) (μ' : Mu) (own' : Own) (nx' : Nat) (d : Nat) : Prop where
  le : μ.le μ'
  nxle : nx ≤ nx'
  owns : ∀ b, b < nx → own' b = own b
  keep : ∀ b j, b < nx → own b = some (d, j) → μ b = none → μ' b = none

theorem RegR.mono {E : Env} {μ μ' : Mu} {own own' : Own} {nx nx' d : Nat} (X : Ext μ own nx μ' own' nx' d) {f : FuncId} {nt : Nat} {ops : Array Oper} {done chain l : List Nat} {tm : T SV} {tmps : Array Value}
    (k : RegR E μ own nx d f nt ops done chain l tm tmps) : RegR E μ' own' nx' d f nt ops done chain l tm tmps :=
  { k with
    vals := fun t ht => (k.vals t ht).mono X.le
    pend := fun j o dd b h1 h2 h3 h4 h5 h6 =>
      let ⟨p1, p2, p3⟩ := k.pend j o dd b h1 h2 h3 h4 h5 h6
      ⟨(X.owns b p3).trans p1, X.keep b j p3 p1 p2, Nat.lt_of_lt_of_le p3 X.nxle⟩ }

theorem FrameR.mono {E : Env} {μ μ' : Mu} {own own' : Own} {nx nx' d : Nat} (X : Ext μ own nx μ' own' nx' d) {susp : Bool} {sf : SFrame} {fr : Frame} (k : FrameR E μ own nx d susp sf fr) :
    FrameR E μ' own' nx' d susp sf fr := by
  refine ⟨k.fn, k.kind, k.round.mono X.le, k.defers.mono X.le, ?_⟩
  have hm := k.mode
  cases hs : sf.mode with
  | run =>
    rw [hs] at hm
    refine ⟨hm.1, ?_⟩
    rcases hm.2 with ⟨h1, h2⟩ | ⟨ops, done, chain, kk, l, k', h1, h2, h3, h4, h5⟩
    · exact .inl ⟨h1.mono X.le, h2.mono X.le⟩
    · exact .inr ⟨ops, done, chain, kk, l, k', h1, h2, h3.mono X.le, h4.mono X, h5⟩
  | returning =>
    rw [hs] at hm
    exact ⟨hm.1, fun fn hf t ht => (hm.2 fn hf t ht).mono X.le⟩
  | panicking ch =>
    rw [hs] at hm
    obtain ⟨ch', h1, h2, h3⟩ := hm
    exact ⟨ch', h1, h2.mono X.le, fun fn hf t ht => (h3 fn hf t ht).mono X.le⟩

theorem StkR.mono {E : Env} {μ μ' : Mu} {own own' : Own} {nx nx' : Nat} : ∀ {ss : List SFrame} {fs : List Frame}, (∀ d, d < ss.length → Ext μ own nx μ' own' nx' d) → StkR E μ own nx ss fs → StkR E μ' own' nx' ss fs
  | [], _, _, k => by simpa [StkR] using k
  | a :: r, _, X, k => by
    simp only [StkR] at k ⊢
    obtain ⟨x, xs, e, hx, hxs⟩ := k
    exact ⟨x, xs, e, hx.mono (X _ (by simp)), StkR.mono (fun d hd => X d (by simp; omega)) hxs⟩

theorem Grow.ext {μ μ' : Mu} {h h' : Hp} (G : Grow μ h μ' h') (own : Own) (d : Nat) : Ext μ own h.nx μ' own h'.nx d :=
  ⟨G.le, G.nx, fun _ _ => rfl, fun b _ hb _ hm => (G.out b hb hm).1⟩

theorem Ext.trans {μ μ' μ'' : Mu} {own own' own'' : Own} {nx nx' nx'' d : Nat} (a : Ext μ own nx μ' own' nx' d) (b : Ext μ' own' nx' μ'' own'' nx'' d) : Ext μ own nx μ'' own'' nx'' d :=
  ⟨a.le.trans b.le, Nat.le_trans a.nxle b.nxle, fun x hx => (b.owns x (Nat.lt_of_lt_of_le hx a.nxle)).trans (a.owns x hx),
    fun x j hx ho hm => b.keep x j (Nat.lt_of_lt_of_le hx a.nxle) ((a.owns x hx).trans ho) (a.keep x j hx ho hm)⟩

theorem Ext.refl (μ : Mu) (own : Own) (nx d : Nat) : Ext μ own nx μ own nx d := ⟨Mu.le.refl μ, Nat.le_refl _, fun _ _ => rfl, fun _ _ _ _ h => h⟩

/-! ### temporaries -/
theorem TmR.set {μ : Mu} {nt : Nat} {tm : T SV} {a : Array Value} (k : TmR μ nt tm a) {t : Nat} (ht : t < nt) {s : SV} {v : Value} (hv : VR μ s v) : TmR μ nt (tm.set t s) (a.setIfInBounds t v) := by
  refine ⟨by simpa using k.1, fun u => ?_⟩
  rw [T.get_set]
  by_cases e : u = t
  · subst e
    rw [if_pos rfl]
    have : u < a.size := by rw [k.1]; exact ht
    simp [this, hv]
  · rw [if_neg e]
    simp only [Array.getD_eq_getD_getElem?]
    rw [Array.getElem?_setIfInBounds_ne (Ne.symm e)]
    have := k.2 u
    simpa only [Array.getD_eq_getD_getElem?] using this

theorem dstOk_spec {d : Tmp} {nt : Nat} (h : dstOk (some d) nt = true) : d < nt := by simpa [dstOk] using h

theorem TmR.put {μ : Mu} {nt : Nat} {tm : T SV} {tmps : Array Value} {defers : List Deferred} (k : TmR μ nt tm tmps) {dst : Option Tmp} (hd : dstOk dst nt = true) {s : SV} {v : Value} (hv : VR μ s v) :
    TmR μ nt (putS tm dst s) (Act.put { tmps, defers } dst v).tmps := by
  cases dst with
  | none => exact k
  | some d => exact k.set (dstOk_spec hd) hv

theorem TmR.pad {μ : Mu} : ∀ (args : List SV) (i : Nat) (tm : T SV) (a : Array Value) (vargs : List Value), VRs μ args vargs → TmR μ a.size tm a → i + args.length ≤ a.size →
    TmR μ a.size (padT i args tm) ⟨a.toList.take i ++ vargs ++ a.toList.drop (i + args.length)⟩
  | [], i, tm, a, _, k, h, _ => by simp only [VRs] at k; subst k; simpa [padT] using h
  | s :: args, i, tm, a, _, k, h, hle => by
    simp only [VRs] at k
    obtain ⟨x, xs, rfl, hx, hxs⟩ := k
    simp only [List.length_cons] at hle
    have h1 := h.set (t := i) (by omega) hx
    have h2 := TmR.pad args (i + 1) (tm.set i s) (a.setIfInBounds i x) xs hxs (by simpa using h1) (by simp; omega)
    simp only [padT]
    have e : (⟨(a.setIfInBounds i x).toList.take (i + 1) ++ xs ++ (a.setIfInBounds i x).toList.drop (i + 1 + args.length)⟩ : Array Value) = ⟨a.toList.take i ++ (x :: xs) ++ a.toList.drop (i + (args.length + 1))⟩ := by
      congr 1
      rw [Array.toList_setIfInBounds]
      apply List.ext_getElem?
      intro k
      have hl := hxs.length
      simp only [List.getElem?_append, List.getElem?_take, List.getElem?_drop, List.getElem?_set, List.length_append, List.length_take, List.length_set, Array.length_toList, List.length_cons]
      have m1 : min (i + 1) a.size = i + 1 := by omega
      have m2 : min i a.size = i := by omega
      rw [m1, m2]
      by_cases k1 : k < i
      · have q1 : k < i + 1 := by omega
        have q2 : k < i + 1 + xs.length := by omega
        have q3 : k < i + (xs.length + 1) := by omega
        have q4 : ¬ i = k := by omega
        simp [k1, q1, q2, q3, q4]
      · by_cases k2 : k = i
        · subst k2
          have q2 : k < k + 1 + xs.length := by omega
          have q6 : k < a.size := by omega
          simp [q2, q6]
        · by_cases k3 : k < i + (xs.length + 1)
          · have q1 : ¬ k < i + 1 := by omega
            have q2 : k < i + 1 + xs.length := by omega
            have q5 : k - i = (k - (i + 1)) + 1 := by omega
            simp [k1, k3, q1, q2]
            rw [q5, List.getElem?_cons_succ]
          · have q2 : ¬ k < i + 1 + xs.length := by omega
            have q4 : ¬ i = i + 1 + args.length + (k - (i + 1 + xs.length)) := by omega
            have q5 : i + 1 + args.length + (k - (i + 1 + xs.length)) = i + (args.length + 1) + (k - (i + (xs.length + 1))) := by omega
            simp only [k3, q2, if_false, q4]
            rw [q5]
    rw [e] at h2
    simpa using h2

theorem TmR.leaf (μ : Mu) (n : Nat) : TmR μ n T.leaf (Array.replicate n undef) := by
  refine ⟨by simp, fun t => ?_⟩
  simp only [T.get, Option.getD_none, Array.getD_eq_getD_getElem?, Array.getElem?_replicate]
  split <;> exact VR.undef μ

theorem enter_tmps {args : Array Value} {n : Nat} : args ++ Array.replicate (n - args.size) undef = ⟨(Array.replicate (max args.size n) undef).toList.take 0 ++ args.toList ++ (Array.replicate (max args.size n) undef).toList.drop (0 + args.size)⟩ := by
  apply Array.toList_inj.1
  simp
  omega

/-- A frame that is entered. -/
theorem enter_frame {P : Program} {E : Env} (O : EnvOK P E) {μ : Mu} {own : Own} {nx d : Nat} {f : FuncId} {args : List SV} {vargs : Array Value} {kind : CallKind} {sf : SFrame} (ha : VRs μ args vargs.toList) (e : enterFr E f args kind = some sf) :
    FrameR E μ own nx d false sf (Frame.enter P f vargs kind) := by
  unfold enterFr at e
  cases hf : E.fn f with
  | none => simp [hf] at e
  | some fn =>
    simp only [hf] at e
    cases hb : fn.body with
    | none => simp [hb] at e
    | some c =>
      simp only [hb, Option.some.injEq] at e
      subst e
      obtain ⟨hP, _⟩ := O.fn _ _ hf
      have hl := ha.length
      simp only [Array.length_toList] at hl
      refine ⟨rfl, rfl, rfl, by simp [DefsR, Frame.enter], ⟨rfl, .inl ⟨?_, ?_⟩⟩⟩
      · simp only [Frame.enter, hP, Option.map_some, Option.getD_some]
        rw [enter_tmps, hl]
        have h0 := TmR.leaf μ (max vargs.size fn.ntmps)
        have := TmR.pad args 0 T.leaf (Array.replicate (max vargs.size fn.ntmps) undef) vargs.toList ha (by simpa using h0) (by simp; omega)
        rw [hl] at this
        simpa using this
      · simp only [Frame.enter, hP, hb, Option.bind_some, Option.getD_some, ItemsR]
        exact ⟨_, _, rfl, rfl, rfl⟩
end Go.Sh

namespace Go.Sh
open Go.RowKit
variable [Syms]
section
variable {P : Program} {E : Env} {μ : Mu} {own : Own} {nx d : Nat}

/-! ### regions that draw: what regOK says -/
structure OperOK (E : Env) (ops : Array Oper) (rets : List Tmp) (j : Nat) (o : Oper) : Prop where
  preds : ∀ p ∈ preds o, p < j
  dst : ∀ t, o.dst = some t → (isFree E o.op = true → t ∉ rets) ∧ ∀ (i : Nat) (p : Oper), ops[i]? = some p → i ≠ j → p.dst ≠ some t
  looks : ∀ u ∈ looksAt ops o, ∀ (i : Nat) (p : Oper), ops[i]? = some p → p.dst = some u → stands (masks ops) i j = true ∨ (isFree E p.op = false ∧ stands (masks ops) j i = true)

theorem regOK_spec {ops : Array Oper} {rets : List Tmp} (h : regOK E ops rets = true) : linked (masks ops) (chainOf E ops) = true ∧ ∀ (j : Nat) (o : Oper), ops[j]? = some o → OperOK E ops rets j o := by
  unfold regOK at h
  simp only [Bool.and_eq_true] at h
  refine ⟨h.1, fun j o hj => ?_⟩
  have hlt : ∀ (i : Nat) (p : Oper), ops[i]? = some p → i ∈ List.range ops.size := by
    intro i p hp
    rw [List.mem_range]
    rcases Nat.lt_or_ge i ops.size with h' | h'
    · exact h'
    · simp [Array.getElem?_eq_none h'] at hp
  have h2 := List.all_eq_true.1 h.2 j (hlt j o hj)
  unfold operOK at h2
  simp only [hj, Bool.and_eq_true] at h2
  obtain ⟨⟨h3, h4⟩, h5⟩ := h2
  refine ⟨fun p hp => by simpa using List.all_eq_true.1 h3 p hp, fun t ht => ?_, fun u hu i p hp hd => ?_⟩
  · simp only [ht, Bool.and_eq_true, Bool.or_eq_true, Bool.not_eq_true'] at h4
    refine ⟨fun hf => ?_, fun i p hp hne => ?_⟩
    · rcases h4.1 with h6 | h6
      · rw [hf] at h6; cases h6
      · simpa using h6
    · have := List.all_eq_true.1 h4.2 i (hlt i p hp)
      simp only [hp, Bool.or_eq_true, decide_eq_true_eq] at this
      rcases this with h6 | h6
      · exact absurd h6 hne
      · exact h6
  · have := List.all_eq_true.1 (List.all_eq_true.1 h5 u hu) i (hlt i p hp)
    simp only [hp, hd, Bool.or_eq_true, decide_eq_true_eq, Bool.and_eq_true, Bool.not_eq_true', ne_eq, not_true_eq_false, false_or] at this
    rcases this with h6 | h6
    · exact .inl h6
    · exact .inr h6

theorem chainOf_mem {ops : Array Oper} {i : Nat} (h : i ∈ chainOf E ops) : ∃ o, ops[i]? = some o ∧ isFree E o.op = false := by
  unfold chainOf at h
  rw [List.mem_filter] at h
  obtain ⟨_, h⟩ := h
  split at h
  · rename_i o ho; exact ⟨o, ho, by simpa using h⟩
  · cases h

theorem chainOf_nodup (ops : Array Oper) : (chainOf E ops).Nodup := List.Pairwise.filter _ List.nodup_range

theorem RegR.notDone {f : FuncId} {nt : Nat} {ops : Array Oper} {done chain l : List Nat} {tm : T SV} {tmps : Array Value} (k : RegR E μ own nx d f nt ops done chain l tm tmps) {i : Nat} (hi : i ∈ chain) : i ∈ l ∧ i ∉ done := by
  rw [k.chain, List.mem_filter] at hi
  have hl : i ∈ l := by simpa using hi.2
  refine ⟨hl, fun hd => ?_⟩
  obtain ⟨o, ho, hf⟩ := k.done2 i hl hd
  obtain ⟨o', ho', hf'⟩ := chainOf_mem hi.1
  rw [ho] at ho'; cases ho'
  rw [hf] at hf'; cases hf'

/-- The effect whose turn it is has run. -/
theorem RegR.finish {f : FuncId} {nt : Nat} {ops : Array Oper} {done chain l : List Nat} {tm : T SV} {tmps : Array Value} {i : Nat} {df : List Deferred} (k : RegR E μ own nx d f nt ops done (i :: chain) (i :: l) tm tmps)
    (hdst : dstOk ((ops[i]?).bind (·.dst)) nt = true) {v : SV} {x : Value} (hv : VR μ v x) :
    RegR E μ own nx d f nt ops (i :: done) chain l (putS tm ((ops[i]?).bind (·.dst)) v) (Act.put ⟨tmps, df⟩ ((ops[i]?).bind (·.dst)) x).tmps := by
  obtain ⟨_, hnd⟩ := k.notDone (i := i) (by simp)
  have hnl : i ∉ l := (List.nodup_cons.1 k.nodup).1
  obtain ⟨fn, hfn, hok⟩ := k.ok
  obtain ⟨hlink, hops⟩ := regOK_spec hok
  have hic : i ∈ chainOf E ops := by
    have h1 : i ∈ (chainOf E ops).filter (fun j => (i :: l).contains j) := by rw [← k.chain]; simp
    exact (List.mem_filter.1 h1).1
  obtain ⟨oi, hoi, hfi⟩ := chainOf_mem hic
  have hsize : (Act.put ⟨tmps, df⟩ ((ops[i]?).bind (·.dst)) x).tmps.size = tmps.size := by
    cases (ops[i]?).bind (·.dst) <;> simp [Act.put]
  have hget : ∀ t, (ops[i]?).bind (·.dst) ≠ some t → (Act.put ⟨tmps, df⟩ ((ops[i]?).bind (·.dst)) x).tmps.getD t undef = tmps.getD t undef ∧ ((putS tm ((ops[i]?).bind (·.dst)) v).get t) = tm.get t := by
    intro t ht
    cases hd : (ops[i]?).bind (·.dst) with
    | none => exact ⟨rfl, rfl⟩
    | some dd =>
      rw [hd] at ht
      have hne : dd ≠ t := fun e => ht (by rw [e])
      refine ⟨?_, ?_⟩
      · simp only [Act.put, Array.getD_eq_getD_getElem?, Array.getElem?_setIfInBounds_ne hne]
      · simp only [putS, T.get_set]; rw [if_neg (Ne.symm hne)]
  refine ⟨k.ok, by rw [hsize]; exact k.size, k.dsts, (List.nodup_cons.1 k.nodup).2, fun j hj => k.lt j (by simp [hj]), k.topo.2, ?_, ?_, ?_, ?_, ?_, ?_⟩
  · intro j o hj hjl p hp hpl
    by_cases e : j = i
    · subst e; exact k.topo.1 o hj p hp (by simp [hpl])
    · exact k.down j o hj (by simp [e, hjl]) p hp (by simp [hpl])
  · have h1 := k.chain
    have hnodup := List.Pairwise.filter (fun j => (i :: l).contains j) (chainOf_nodup (E := E) ops)
    rw [← h1] at hnodup
    have h2 : (chainOf E ops).filter (fun j => l.contains j) = ((chainOf E ops).filter (fun j => (i :: l).contains j)).filter (fun j => decide (j ≠ i)) := by
      rw [List.filter_filter]
      apply List.filter_congr
      intro j _
      by_cases e : j = i
      · subst e; simp [hnl]
      · simp [e]
    rw [h2, ← h1, List.filter_cons_of_neg (by simp)]
    rw [List.filter_eq_self.2]
    intro j hj
    simp only [decide_eq_true_eq]
    rintro rfl
    exact (List.nodup_cons.1 hnodup).1 hj
  · intro j hj hjl
    by_cases e : j = i
    · simp [e]
    · exact List.mem_cons_of_mem _ (k.done1 j hj (by simp [e, hjl]))
  · intro j hjl hjd
    have hne : j ≠ i := fun e => hnl (e ▸ hjl)
    exact k.done2 j (by simp [hjl]) (by simpa [hne] using hjd)
  · intro t ht
    by_cases e : (ops[i]?).bind (·.dst) = some t
    · rw [e] at hdst ⊢
      have hlt := dstOk_spec hdst
      simp only [putS, T.get_set, if_true, Option.getD_some, Act.put]
      have : t < tmps.size := by rw [k.size]; exact hlt
      simp [this, hv]
    · obtain ⟨e1, e2⟩ := hget t e
      rw [e1, e2]
      refine k.vals t fun j o hjl hjd hjo => ?_
      have hne : j ≠ i := fun e => hnd (e ▸ hjd)
      exact ht j o (by simpa [hne] using hjl) (by simp [hjd]) hjo
  · intro j o dd b hjl hjd hjo hal hdd hb
    have hne : j ≠ i := fun e => hnl (e ▸ hjl)
    have hjd' : j ∈ done := by simpa [hne] using hjd
    have hdi : (ops[i]?).bind (·.dst) ≠ some dd := by
      rw [hoi]
      simp only [Option.bind_some]
      exact ((hops j o hjo).dst dd hdd).2 i oi hoi (Ne.symm hne)
    rw [(hget dd hdi).2] at hb
    exact k.pend j o dd b (by simp [hjl]) hjd' hjo hal hdd hb

theorem FrameR.finish {sf sf' : SFrame} {fr : Frame} (F : FrameR E μ own nx d true sf fr) {v : SV} {x : Value} (e : sf.finish v = some sf') (hv : VR μ v x) : FrameR E μ own nx d false sf' (fr.finish x) := by
  unfold SFrame.finish at e
  have hmode := F.mode
  split at e
  · rename_i ops i rest k hm ht
    simp only at e
    split at e
    · rename_i hd
      cases e
      rw [hm] at hmode
      obtain ⟨h1, h2⟩ := hmode
      rcases h2 with ⟨h3, h4⟩ | ⟨_, _, _, _, _, _, h3, _⟩
      · rw [ht] at h4
        simp only [ItemsR, ItemR] at h4
        obtain ⟨_, k', e1, rfl, h5⟩ := h4
        have hfin : fr.finish x = { fr with tmps := (Act.put ⟨fr.tmps, []⟩ ((ops[i]?).bind (·.dst)) x).tmps, todo := .inRegion ops rest :: k' } := by
          simp only [Frame.finish, e1]
          cases (ops[i]?).bind (·.dst) <;> rfl
        rw [hfin]
        exact ⟨F.fn, F.kind, F.round, F.defers, by rw [show ({ sf with tmps := putS sf.tmps ((ops[i]?).bind (·.dst)) v, todo := .inReg ops rest :: k } : SFrame).mode = .run from hm]; exact ⟨h1, .inl ⟨h3.put hd hv, by simp only [ItemsR, ItemR]; exact ⟨_, _, rfl, rfl, h5⟩⟩⟩⟩
      · rw [ht] at h3; cases h3
    · cases e
  · rename_i ops done i rest k hm ht
    simp only at e
    split at e
    · rename_i hd
      cases e
      rw [hm] at hmode
      obtain ⟨h1, h2⟩ := hmode
      rcases h2 with ⟨h3, h4⟩ | ⟨ops', done', chain', k2, l, k', h3, h4, h5, h6, h7⟩
      · rw [ht] at h4
        simp only [ItemsR, ItemR] at h4
        obtain ⟨_, _, _, h5, _⟩ := h4
        exact h5.elim
      · rw [ht] at h3
        cases h3
        obtain ⟨i', l', c', rfl, e2⟩ := h7 rfl
        cases e2
        have hfin : fr.finish x = { fr with tmps := (Act.put ⟨fr.tmps, []⟩ ((ops[i]?).bind (·.dst)) x).tmps, todo := .inRegion ops l' :: k' } := by
          simp only [Frame.finish, h4]
          cases (ops[i]?).bind (·.dst) <;> rfl
        rw [hfin]
        refine ⟨F.fn, F.kind, F.round, F.defers, ?_⟩
        rw [show ({ sf with tmps := putS sf.tmps ((ops[i]?).bind (·.dst)) v, todo := .inRegD ops (i :: done) rest :: k } : SFrame).mode = .run from hm]
        exact ⟨h1, .inr ⟨ops, i :: done, rest, k, l', k', rfl, rfl, h5, h6.finish hd hv, fun e => by cases e⟩⟩
    · cases e
  · rename_i l k hm ht
    cases e
    rw [hm] at hmode
    obtain ⟨h1, h2⟩ := hmode
    rcases h2 with ⟨h3, h4⟩ | ⟨_, _, _, _, _, _, h3, _⟩
    · rw [ht] at h4
      simp only [ItemsR, ItemR] at h4
      obtain ⟨_, k', e1, ⟨y, hy, rfl⟩, h5⟩ := h4
      have hfin : fr.finish x = { fr with todo := .endRangeFunc y.r :: k' } := by simp only [Frame.finish, e1]
      rw [hfin]
      exact ⟨F.fn, F.kind, F.round, F.defers, by rw [show ({ sf with todo := .endRangeFunc l :: k } : SFrame).mode = .run from hm]; exact ⟨h1, .inl ⟨h3, by simp only [ItemsR, ItemR]; exact ⟨_, _, rfl, ⟨y, hy, rfl⟩, h5⟩⟩⟩⟩
    · rw [ht] at h3; cases h3
  · cases e

theorem TopR.ret {susp : Bool} {sf : SFrame} {fr : Frame} (h : TopR E μ own nx d susp sf fr) : RetR E μ sf fr := by
  intro fn hf t ht
  rcases h with ⟨h1, _⟩ | ⟨ops, done, chain, k, l, k', _, _, _, h4, _⟩
  · exact h1.2 t
  · refine h4.vals t fun j o hjl hjd hjo hd => ?_
    obtain ⟨o', ho', hfree⟩ := h4.done2 j hjl hjd
    rw [hjo] at ho'; cases ho'
    obtain ⟨fn', hf', hok⟩ := h4.ok
    rw [hf] at hf'; cases hf'
    exact (((regOK_spec hok).2 j o hjo).dst t hd).1 hfree ht

theorem FrameR.raise {susp susp' : Bool} {sf : SFrame} {fr : Frame} (F : FrameR E μ own nx d susp sf fr) {ch : List SEntry} {ch' : List PanicEntry} (hc : ChainR μ ch ch') :
    FrameR E μ own nx d susp' (sf.raise ch) (fr.raise ch') := by
  have hmode := F.mode
  unfold SFrame.raise Frame.raise
  cases hm : sf.mode with
  | run =>
    rw [hm] at hmode
    obtain ⟨h1, h2⟩ := hmode
    rw [h1]
    exact ⟨F.fn, F.kind, F.round, F.defers, ⟨ch', rfl, hc, h2.ret⟩⟩
  | returning =>
    rw [hm] at hmode
    obtain ⟨h1, h2⟩ := hmode
    rw [h1]
    exact ⟨F.fn, F.kind, F.round, F.defers, ⟨ch', rfl, hc, h2⟩⟩
  | panicking c =>
    rw [hm] at hmode
    obtain ⟨c', h1, h2, h3⟩ := hmode
    rw [h1]
    exact ⟨F.fn, F.kind, F.round, F.defers, ⟨ch' ++ c', rfl, hc.append h2, h3⟩⟩
end
end Go.Sh

namespace Go.Sh
open Go.RowKit
variable [Syms]
section
variable {P : Program} {E : Env} {μ : Mu} {own : Own} {nx d : Nat}

/-! ### masks -/
theorem masksGo_old : ∀ (r : List Oper) (acc : List Nat) (k : Nat), k < acc.length → (masksGo r acc).getD k 0 = acc.getD k 0
  | [], _, _, _ => rfl
  | o :: r, acc, k, h => by
    simp only [masksGo]
    rw [masksGo_old r _ k (by simp; omega)]
    simp [List.getD_eq_getElem?_getD, List.getElem?_append_left h]

theorem maskOf_bit (acc : List Nat) (i : Nat) : ∀ ps : List Nat, (maskOf acc ps).testBit i = true → i ∈ ps ∨ ∃ p ∈ ps, p < acc.length ∧ (acc.getD p 0).testBit i = true
  | [], h => by simp [maskOf] at h
  | p :: ps, h => by
    simp only [maskOf, Nat.testBit_or, Bool.or_eq_true] at h
    rcases h with (h | h) | h
    · rw [Nat.testBit_two_pow] at h
      left; simp at h; simp [h]
    · right
      refine ⟨p, by simp, ?_, h⟩
      by_cases hp : p < acc.length
      · exact hp
      · exfalso; simp [List.getD_eq_getElem?_getD, List.getElem?_eq_none (Nat.le_of_not_lt hp)] at h
    · rcases maskOf_bit acc i ps h with h | ⟨q, hq, h1, h2⟩
      · left; simp [h]
      · right; exact ⟨q, by simp [hq], h1, h2⟩

theorem masksGo_bit : ∀ (r : List Oper) (acc : List Nat) (j : Nat) (o : Oper) (i : Nat), r[j]? = some o → ((masksGo r acc).getD (acc.length + j) 0).testBit i = true →
    i ∈ preds o ∨ ∃ p ∈ preds o, ((masksGo r acc).getD p 0).testBit i = true
  | [], _, _, _, _, h, _ => by simp at h
  | q :: r, acc, 0, o, i, h, hb => by
    simp only [List.getElem?_cons_zero, Option.some.injEq] at h
    subst h
    simp only [masksGo, Nat.add_zero] at hb ⊢
    rw [masksGo_old r _ _ (by simp)] at hb
    have e : (acc ++ [maskOf acc (preds q)]).getD acc.length 0 = maskOf acc (preds q) := by simp [List.getD_eq_getElem?_getD]
    rw [e] at hb
    rcases maskOf_bit acc i _ hb with h | ⟨p, hp, h1, h2⟩
    · exact .inl h
    · refine .inr ⟨p, hp, ?_⟩
      rw [masksGo_old r _ _ (by simp; omega)]
      simpa [List.getD_eq_getElem?_getD, List.getElem?_append_left h1] using h2
  | q :: r, acc, j + 1, o, i, h, hb => by
    simp only [List.getElem?_cons_succ] at h
    simp only [masksGo] at hb ⊢
    refine masksGo_bit r _ j o i h ?_
    simpa [Nat.add_assoc, Nat.add_comm 1 j] using hb

theorem stands_spec {ops : Array Oper} {i j : Nat} {o : Oper} (ho : ops[j]? = some o) (h : stands (masks ops) i j = true) : i ∈ preds o ∨ ∃ p ∈ preds o, stands (masks ops) i p = true := by
  unfold stands masks at *
  exact masksGo_bit ops.toList [] j o i (by simpa using ho) (by simpa using h)

theorem lt_of_get {ops : Array Oper} {i : Nat} {o : Oper} (h : ops[i]? = some o) : i < ops.size := by
  rcases Nat.lt_or_ge i ops.size with h' | h'
  · exact h'
  · simp [Array.getElem?_eq_none h'] at h

section reg
variable {f : FuncId} {nt : Nat} {ops : Array Oper} {done chain l : List Nat} {tm : T SV} {tmps : Array Value}

/-- What an operation stands behind is done, where its own edges' ends are. -/
theorem RegR.behind (k : RegR E μ own nx d f nt ops done chain l tm tmps) : ∀ (j : Nat) (o : Oper), ops[j]? = some o → (∀ p ∈ preds o, p ∉ l) → ∀ i, stands (masks ops) i j = true → i ∉ l := by
  obtain ⟨fn, _, hok⟩ := k.ok
  obtain ⟨_, hops⟩ := regOK_spec hok
  intro j
  induction j using Nat.strongRecOn with
  | ind j ih =>
    intro o ho hp i hs
    rcases stands_spec ho hs with h | ⟨p, hpp, h⟩
    · exact hp i h
    · have hlt := (hops j o ho).preds p hpp
      have hsz := lt_of_get ho
      have hop : ops[p]? = some (ops[p]'(by omega)) := Array.getElem?_eq_getElem _
      exact ih p hlt _ hop (k.down p _ hop (hp p hpp)) i h

theorem RegR.ready (k : RegR E μ own nx d f nt ops done chain l tm tmps) {i : Nat} {r : List Nat} (e : l = i :: r) {o : Oper} (ho : ops[i]? = some o) : ∀ p ∈ preds o, p ∉ l := by
  have := k.topo
  rw [e] at this ⊢
  exact this.1 o ho

/-- The chain's head is the effect that is ready. -/
theorem RegR.head (k : RegR E μ own nx d f nt ops done chain l tm tmps) {i : Nat} {r : List Nat} (e : l = i :: r) {o : Oper} (ho : ops[i]? = some o) (hf : isFree E o.op = false) : ∃ c, chain = i :: c := by
  obtain ⟨fn, _, hok⟩ := k.ok
  obtain ⟨hlink, _⟩ := regOK_spec hok
  have hic : i ∈ chainOf E ops := by
    unfold chainOf
    rw [List.mem_filter, List.mem_range]
    exact ⟨lt_of_get ho, by simp [ho, hf]⟩
  have key : ∀ L : List Nat, linked (masks ops) L = true → (∀ x ∈ L, ∃ o, ops[x]? = some o) → ∀ xs ys, L = xs ++ i :: ys → ∀ x ∈ xs, x ∉ l := by
    intro L
    induction L with
    | nil => intro _ _ xs ys h; simp at h
    | cons a L ih =>
      intro hl hL xs ys h x hx
      cases xs with
      | nil => cases hx
      | cons b xs =>
        simp only [List.cons_append, List.cons.injEq] at h
        obtain ⟨rfl, rfl⟩ := h
        have hl2 : linked (masks ops) (xs ++ i :: ys) = true := by
          cases hxs : xs ++ i :: ys with
          | nil => simp [linked]
          | cons c cs => rw [hxs] at hl; simp only [linked, Bool.and_eq_true] at hl; exact hl.2
        have ih' := ih hl2 (fun x hx => hL x (List.mem_cons_of_mem _ hx)) xs ys rfl
        rcases List.mem_cons.1 hx with rfl | hx
        · -- the head: it stands ahead of the next
          cases xs with
          | nil =>
            simp only [List.nil_append, linked, Bool.and_eq_true] at hl
            exact k.behind i o ho (k.ready e ho) _ hl.1
          | cons c xs =>
            simp only [List.cons_append, linked, Bool.and_eq_true] at hl
            obtain ⟨oc, hoc⟩ := hL c (by simp)
            exact k.behind c oc hoc (k.down c oc hoc (ih' c (by simp))) _ hl.1
        · exact ih' x hx
  obtain ⟨xs, ys, hL⟩ := List.append_of_mem hic
  have h1 := key _ hlink (fun x hx => let ⟨o, ho, _⟩ := chainOf_mem hx; ⟨o, ho⟩) xs ys hL
  refine ⟨ys.filter (fun j => l.contains j), ?_⟩
  rw [k.chain, hL, List.filter_append, List.filter_cons_of_pos (by simp [e]), List.filter_eq_nil_iff.2 (fun a ha => by simpa using h1 a ha), List.nil_append]

/-- What an operation that is ready looks at is as the shadow has it. -/
theorem RegR.look (k : RegR E μ own nx d f nt ops done chain l tm tmps) {i : Nat} {o : Oper} (ho : ops[i]? = some o) (hp : ∀ p ∈ preds o, p ∉ l) {u : Nat} (hu : u ∈ looksAt ops o) :
    VR μ ((tm.get u).getD undefS) (tmps.getD u undef) := by
  obtain ⟨fn, _, hok⟩ := k.ok
  obtain ⟨_, hops⟩ := regOK_spec hok
  refine k.vals u fun j oj hjl hjd hoj hd => ?_
  rcases (hops i o ho).looks u hu j oj hoj hd with h | ⟨h, _⟩
  · exact k.behind i o ho hp j h hjl
  · obtain ⟨oj', hoj', hf⟩ := k.done2 j hjl hjd
    rw [hoj] at hoj'; cases hoj'
    rw [h] at hf; cases hf

theorem evalS_R {x : Operand} (h : ∀ t, x = .tmp t → VR μ ((tm.get t).getD undefS) (tmps.getD t undef)) {df : List Deferred} : VR μ (evalS tm x) ((Act.mk tmps df).eval x) := by
  cases x with
  | tmp t => exact h t rfl
  | const v => exact VR.ofValue μ v
  | global g => simp only [evalS, VR]; rfl
  | func f => simp only [evalS, VR]; exact ⟨.func f, #[], #[], rfl, rfl, by simp [VRs], by simp [VRs]⟩

theorem looks_op {o : Oper} {t : Nat} (h : Operand.tmp t ∈ o.op.operands) : t ∈ looksAt ops o := by
  unfold looksAt
  rw [List.mem_append, List.mem_filterMap]
  exact .inl ⟨.tmp t, by simpa using h, rfl⟩

theorem RegR.operands (k : RegR E μ own nx d f nt ops done chain l tm tmps) {i : Nat} {o : Oper} (ho : ops[i]? = some o) (hp : ∀ p ∈ preds o, p ∉ l) (df : List Deferred) :
    ∀ x ∈ o.op.operands, VR μ (evalS tm x) ((Act.mk tmps df).eval x) := fun x hx =>
  evalS_R fun t e => k.look ho hp (looks_op (e ▸ hx))

/-- An operation's guard. -/
theorem wanted_sound {o : Oper} {b : Bool} (h : wantedS ops o tm = some b) (hv : ∀ g w t, o.guard = some (g, w) → (ops[g]?).bind (·.dst) = some t → VR μ ((tm.get t).getD undefS) (tmps.getD t undef)) :
    Region.wanted o (yielded ops tmps) = b := by
  unfold wantedS at h
  unfold Region.wanted
  cases hg : o.guard with
  | none => simpa [hg] using h
  | some gw =>
    obtain ⟨g, w⟩ := gw
    simp only [hg] at h ⊢
    cases hd : (ops[g]?).bind (·.dst) with
    | none =>
      simp only [hd, Option.some.injEq] at h
      subst h
      simp [yielded, hd]
    | some t =>
      have hvt := hv g w t hg hd
      simp only [hd] at h
      cases ht : tm.get t with
      | none =>
        simp only [ht, Option.some.injEq] at h
        subst h
        rw [ht] at hvt
        simp only [Option.getD_none, undefS, VR] at hvt
        obtain ⟨a, e, ha⟩ := hvt
        simp only [Array.getD_eq_getD_getElem?] at e
        cases hx : tmps[t]? with
        | none => simp [yielded, hd, hx]
        | some v => rw [hx] at e; simp only [Option.getD_some] at e; subst e; simp [yielded, hd, hx]
      | some s =>
        rw [ht] at hvt
        simp only [Option.getD_some, Array.getD_eq_getD_getElem?] at hvt
        simp only [ht] at h
        cases hx : tmps[t]? with
        | none =>
          rw [hx] at hvt
          simp only [Option.getD_none] at hvt
          cases s <;> simp only [VR, Go.undef] at hvt <;> simp only [Option.some.injEq, reduceCtorEq] at h <;> first
            | (cases hvt; done)
            | (subst h; simp [yielded, hd, hx]; done)
            | skip
        | some v =>
          rw [hx] at hvt
          simp only [Option.getD_some] at hvt
          cases s <;> simp only [VR] at hvt <;> simp only [Option.some.injEq, reduceCtorEq] at h <;> first
            | (subst hvt; subst h; simp [yielded, hd, hx])
            | (obtain ⟨_, rfl, _⟩ := hvt; subst h; simp [yielded, hd, hx])
            | (obtain ⟨_, _, rfl⟩ := hvt; subst h; simp [yielded, hd, hx])
            | (obtain ⟨_, _, _, _, rfl, _⟩ := hvt; subst h; simp [yielded, hd, hx])
            | (obtain ⟨_, _, _, rfl, _⟩ := hvt; subst h; simp [yielded, hd, hx])
            | skip
end reg
end
end Go.Sh

namespace Go.Sh
open Go.RowKit
variable [Syms]
section
variable {E : Env} {ops : Array Oper}

theorem preds_all {o : Oper} {listed : Array Bool} : (o.after.all fun e => !Region.binds .any e || listed.getD e.on false) = true ↔ ∀ p ∈ preds o, listed.getD p false = true := by
  rw [← Array.all_toList, List.all_eq_true]
  unfold preds
  constructor
  · intro h p hp
    rw [List.mem_map] at hp
    obtain ⟨e, he, rfl⟩ := hp
    rw [List.mem_filter] at he
    have := h e he.1
    rw [he.2] at this
    simpa using this
  · intro h e he
    by_cases hb : Region.binds .any e = true
    · rw [h e.on (List.mem_map.2 ⟨e, List.mem_filter.2 ⟨he, hb⟩, rfl⟩)]; simp
    · simp only [Bool.not_eq_true] at hb; rw [hb]; rfl

theorem ready_mem {listed : Array Bool} {i : Nat} : i ∈ Region.ready .any ops listed ↔ i < ops.size ∧ listed.getD i true = false ∧ ∃ o, ops[i]? = some o ∧ ∀ p ∈ preds o, listed.getD p false = true := by
  unfold Region.ready
  rw [List.mem_filter, List.mem_range]
  constructor
  · rintro ⟨h1, h2⟩
    simp only [Bool.and_eq_true, Bool.not_eq_true'] at h2
    refine ⟨h1, h2.1, ?_⟩
    cases ho : ops[i]? with
    | none => simp [ho] at h2
    | some o => rw [ho] at h2; exact ⟨o, rfl, preds_all.1 (by simpa using h2.2)⟩
  · rintro ⟨h1, h2, o, ho, hp⟩
    refine ⟨h1, ?_⟩
    simp only [Bool.and_eq_true, Bool.not_eq_true', ho, Option.map_some, Option.getD_some]
    exact ⟨h2, preds_all.2 hp⟩

def unl (ops : Array Oper) (listed : Array Bool) : List Nat := (List.range ops.size).filter fun i => !listed.getD i true

theorem getD_set {listed : Array Bool} {i k : Nat} {b : Bool} (hi : i < listed.size) : (listed.setIfInBounds i true).getD k b = if k = i then true else listed.getD k b := by
  simp only [Array.getD_eq_getD_getElem?]
  by_cases e : k = i
  · subst e; simp [hi]
  · rw [Array.getElem?_setIfInBounds_ne (Ne.symm e), if_neg e]

theorem getD_both {listed : Array Bool} {k : Nat} (h : k < listed.size) (b c : Bool) : listed.getD k b = listed.getD k c := by
  simp [Array.getD_eq_getD_getElem?, h]

theorem go_spec (hpred : ∀ j o, ops[j]? = some o → ∀ p ∈ preds o, p < j) : ∀ (fuel t : Nat) (listed : Array Bool), listed.size = ops.size → (unl ops listed).length ≤ fuel →
    (∀ x ∈ Region.linearise.go .any ops fuel t listed [], x < ops.size ∧ listed.getD x true = false) ∧ (Region.linearise.go .any ops fuel t listed []).Nodup ∧
    Topo ops (Region.linearise.go .any ops fuel t listed []) ∧ ∀ x, x < ops.size → listed.getD x true = false → x ∈ Region.linearise.go .any ops fuel t listed [] := by
  intro fuel
  induction fuel with
  | zero =>
    intro t listed hs hl
    simp only [Region.linearise.go, List.reverse_nil, List.not_mem_nil, false_imp_iff, implies_true, List.nodup_nil, Topo, true_and]
    intro x hx hlx
    have : x ∈ unl ops listed := by unfold unl; rw [List.mem_filter, List.mem_range]; exact ⟨hx, by simp [hlx]⟩
    rw [List.eq_nil_of_length_eq_zero (Nat.le_zero.1 hl)] at this
    cases this
  | succ fuel ih =>
    intro t listed hs hl
    simp only [Region.linearise.go]
    have key : (match (Region.ready .any ops listed)[t % (Region.ready .any ops listed).length]? with
      | some i => Region.linearise.go .any ops fuel (t / (Region.ready .any ops listed).length) (listed.setIfInBounds i true) [i]
      | none => [].reverse) = (match (Region.ready .any ops listed)[t % (Region.ready .any ops listed).length]? with
      | some i => i :: Region.linearise.go .any ops fuel (t / (Region.ready .any ops listed).length) (listed.setIfInBounds i true) []
      | none => []) := by
      split
      · rw [linearise_go_acc]; rfl
      · rfl
    change (∀ x ∈ (match (Region.ready .any ops listed)[t % (Region.ready .any ops listed).length]? with
      | some i => Region.linearise.go .any ops fuel (t / (Region.ready .any ops listed).length) (listed.setIfInBounds i true) [i]
      | none => [].reverse), _) ∧ List.Nodup (match (Region.ready .any ops listed)[t % (Region.ready .any ops listed).length]? with
      | some i => Region.linearise.go .any ops fuel (t / (Region.ready .any ops listed).length) (listed.setIfInBounds i true) [i]
      | none => [].reverse) ∧ Topo ops (match (Region.ready .any ops listed)[t % (Region.ready .any ops listed).length]? with
      | some i => Region.linearise.go .any ops fuel (t / (Region.ready .any ops listed).length) (listed.setIfInBounds i true) [i]
      | none => [].reverse) ∧ ∀ x, x < ops.size → listed.getD x true = false → x ∈ (match (Region.ready .any ops listed)[t % (Region.ready .any ops listed).length]? with
      | some i => Region.linearise.go .any ops fuel (t / (Region.ready .any ops listed).length) (listed.setIfInBounds i true) [i]
      | none => [].reverse)
    rw [key]
    cases hi : (Region.ready .any ops listed)[t % (Region.ready .any ops listed).length]? with
    | none =>
      have hnil : Region.ready .any ops listed = [] := by
        cases hr : Region.ready .any ops listed with
        | nil => rfl
        | cons x xs =>
          rw [hr] at hi
          have hlt : t % (x :: xs).length < (x :: xs).length := Nat.mod_lt _ (by simp)
          simp at hi
          simp at hlt
          omega
      simp only [List.not_mem_nil, false_imp_iff, implies_true, List.nodup_nil, Topo, true_and]
      intro x hx hlx
      exfalso
      have all : ∀ x, x < ops.size → listed.getD x true = true := by
        intro x
        induction x using Nat.strongRecOn with
        | ind x ihx =>
          intro hx
          cases hb : listed.getD x true with
          | true => rfl
          | false =>
            have hox : ops[x]? = some ops[x] := Array.getElem?_eq_getElem _
            have : x ∈ Region.ready .any ops listed := ready_mem.2 ⟨hx, hb, _, hox, fun p hp => by
              have hpx := hpred x _ hox p hp
              rw [getD_both (by omega) false true]
              exact ihx p hpx (by omega)⟩
            rw [hnil] at this; cases this
      rw [all x hx] at hlx; cases hlx
    | some i =>
      obtain ⟨hisz, hil, o, ho, hp⟩ := ready_mem.1 (List.mem_of_getElem? hi)
      have hil' : i < listed.size := by omega
      have hlen : (unl ops (listed.setIfInBounds i true)).length ≤ fuel := by
        have e : unl ops (listed.setIfInBounds i true) = (unl ops listed).filter fun x => decide (x ≠ i) := by
          unfold unl
          rw [List.filter_filter]
          apply List.filter_congr
          intro x _
          rw [getD_set hil']
          by_cases e : x = i <;> simp [e]
        rw [e]
        have : ((unl ops listed).filter fun x => decide (x ≠ i)).length < (unl ops listed).length := by
          rw [List.length_filter_lt_length_iff_exists]
          exact ⟨i, by unfold unl; rw [List.mem_filter, List.mem_range]; exact ⟨hisz, by simp [hil]⟩, by simp⟩
        omega
      obtain ⟨h1, h2, h3, h4⟩ := ih (t / (Region.ready .any ops listed).length) (listed.setIfInBounds i true) (by simpa using hs) hlen
      simp only
      refine ⟨fun x hx => ?_, List.nodup_cons.2 ⟨fun hx => ?_, h2⟩, ⟨fun o' ho' p hpp hpm => ?_, h3⟩, fun x hx hlx => ?_⟩
      · rcases List.mem_cons.1 hx with rfl | hx
        · exact ⟨hisz, hil⟩
        · obtain ⟨hx1, hx2⟩ := h1 x hx
          rw [getD_set hil'] at hx2
          split at hx2
          · cases hx2
          · exact ⟨hx1, hx2⟩
      · obtain ⟨_, hx2⟩ := h1 i hx
        rw [getD_set hil', if_pos rfl] at hx2
        cases hx2
      · rw [ho] at ho'; cases ho'
        have hpl := hp p hpp
        have hplt := hpred i o ho p hpp
        rcases List.mem_cons.1 hpm with rfl | hpm
        · omega
        · obtain ⟨_, hx2⟩ := h1 p hpm
          rw [getD_set hil', if_neg (by omega), getD_both (by omega) true false, hpl] at hx2
          cases hx2
      · by_cases e : x = i
        · simp [e]
        · refine List.mem_cons_of_mem _ (h4 x hx ?_)
          rw [getD_set hil', if_neg e]; exact hlx

/-- Every order that is drawn. -/
theorem schedule_spec {rets : List Tmp} (hok : regOK E ops rets = true) (t : Nat) :
    (∀ x ∈ Region.schedule true ops t, x < ops.size) ∧ (Region.schedule true ops t).Nodup ∧ Topo ops (Region.schedule true ops t) ∧ ∀ x, x < ops.size → x ∈ Region.schedule true ops t := by
  obtain ⟨_, hops⟩ := regOK_spec hok
  have hun : (unl ops (Array.replicate ops.size false)).length ≤ ops.size := by
    unfold unl
    have := List.length_filter_le (fun i => !(Array.replicate ops.size false).getD i true) (List.range ops.size)
    simpa using this
  obtain ⟨h1, h2, h3, h4⟩ := go_spec (fun j o ho => (hops j o ho).preds) ops.size t (Array.replicate ops.size false) (by simp) hun
  have e : Region.schedule true ops t = Region.linearise.go .any ops ops.size t (Array.replicate ops.size false) [] := by
    simp [Region.schedule, Region.linearise]
  rw [e]
  refine ⟨fun x hx => (h1 x hx).1, h2, h3, fun x hx => h4 x hx ?_⟩
  simp [Array.getD_eq_getD_getElem?, hx]

/-- A region that draws its order, as it is entered. -/
theorem RegR.enter {μ : Mu} {own : Own} {nx d : Nat} {f : FuncId} {fn : Func} {nt : Nat} {tm : T SV} {tmps : Array Value} (hf : E.fn f = some fn) (hok : regOK E ops (retTmps fn) = true) (hd : ∀ (i : Nat) o, ops[i]? = some o → dstOk o.dst nt = true) (ht : TmR μ nt tm tmps) (t : Nat) :
    RegR E μ own nx d f nt ops [] (chainOf E ops) (Region.schedule true ops t) tm tmps := by
  obtain ⟨h1, h2, h3, h4⟩ := schedule_spec hok t
  refine ⟨⟨fn, hf, hok⟩, ht.1, hd, h2, h1, h3, ?_, ?_, ?_, ?_, ?_, ?_⟩
  · intro i o ho hi; exact absurd (h4 i (lt_of_get ho)) hi
  · rw [List.filter_eq_self.2]
    intro i hi
    obtain ⟨o, ho, _⟩ := chainOf_mem hi
    simpa using h4 i (lt_of_get ho)
  · intro i hi hn; exact absurd (h4 i hi) hn
  · intro i _ hi; cases hi
  · intro t _; exact ht.2 t
  · intro j o dd b _ hj; cases hj
end
end Go.Sh

namespace Go.Sh
open Go.RowKit
variable [Syms]
section
variable {E : Env} {h : Hp}

def OR.Calm (h : Hp) : OR → Prop
  | .val _ h' => h' = h
  | .fork _ => False
  | .enter _ _ => False
  | .round _ _ => False
  | _ => True

theorem calm_ov (o : Option SV) (m : String) : OR.Calm h (ov o h m) := by unfold ov; split <;> trivial
theorem calm_scalar (s : Sem Value) : OR.Calm h (scalarOf s h) := by unfold scalarOf; split <;> trivial
theorem calm_err (m : String) : OR.Calm h (errS E m) := trivial
theorem calm_nil : OR.Calm h (nilDerefS E) := trivial
theorem calm_bounds (x y : Int) (c : BoundsCode) : OR.Calm h (boundsS E x y c) := trivial

theorem calm_intBin (op : BinOp) (k : IntKind) (a b : Int) : OR.Calm h (intBin E op k a b h) := by
  unfold intBin
  repeat' split
  all_goals first | trivial | exact calm_scalar _

theorem calm_linS (c : Int) (l : List (Nat × Int)) : OR.Calm h (linS c l h) := by
  unfold linS
  repeat' split
  all_goals trivial
theorem calm_cmpS (r : Cmp) (c : Int) (l : List (Nat × Int)) : OR.Calm h (cmpS r c l h) := by
  unfold cmpS
  repeat' split
  all_goals trivial
theorem calm_remS (c : Int) (l : List (Nat × Int)) (m : Int) : OR.Calm h (remS c l m h) := by
  unfold remS
  repeat' split
  all_goals trivial
theorem calm_sym (op : BinOp) (x y : SV) : OR.Calm h (symBin op x y h) := by
  unfold symBin symBin0 symInt symStr linBin
  repeat' split
  all_goals first | trivial | exact calm_linS _ _ | exact calm_cmpS _ _ _ | exact calm_remS _ _ _
theorem calm_minMaxL (b : Bool) (x y : SV) : OR.Calm h (minMaxL b x y h) := by
  unfold minMaxL
  repeat' split
  all_goals trivial

theorem calm_bin (op : BinOp) (t : TypeId) (lit : Bool) (x y : SV) : OR.Calm h (binS E op t lit x y h) := by
  unfold binS
  repeat' split
  all_goals first | trivial | exact calm_scalar _ | exact calm_intBin _ _ _ _ | exact calm_sym _ _ _ | exact calm_ov _ _

theorem calm_un (op : UnOp) (x : SV) : OR.Calm h (unS op x h) := by
  unfold unS
  repeat' split
  all_goals first | trivial | exact calm_scalar _

theorem calm_conv (s d : TypeId) (x : SV) : OR.Calm h (convS E s d x h) := by
  unfold convS
  repeat' split
  all_goals first | trivial | exact calm_scalar _

theorem calm_sbound {x : Option SV} {a b : Nat} {c : BoundsCode} {o : OR} (e : sbound E x a b c = .inl o) : OR.Calm h o := by
  unfold sbound at e
  repeat' split at e
  all_goals first | (cases e; trivial) | cases e

theorem calm_sbounds (lo hi : Option SV) (len m : Nat) (ch cl : BoundsCode) {k : Nat → Nat → OR} (hk : ∀ a b, OR.Calm h (k a b)) : OR.Calm h (sbounds E lo hi len m ch cl k) := by
  unfold sbounds
  split
  · rename_i o e; exact calm_sbound e
  · split
    · rename_i o e; exact calm_sbound e
    · exact hk _ _

theorem calm_slice (t : TypeId) (x : SV) (lo hi mx : Option SV) : OR.Calm h (sliceS E t x lo hi mx h) := by
  unfold sliceS
  repeat' split
  all_goals first | trivial | exact calm_sbounds _ _ _ _ _ _ (fun _ _ => trivial) | exact calm_sbounds _ _ _ _ _ _ (fun _ _ => rfl)

theorem calm_indexAddr (t : TypeId) (x i : SV) : OR.Calm h (indexAddrS E t x i h) := by
  unfold indexAddrS
  repeat' split
  all_goals trivial

theorem calm_index (t : TypeId) (x i : SV) : OR.Calm h (indexS E t x i h) := by
  unfold indexS
  repeat' split
  all_goals first | trivial | exact calm_ov _ _

theorem calm_lookup (t : TypeId) (m k : SV) (ok : Bool) : OR.Calm h (lookupS E t m k ok h) := by
  unfold lookupS
  simp only
  repeat' split
  all_goals trivial

theorem calm_entry (it : SV) : OR.Calm h (entryS it h) := by
  unfold entryS
  repeat' split
  all_goals trivial

theorem calm_fails (t : TypeId) (ok : Bool) : OR.Calm h (failsS E t ok h) := by
  unfold failsS
  repeat' split
  all_goals trivial

theorem calm_assert (x : SV) (t : TypeId) (ok : Bool) : OR.Calm h (typeAssertS E x t ok h) := by
  unfold typeAssertS
  simp only
  repeat' split
  all_goals first | trivial | exact calm_fails _ _

theorem calm_len (a : Array TypeId) (args : List SV) : OR.Calm h (lenS E a args h) := by
  unfold lenS
  repeat' split
  all_goals trivial

theorem calm_cap (a : Array TypeId) (args : List SV) : OR.Calm h (capS E a args h) := by
  unfold capS
  repeat' split
  all_goals trivial

theorem calm_minMax (b : Bool) (args : List SV) : OR.Calm h (minMaxOp b args h) := by
  unfold minMaxOp
  repeat' split
  all_goals first | trivial | exact calm_scalar _ | exact calm_ov _ _ | exact calm_minMaxL _ _ _

theorem exec_calm (tm : T SV) (o : Oper) (hc : isCalm E o.op = true) : OR.Calm h (execS E tm o h) := by
  obtain ⟨dst, op, type, pos, after, guard⟩ := o
  unfold isCalm at hc
  simp only at hc
  split at hc
  · -- convert
    rename_i s d x
    simp only [Bool.not_eq_true'] at hc
    simp only [execS, hc, Bool.false_eq_true, if_false]
    exact calm_conv _ _ _
  all_goals first
    | (simp only [execS]; first
      | exact calm_ov _ _ | exact calm_bin _ _ _ _ _ | exact calm_un _ _ | exact calm_slice _ _ _ _ _ | exact calm_indexAddr _ _ _ | exact calm_index _ _ _
      | exact calm_lookup _ _ _ _ | exact calm_entry _ | exact calm_assert _ _ _ | trivial | (repeat' split) <;> first | trivial | exact calm_ov _ _)
    | skip
  · -- calls
    rename_i c
    split at hc
    all_goals first
      | (rename_i hcal
         simp only [execS, resolveS, hcal, invokeS, builtinS]
         first | exact calm_len _ _ | exact calm_cap _ _ | exact calm_minMax _ _)
      | cases hc

theorem exec_alloc (tm : T SV) (o : Oper) (hc : isAlloc E o.op = true) : execS E tm o h = allocOp E tm o h := by
  obtain ⟨dst, op, type, pos, after, guard⟩ := o
  unfold isAlloc at hc
  simp only at hc
  split at hc
  all_goals first | rfl | skip
  · simp only [execS, hc, if_true]
  · cases hc
end
end Go.Sh

namespace Go.Sh
open Go.RowKit
variable [Syms]
section
variable {P : Program} {E : Env} {μ : Mu} {own : Own} {d : Nat} {f : FuncId} {nt : Nat} {ops : Array Oper} {done chain l : List Nat} {tm : T SV} {tmps : Array Value} {h : Hp} {w₀ w : World}

theorem get_put {dst : Option Tmp} {t : Nat} {v : SV} (hne : dst ≠ some t) : (putS tm dst v).get t = tm.get t := by
  cases dst with
  | none => rfl
  | some dd => simp only [putS, T.get_set]; rw [if_neg (fun e => hne (by rw [e]))]

theorem get_put' {t : Nat} {v : SV} : (putS tm (some t) v).get t = some v := by simp [putS, T.get_set]

def Closed (E : Env) (ops : Array Oper) (done : List Nat) (n : Nat) : Prop :=
  ∀ (k : Nat) (o : Oper), k < n → ops[k]? = some o → isFree E o.op = true → (∀ p ∈ preds o, p ∈ done) → k ∈ done

/-- One operation more is reckoned. -/
theorem RegR.wavePut {nx nx' : Nat} {own' : Own} (k : RegR E μ own nx d f nt ops done chain l tm tmps) {i : Nat} {o : Oper} (ho : ops[i]? = some o) (hf : isFree E o.op = true) (hi : i ∉ done) {v : SV}
    (hnx : nx ≤ nx') (hown : ∀ b, b < nx → own' b = own b)
    (hal : isAlloc E o.op = true → ∀ b, blockOf v = some b → own' b = some (d, i) ∧ μ b = none ∧ b < nx') :
    RegR E μ own' nx' d f nt ops (i :: done) chain l (putS tm o.dst v) tmps := by
  obtain ⟨fn, _, hok⟩ := k.ok
  obtain ⟨_, hops⟩ := regOK_spec hok
  have hil : i ∈ l := by
    by_cases hl : i ∈ l
    · exact hl
    · exact absurd (k.done1 i (lt_of_get ho) hl) hi
  refine ⟨k.ok, k.size, k.dsts, k.nodup, k.lt, k.topo, k.down, k.chain, fun j hj hjl => List.mem_cons_of_mem _ (k.done1 j hj hjl), ?_, ?_, ?_⟩
  · intro j hjl hjd
    rcases List.mem_cons.1 hjd with rfl | hjd
    · exact ⟨o, ho, hf⟩
    · exact k.done2 j hjl hjd
  · intro t ht
    rw [get_put (ht i o hil (by simp) ho)]
    exact k.vals t fun j oj hjl hjd hoj => ht j oj hjl (List.mem_cons_of_mem _ hjd) hoj
  · intro j oj dd b hjl hjd hoj haj hdj hb
    by_cases e : j = i
    · subst e
      rw [ho] at hoj; cases hoj
      rw [hdj, get_put', Option.getD_some] at hb
      exact hal haj b hb
    · have hjd' : j ∈ done := by simpa [e] using hjd
      rw [get_put (((hops j oj hoj).dst dd hdj).2 i o ho (Ne.symm e))] at hb
      obtain ⟨p1, p2, p3⟩ := k.pend j oj dd b hjl hjd' hoj haj hdj hb
      exact ⟨(hown b p3).trans p1, p2, Nat.lt_of_lt_of_le p3 hnx⟩

theorem allocS_block {o : Oper} {obj : SObj} {mk : Nat → SV} (e : allocS E tm o = some (obj, mk)) (n b : Nat) (hb : blockOf (mk n) = some b) : b = n := by
  unfold allocS at e
  repeat' split at e
  all_goals first | (cases e; done) | skip
  all_goals try simp only [Option.some.injEq, Prod.mk.injEq] at e
  all_goals first
    | (obtain ⟨_, rfl⟩ := e; simp only [blockOf, Option.some.injEq] at hb; exact hb.symm)
    | skip
  · rename_i el _
    cases hz : E.zero el with
    | none => simp [hz] at e
    | some z =>
      simp only [hz, Option.bind_some] at e
      split at e
      · simp only [Option.some.injEq, Prod.mk.injEq] at e
        obtain ⟨_, rfl⟩ := e; simp only [blockOf, Option.some.injEq] at hb; exact hb.symm
      · cases e
  · split at e
    · simp only [Option.some.injEq, Prod.mk.injEq] at e
      obtain ⟨_, rfl⟩ := e; simp only [blockOf, Option.some.injEq] at hb; exact hb.symm
    · cases e
  · rw [Option.map_eq_some_iff] at e
    obtain ⟨_, _, e⟩ := e
    simp only [Prod.mk.injEq] at e
    obtain ⟨_, rfl⟩ := e; simp only [blockOf, Option.some.injEq] at hb; exact hb.symm

theorem allocOp_val {o : Oper} {v : SV} {h' : Hp} (e : allocOp E tm o h = .val v h') : ∃ obj mk, allocS E tm o = some (obj, mk) ∧ v = mk h.nx ∧ h' = h.alloc obj := by
  unfold allocOp at e
  split at e
  · rename_i obj mk ha; cases e; exact ⟨obj, mk, ha, rfl, rfl⟩
  · cases e

theorem predsIn_spec {o : Oper} : predsIn o done = true ↔ ∀ p ∈ preds o, p ∈ done := by
  unfold predsIn
  rw [List.all_eq_true]
  constructor <;> intro h p hp <;> simpa using h p hp

theorem wave_sound : ∀ (n i : Nat) {own : Own} {done : List Nat} {tm : T SV} {h : Hp} {tm' : T SV} {h' : Hp} {done' : List Nat}, Rel μ h w₀ w → RegR E μ own h.nx d f nt ops done chain l tm tmps → Closed E ops done i → i + n = ops.size →
    waveS E ops nt (List.range' i n) tm h done = some (tm', h', done') →
    ∃ own', Rel μ h' w₀ w ∧ RegR E μ own' h'.nx d f nt ops done' chain l tm' tmps ∧ Closed E ops done' ops.size ∧ ∀ d', Ext μ own h.nx μ own' h'.nx d'
  | 0, i, own, done, tm, h, tm', h', done', R, k, hC, hin, e => by
    simp only [List.range'_zero, waveS, Option.some.injEq, Prod.mk.injEq] at e
    obtain ⟨rfl, rfl, rfl⟩ := e
    exact ⟨own, R, k, by rw [← hin]; exact hC, fun d' => Ext.refl _ _ _ _⟩
  | n + 1, i, own, done, tm, h, tm', h', done', R, k, hC, hin, e => by
    obtain ⟨fn, _, hok⟩ := k.ok
    obtain ⟨_, hops⟩ := regOK_spec hok
    simp only [List.range'_succ, waveS] at e
    have hi : i < ops.size := by omega
    have ho : ops[i]? = some ops[i] := Array.getElem?_eq_getElem _
    generalize hoi : ops[i] = o at ho
    rw [ho] at e
    simp only at e
    split at e
    · -- passed over
      rename_i hc
      refine wave_sound n (i + 1) R k ?_ (by omega) e
      intro x ox hx hox hfx hpx
      by_cases ex : x = i
      · subst ex
        rw [ho] at hox; cases hox
        simp only [Bool.or_eq_true, Bool.not_eq_true', hfx, Bool.true_eq_false, or_false] at hc
        rcases hc with hc | hc
        · simpa using hc
        · rw [predsIn_spec.2 hpx] at hc; cases hc
      · exact hC x ox (by omega) hox hfx hpx
    · rename_i hc
      simp only [Bool.or_eq_true, Bool.not_eq_true', not_or, Bool.not_eq_true, Bool.not_eq_false] at hc
      obtain ⟨⟨hnd, hf⟩, hp⟩ := hc
      have hnd' : i ∉ done := by simpa using hnd
      have hC' : Closed E ops (i :: done) (i + 1) := by
        intro x ox hx hox hfx hpx
        by_cases ex : x = i
        · simp [ex]
        · refine List.mem_cons_of_mem _ (hC x ox (by omega) hox hfx fun p hpp => ?_)
          have := (hops x ox hox).preds p hpp
          have h1 := hpx p hpp
          have h2 : p ≠ i := by omega
          simpa [h2] using h1
      split at e
      · cases e
      · split at e
        · -- it runs
          split at e
          · rename_i v h1 hex
            by_cases hal : isAlloc E o.op = true
            · rw [exec_alloc tm o hal] at hex
              obtain ⟨obj, mk, ha, rfl, rfl⟩ := allocOp_val hex
              have R' := R.pend obj
              have hnx : h.nx ≤ (h.alloc obj).nx := by simp [Hp.alloc]
              let own1 : Own := fun b => if b = h.nx then some (d, i) else own b
              have k' : RegR E μ own1 (h.alloc obj).nx d f nt ops (i :: done) chain l (putS tm o.dst (mk h.nx)) tmps := by
                refine k.wavePut ho hf hnd' hnx (fun b hb => ?_) fun _ b hb => ?_
                · show (if b = h.nx then _ else _) = _
                  rw [if_neg (by omega)]
                · have := allocS_block ha _ _ hb
                  subst this
                  refine ⟨?_, R.fresh, by simp [Hp.alloc]⟩
                  show (if h.nx = h.nx then _ else _) = _
                  rw [if_pos rfl]
              obtain ⟨own', R2, k2, hC2, X⟩ := wave_sound n (i + 1) R' k' hC' (by omega) e
              refine ⟨own', R2, k2, hC2, fun d' => Ext.trans ⟨Mu.le.refl μ, hnx, fun b hb => ?_, fun _ _ _ _ hm => hm⟩ (X d')⟩
              show (if b = h.nx then _ else _) = _
              rw [if_neg (by omega)]
            · have hcalm : isCalm E o.op = true := by
                unfold isFree at hf
                simp only [Bool.or_eq_true] at hf
                exact hf.resolve_right hal
              have := exec_calm (h := h) tm o hcalm
              rw [hex] at this
              simp only [OR.Calm] at this
              subst this
              exact wave_sound n (i + 1) R (k.wavePut ho hf hnd' (Nat.le_refl _) (fun _ _ => rfl) fun hc => absurd hc hal) hC' (by omega) e
          · cases e
        · exact wave_sound n (i + 1) R (k.wavePut ho hf hnd' (Nat.le_refl _) (fun _ _ => rfl) fun _ b hb => by simp [undefS, blockOf] at hb) hC' (by omega) e
        · cases e

/-! ### what is pending runs -/
theorem RegR.take {nx : Nat} {i : Nat} {r : List Nat} {μ' : Mu} {o : Oper} (k : RegR E μ own nx d f nt ops done chain (i :: r) tm tmps) (ho : ops[i]? = some o) (hf : isFree E o.op = true) (hd : i ∈ done) (hle : μ.le μ')
    (hkeep : ∀ b j, j ≠ i → own b = some (d, j) → μ b = none → μ' b = none) {x : Value} (hv : ∀ dd, o.dst = some dd → VR μ' ((tm.get dd).getD undefS) x) (df : List Deferred) :
    RegR E μ' own nx d f nt ops done chain r tm (Act.put ⟨tmps, df⟩ ((ops[i]?).bind (·.dst)) x).tmps := by
  have hnl : i ∉ r := (List.nodup_cons.1 k.nodup).1
  rw [ho, Option.bind_some]
  have hsize : (Act.put ⟨tmps, df⟩ o.dst x).tmps.size = tmps.size := by cases o.dst <;> simp [Act.put]
  refine ⟨k.ok, by rw [hsize]; exact k.size, k.dsts, (List.nodup_cons.1 k.nodup).2, fun j hj => k.lt j (by simp [hj]), k.topo.2, ?_, ?_, ?_, ?_, ?_, ?_⟩
  · intro j oj hj hjl p hp hpl
    by_cases e : j = i
    · subst e; exact k.topo.1 oj hj p hp (by simp [hpl])
    · exact k.down j oj hj (by simp [e, hjl]) p hp (by simp [hpl])
  · rw [k.chain]
    apply List.filter_congr
    intro j hj
    by_cases e : j = i
    · subst e
      obtain ⟨oj, hoj, hfj⟩ := chainOf_mem hj
      rw [ho] at hoj; cases hoj
      rw [hf] at hfj; cases hfj
    · simp [e]
  · intro j hj hjl
    by_cases e : j = i
    · rw [e]; exact hd
    · exact k.done1 j hj (by simp [e, hjl])
  · intro j hjl hjd; exact k.done2 j (by simp [hjl]) hjd
  · intro t ht
    by_cases e : o.dst = some t
    · have hlt : t < tmps.size := by rw [k.size]; exact dstOk_spec (e ▸ k.dsts i o ho)
      have : (Act.put ⟨tmps, df⟩ o.dst x).tmps.getD t undef = x := by rw [e]; simp [Act.put, hlt]
      rw [this]
      exact hv t e
    · have : (Act.put ⟨tmps, df⟩ o.dst x).tmps.getD t undef = tmps.getD t undef := by
        cases hdd : o.dst with
        | none => rfl
        | some dd =>
          have hne : dd ≠ t := fun e' => e (by rw [hdd, e'])
          simp only [Act.put, Array.getD_eq_getD_getElem?, Array.getElem?_setIfInBounds_ne hne]
      rw [this]
      refine (k.vals t fun j oj hjl hjd hoj => ?_).mono hle
      rcases List.mem_cons.1 hjl with rfl | hjl
      · rw [ho] at hoj; cases hoj; exact e
      · exact ht j oj hjl hjd hoj
  · intro j oj dd b hjl hjd hoj hal hdd hb
    obtain ⟨p1, p2, p3⟩ := k.pend j oj dd b (by simp [hjl]) hjd hoj hal hdd hb
    exact ⟨p1, hkeep b j (fun e => hnl (e ▸ hjl)) p1 p2, p3⟩

theorem skipOf_bit {ms : List Nat} {i : Nat} : ∀ (done : List Nat), (skipOf E ops ms done).testBit i = true → ∃ e ∈ done, ∃ oe, ops[e]? = some oe ∧ isFree E oe.op = false ∧ stands ms i e = true
  | [], h => by simp [skipOf] at h
  | e :: r, h => by
    simp only [skipOf, Nat.testBit_or, Bool.or_eq_true] at h
    rcases h with h | h
    · cases ho : ops[e]? with
      | none => simp [ho] at h
      | some oe =>
        simp only [ho] at h
        split at h
        · simp at h
        · rename_i hf; exact ⟨e, by simp, oe, ho, by simpa using hf, h⟩
    · obtain ⟨e', he', r'⟩ := skipOf_bit r h
      exact ⟨e', by simp [he'], r'⟩

theorem step_val {b : Frame} {a : Act} {i : Nat} {rest : List Nat} {k : List Item} {cs : List Frame} {o : Oper} (ho : ops[i]? = some o) (hw : Region.wanted o (yielded ops a.tmps) = true) {v : Value} {w' : World}
    (hr : (o.semAt b.roundOf a.eval).run P w = .ok (.value v) w' ∨ ((o.semAt b.roundOf a.eval).run P w = .ok .skip w' ∧ v = undef)) :
    step P (lone (b.atR a (.inRegion ops (i :: rest) :: k)) cs w) = .next (lone ((b.atR a (.inRegion ops (i :: rest) :: k)).finish v) cs w') :=
  step_lone_go (by
    rw [stepGR_op ho hw]
    rcases hr with hr | ⟨hr, rfl⟩ <;> simp [stepG.apply, Sem.runT_eq, hr])

theorem free_defer {o : Oper} (hf : isFree E o.op = true) (ro : Option Nat) (ρ : Operand → Value) : o.semAt ro ρ = execOp ρ o := by
  apply Oper.semAt_eq
  intro c hc
  rw [hc] at hf
  simp [isFree, isCalm, isAlloc] at hf

theorem pending (O : EnvOK P E) {b : Frame} {df : List Deferred} {k' : List Item} {cs : List Frame} : ∀ (l : List Nat) {μ : Mu} {w : World} {tmps : Array Value}, Rel μ h w₀ w → RegR E μ own h.nx d f nt ops done chain l tm tmps → Closed E ops done ops.size →
    againS E ops tm h (skipOf E ops (masks ops) done) done = true →
    ∃ μ' w' tmps' l', Steps P (lone (b.atR ⟨tmps, df⟩ (.inRegion ops l :: k')) cs w) (lone (b.atR ⟨tmps', df⟩ (.inRegion ops l' :: k')) cs w') ∧ Rel μ' h w₀ w' ∧ RegR E μ' own h.nx d f nt ops done chain l' tm tmps' ∧
      (∀ d', d' ≠ d → Ext μ own h.nx μ' own h.nx d') ∧ μ.le μ' ∧ (l' = [] ∨ ∃ i r o, l' = i :: r ∧ ops[i]? = some o ∧ isFree E o.op = false)
  | [], μ, w, tmps, R, k, _, _ => ⟨μ, w, tmps, [], Steps.refl _ _, R, k, fun _ _ => Ext.refl _ _ _ _, Mu.le.refl μ, .inl rfl⟩
  | i :: r, μ, w, tmps, R, k, hC, hA => by
    have hi := k.lt i (by simp)
    have ho : ops[i]? = some ops[i] := Array.getElem?_eq_getElem _
    generalize ops[i] = o at ho
    by_cases hf : isFree E o.op = true
    · have hp := k.ready rfl ho
      obtain ⟨fn, _, hok⟩ := k.ok
      obtain ⟨_, hops⟩ := regOK_spec hok
      have hid : i ∈ done := hC i o hi ho hf fun p hpp => k.done1 p (by have := (hops i o ho).preds p hpp; omega) (hp p hpp)
      have hskip : (skipOf E ops (masks ops) done).testBit i = false := by
        cases hb : (skipOf E ops (masks ops) done).testBit i with
        | false => rfl
        | true =>
          obtain ⟨e, hed, oe, hoe, hfe, hs⟩ := skipOf_bit done hb
          have hel : e ∉ i :: r := fun hel => by
            obtain ⟨oe', hoe', hfe'⟩ := k.done2 e hel hed
            rw [hoe] at hoe'; cases hoe'
            rw [hfe] at hfe'; cases hfe'
          exact absurd (by simp) (k.behind e oe hoe (k.down e oe hoe hel) i hs)
      have hst : stillS E ops tm h o = true := by
        have := List.all_eq_true.1 hA i hid
        simpa [ho, hf, hskip] using this
      have hρ := k.operands ho hp df
      have hguard : ∀ bb, wantedS ops o tm = some bb → Region.wanted o (yielded ops tmps) = bb := fun bb hb => wanted_sound hb fun g wt t hg hd => k.look ho hp (by
        unfold looksAt; rw [List.mem_append]; right; simp [hg, hd])
      have main : ∃ μ1 w1 x, step P (lone (b.atR ⟨tmps, df⟩ (.inRegion ops (i :: r) :: k')) cs w) = .next (lone (b.atR (Act.put ⟨tmps, df⟩ ((ops[i]?).bind (·.dst)) x) (.inRegion ops r :: k')) cs w1) ∧
          Rel μ1 h w₀ w1 ∧ μ.le μ1 ∧ (∀ b j, j ≠ i → own b = some (d, j) → μ b = none → μ1 b = none) ∧ (∀ b d' j, d' ≠ d → b < h.nx → own b = some (d', j) → μ b = none → μ1 b = none) ∧ ∀ dd, o.dst = some dd → VR μ1 ((tm.get dd).getD undefS) x := by
        unfold stillS at hst
        split at hst
        · -- it is wanted
          rename_i hw
          have hwr := hguard _ hw
          split at hst
          · -- it makes a block
            rename_i hal
            split at hst
            · rename_i obj mk dd ha hdd
              split at hst
              · rename_i bl hbl
                simp only [Bool.and_eq_true] at hst
                obtain ⟨h1, h2⟩ := hst
                have e1 := SV.eq_of_beq h1
                cases hg : h.t.get bl with
                | none => simp [hg] at h2
                | some obj' =>
                  simp only [hg] at h2
                  have e2 := SObj.eq_of_beq h2
                  subst e2
                  obtain ⟨p1, p2, p3⟩ := k.pend i o dd bl (by simp) hid ho hal hdd hbl
                  obtain ⟨s, hs, ro, n, x, kk, hres, hob⟩ := alloc_sound (P := P) (w := w) O ha hρ
                  have Rk : Rel μ h w₀ (World.at w kk) := Rel.at (R := R) kk
                  have hle : μ.le (μ.set bl ⟨w.heap.size, 0, n⟩) := Mu.le_set p2
                  obtain ⟨q1, q2⟩ := hob _ hle
                  have R' : Rel (μ.set bl ⟨(World.at w kk).heap.size, 0, n⟩) h w₀ ((World.at w kk).alloc ro) := Rel.real Rk p2 p3 hg q1
                  refine ⟨_, _, x, ?_, R', hle, ?_, ?_, ?_⟩
                  · rw [← Frame.finish_atR]
                    refine step_val ho hwr (.inl ?_)
                    rw [free_defer hf, hs]
                    simp only [Sem.run_bind, hres, Result.andThen, Sem.run_pure]
                  · intro b' j hj hb' hm
                    show (if b' = bl then _ else _) = _
                    rw [if_neg (fun e => by subst e; rw [p1] at hb'; cases hb'; exact hj rfl)]
                    exact hm
                  · intro b' d' j hd' _ hb' hm
                    show (if b' = bl then _ else _) = _
                    rw [if_neg (fun e => by subst e; rw [p1] at hb'; cases hb'; exact hd' rfl)]
                    exact hm
                  · intro dd' hdd'
                    rw [hdd] at hdd'; cases hdd'
                    rw [e1]
                    exact q2 bl (by simp [Mu.set])
              · cases hst
            · cases hst
          · rename_i hal
            have hcalm : isCalm E o.op = true := by
              unfold isFree at hf
              simp only [Bool.or_eq_true] at hf
              exact hf.resolve_right hal
            split at hst
            · rename_i v h1 hex
              have hh := exec_calm (h := h) tm o hcalm
              rw [hex] at hh
              simp only [OR.Calm] at hh
              subst hh
              have hn := exec_sound O R (o := o) hρ
              rw [hex] at hn
              simp only [NextR] at hn
              obtain ⟨x, w', μ', hres, R', G, hv⟩ := hn
              refine ⟨μ', w', x, ?_, R', G.le, ?_, ?_, ?_⟩
              · rw [← Frame.finish_atR]
                exact step_val ho hwr (by rw [free_defer hf]; exact hres)
              · intro b' j hj hb' hm
                by_cases hlt : b' < h1.nx
                · exact (G.out b' hlt hm).1
                · cases hm' : μ' b' with
                  | none => rfl
                  | some loc => exact absurd (R'.lt b' loc hm') hlt
              · intro b' d' j _ hlt _ hm; exact (G.out b' hlt hm).1
              · intro dd hdd
                rw [hdd] at hst
                simp only [dstIs] at hst
                rw [SV.eq_of_beq hst]; exact hv
            · cases hst
        · rename_i hw
          have hwr := hguard _ hw
          refine ⟨μ, w, undef, ?_, R, Mu.le.refl μ, fun _ _ _ _ hm => hm, fun _ _ _ _ _ _ hm => hm, ?_⟩
          · exact stepR_op_skip (by rw [ho]; simpa using hwr)
          · intro dd hdd
            rw [hdd] at hst
            simp only [dstIs] at hst
            rw [SV.eq_of_beq hst]; exact VR.undef μ
        · cases hst
      obtain ⟨μ1, w1, x, hstep, R1, hle1, hk1, hk2, hv1⟩ := main
      have k1 := k.take ho hf hid hle1 hk1 hv1 df
      obtain ⟨μ2, w2, tmps2, l2, hs2, R2, k2, X2, hle2, hl2⟩ := pending O r (tmps := (Act.put ⟨tmps, df⟩ ((ops[i]?).bind (·.dst)) x).tmps) R1 k1 hC hA
      have hact : Act.put ⟨tmps, df⟩ ((ops[i]?).bind (·.dst)) x = ⟨(Act.put ⟨tmps, df⟩ ((ops[i]?).bind (·.dst)) x).tmps, df⟩ := by
        cases (ops[i]?).bind (·.dst) <;> rfl
      rw [hact] at hstep
      exact ⟨μ2, w2, tmps2, l2, Steps.head hstep hs2, R2, k2, fun d' hd' => Ext.trans ⟨hle1, Nat.le_refl _, fun _ _ => rfl, fun b j hb ho hm => hk2 b d' j hd' hb ho hm⟩ (X2 d' hd'), hle1.trans hle2, hl2⟩
    · exact ⟨μ, w, tmps, i :: r, Steps.refl _ _, R, k, fun _ _ => Ext.refl _ _ _ _, Mu.le.refl μ, .inr ⟨i, r, o, rfl, ho, by simpa using hf⟩⟩
end
end Go.Sh
