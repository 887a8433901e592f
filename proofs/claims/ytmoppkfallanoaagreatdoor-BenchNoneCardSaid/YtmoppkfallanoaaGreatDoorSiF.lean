/-
  A machine of one goroutine that can be reckoned in the kernel, and the proof that the model does what it does: part SiF.
-/
import Derived.Test.YtmoppkfallanoaaGreatDoorSiE
import Derived.WideKeyArgs
import Derived.OpenShut
import GoSem.ClaimWide
set_option linter.unusedSimpArgs false
set_option linter.unusedVariables false
set_option linter.unusedSectionVars false
namespace Go.Sh
open Go.RowKit Go.ChangeShapes Go.WideShapes

/-! ### arguments of which nothing is known but their types -/
def unkOf (P : Program) (u : TypeId) : Option Unk :=
  match P.underlying u with
  | some .bool => some .bool
  | some (.int k) => some (.int k)
  | some .string => some .string
  | some (.slice _) => some .slice
  | _ => none

def symsFrom (P : Program) : List TypeId → Nat → Option (List SV)
  | [], _ => some []
  | u :: us, k =>
    match unkOf P u, symsFrom P us (k + 1) with
    | some x, some l => some (.sym k x :: l)
    | _, _ => none

/-- An argument: its cells numbered from k on. -/
def symArg (P : Program) (t : TypeId) (k : Nat) : Option SV :=
  match P.underlying t with
  | some (.struct _) | some (.array _ _) => ((P.cellTypes P.depth t).bind fun ts => if ts.length = P.cellsOf t then symsFrom P ts k else none).map .agg
  | _ => (unkOf P t).map (.sym k)

section
variable [Syms] {P : Program} {W : World} {r : Reach} {base : Nat} {μ : Mu}

theorem unk_has {u : TypeId} {x : Unk} {v : Value} (e : unkOf P u = some x) (h : Cell.okWide P W r base u v) : x.has v := by
  unfold unkOf at e
  unfold Cell.okWide Cell.ok at h
  split at e
  · rename_i hu; cases e; simp only [hu] at h; cases v <;> simp at h; exact ⟨_, rfl⟩
  · rename_i k hu; cases e; simp only [hu] at h; cases v <;> simp at h; obtain ⟨rfl, _⟩ := h; exact ⟨_, rfl⟩
  · rename_i hu; cases e; simp only [hu] at h; cases v <;> simp at h; exact ⟨_, rfl⟩
  · rename_i el hu; cases e; simp only [hu] at h; cases v <;> simp at h; exact ⟨_, _, _, rfl⟩
  · cases e

omit [Syms] in
theorem symsFrom_length : ∀ {us : List TypeId} {k : Nat} {l : List SV}, symsFrom P us k = some l → l.length = us.length
  | [], k, l, e => by simp only [symsFrom, Option.some.injEq] at e; subst e; rfl
  | u :: us, k, l, e => by
    simp only [symsFrom] at e
    split at e
    · rename_i x l' _ h2
      cases e
      simp [symsFrom_length h2]
    · cases e

theorem symsFrom_sound : ∀ {us : List TypeId} {k : Nat} {l : List SV} {vs : List Value}, symsFrom P us k = some l → vs.length = us.length → (∀ (i : Nat) v, vs[i]? = some v → ∃ u, us[i]? = some u ∧ Cell.okWide P W r base u v) →
    (∀ (i : Nat) v, vs[i]? = some v → v = Syms.ν (k + i)) → VRs μ l vs
  | [], k, l, vs, e, hl, _, _ => by
    simp only [symsFrom, Option.some.injEq] at e
    subst e
    simp only [List.length_nil] at hl
    rw [List.eq_nil_of_length_eq_zero hl]
    simp [VRs]
  | u :: us, k, l, vs, e, hl, hv, hν => by
    cases vs with
    | nil => simp at hl
    | cons v vs =>
      simp only [symsFrom] at e
      cases hu : unkOf P u with
      | none => simp [hu] at e
      | some x =>
        cases hs : symsFrom P us (k + 1) with
        | none => simp [hu, hs] at e
        | some l' =>
          simp only [hu, hs, Option.some.injEq] at e
          subst e
          refine VRs.cons ?_ (symsFrom_sound hs (by simpa using hl) (fun i v hi => by simpa using hv (i + 1) v (by simpa using hi)) fun i v hi => by
            have := hν (i + 1) v (by simpa using hi)
            rw [this]; congr 1; omega)
          obtain ⟨u', hu', hok⟩ := hv 0 v rfl
          simp only [List.getElem?_cons_zero, Option.some.injEq] at hu'
          subst hu'
          simp only [VR]
          exact ⟨.inr (by simpa using hν 0 v rfl), unk_has hu hok⟩

theorem symArg_sound {t : TypeId} {k : Nat} {s : SV} {v : Value} (e : symArg P t k = some s) (h : Value.okWide P W r base t v) (hν : ∀ (i : Nat) c, i < s.cells.length → v.cells[i]? = some c → c = Syms.ν (k + i)) : VR μ s v := by
  have row : ∀ cs : Array Value, v = .agg cs → cs.size = P.cellsOf t → Row.okWide P W r base t cs → ∀ l, ((P.cellTypes P.depth t).bind fun ts => if ts.length = P.cellsOf t then symsFrom P ts k else none) = some l → (∀ (i : Nat) c, i < l.length → v.cells[i]? = some c → c = Syms.ν (k + i)) → VR μ (.agg l) v := by
    rintro cs rfl hsz ⟨ts, hts, _, hrow⟩ l hl hν
    simp only [hts, Option.bind_some] at hl
    split at hl
    · rename_i hlen
      simp only [VR]
      refine ⟨cs, rfl, symsFrom_sound (W := W) (r := r) (base := base) hl (by simp [hsz, hlen]) (fun i c hc => ?_) fun i c hc => hν i c (by
        have h1 := symsFrom_length hl
        have h2 : i < cs.size := by
          rcases Nat.lt_or_ge i cs.size with h | h
          · exact h
          · simp [Array.getElem?_eq_none h] at hc
        omega) (by simpa [Value.cells] using hc)⟩
      have hc' : cs[i]? = some c := by simpa using hc
      obtain ⟨u, hu, hok⟩ := hrow i c hc'
      have hi : i < ts.length := by
        have : i < cs.size := by
          rcases Nat.lt_or_ge i cs.size with h | h
          · exact h
          · simp [Array.getElem?_eq_none h] at hc'
        omega
      rw [Nat.mod_eq_of_lt hi] at hu
      exact ⟨u, hu, hok⟩
    · cases hl
  unfold symArg at e
  unfold Value.okWide at h
  split at e
  · rename_i fs hu
    simp only [hu] at h
    obtain ⟨cs, h1, h2, h3⟩ := h
    rw [Option.map_eq_some_iff] at e
    obtain ⟨l, hl, rfl⟩ := e
    exact row cs h1 h2 h3 l hl hν
  · rename_i n el hu
    simp only [hu] at h
    obtain ⟨cs, h1, h2, h3⟩ := h
    rw [Option.map_eq_some_iff] at e
    obtain ⟨l, hl, rfl⟩ := e
    exact row cs h1 h2 h3 l hl hν
  · rename_i hn1 hn2
    have hc : Cell.okWide P W r base t v := by
      split at h
      · rename_i fs hu; exact absurd hu (hn1 fs)
      · rename_i n el hu; exact absurd hu (hn2 n el)
      · exact h
    rw [Option.map_eq_some_iff] at e
    obtain ⟨x, hx, rfl⟩ := e
    simp only [VR]
    have hh := unk_has hx hc
    refine ⟨.inr ?_, hh⟩
    have h0 : v.cells[0]? = some v := by
      cases x <;> simp only [Unk.has] at hh
      · obtain ⟨b, rfl⟩ := hh; rfl
      · obtain ⟨b, rfl⟩ := hh; rfl
      · obtain ⟨b, rfl⟩ := hh; rfl
      · obtain ⟨a, l, c, rfl⟩ := hh; rfl
    simpa using hν 0 v (by simp [SV.cells]) h0
end

/-- Values that are known by their numbers. -/
theorem syms_eq [Syms] {μ : Mu} {k : Nat} (hk : 0 < k) : ∀ {l : List SV} {vs : List Value} {j : Nat}, VRs μ l vs → (∀ (i : Nat) s, l[i]? = some s → ∃ u, s = .sym (k + j + i) u) → ∀ (i : Nat) v, vs[i]? = some v → v = Syms.ν (k + j + i)
  | [], vs, j, h, _, i, v, hv => by simp only [VRs] at h; subst h; simp at hv
  | s :: l, vs, j, h, hs, i, v, hv => by
    simp only [VRs] at h
    obtain ⟨x, xs, rfl, hx, hxs⟩ := h
    cases i with
    | zero =>
      obtain ⟨u, rfl⟩ := hs 0 s rfl
      simp only [List.getElem?_cons_zero, Option.some.injEq] at hv
      subst hv
      simp only [VR] at hx
      exact hx.1.resolve_left (by omega)
    | succ i =>
      have := syms_eq hk (j := j + 1) hxs (fun i s hi => by
        obtain ⟨u, hu⟩ := hs (i + 1) s (by simpa using hi)
        exact ⟨u, by rw [hu]; congr 1; omega⟩) i v (by simpa using hv)
      rw [this]; congr 1; omega
theorem syms_list [Syms] {μ : Mu} {k : Nat} (hk : 0 < k) {l : List SV} {vs ws : List Value} (h : VRs μ l vs) (hs : ∀ (i : Nat) s, l[i]? = some s → ∃ u, s = .sym (k + i) u) (hl : ws.length = l.length) (hw : ∀ (i : Nat) v, ws[i]? = some v → v = Syms.ν (k + i)) : vs = ws := by
  have hlen := h.length
  apply List.ext_getElem?
  intro i
  rcases Nat.lt_or_ge i vs.length with h1 | h1
  · have e1 : vs[i]? = some vs[i] := List.getElem?_eq_getElem h1
    have h2 : i < ws.length := by omega
    have e2 : ws[i]? = some ws[i] := List.getElem?_eq_getElem h2
    have a1 := syms_eq hk (j := 0) h (fun i s hi => by simpa using hs i s hi) i _ e1
    have a2 := hw i _ e2
    rw [e1, e2, a1, a2]; rfl
  · rw [List.getElem?_eq_none h1, List.getElem?_eq_none (by omega)]

/-- The arguments' cells, numbered: those of the j-th from 1 + 100 * j on. -/
def nuBase (vs : List Value) (k : Nat) : Value := ((vs[(k - 1) / 100]?).bind fun v => v.cells[(k - 1) % 100]?).getD undef
def nuOf (vs : List Value) (k : Nat) : Value :=
  if k < 1000 then nuBase vs k else .int .i64 ((ivOf (nuBase vs) ((k - 1000) / 4294967296)).tmod (((k - 1000) % 4294967296 : Nat) : Int))
@[reducible] def symsOf (vs : List Value) : Syms where
  ν := nuOf vs
  rem := by
    intro a m ha hm hlt
    have h1 : (remIdx a m - 1000) / 4294967296 = a := by unfold remIdx; omega
    have h2 : (remIdx a m - 1000) % 4294967296 = m := by unfold remIdx; omega
    have h3 : ¬ remIdx a m < 1000 := by unfold remIdx; omega
    have h4 : ivOf (nuOf vs) a = ivOf (nuBase vs) a := by unfold ivOf nuOf; rw [if_pos ha]
    rw [h4]
    have h5 : nuOf vs (remIdx a m) = .int .i64 ((ivOf (nuBase vs) a).tmod (m : Int)) := by
      unfold nuOf
      rw [if_neg h3, h1, h2]
    unfold ivOf
    rw [h5]
    rfl
theorem nuOf_at {vs : List Value} {j i : Nat} {v c : Value} (hj : vs[j]? = some v) (hi : i < 100) (h9 : j < 9) (hc : v.cells[i]? = some c) : c = nuOf vs (1 + 100 * j + i) := by
  unfold nuOf
  rw [if_pos (by omega)]
  unfold nuBase
  have h1 : (1 + 100 * j + i - 1) / 100 = j := by omega
  have h2 : (1 + 100 * j + i - 1) % 100 = i := by omega
  rw [h1, h2, hj]
  simp [hc]

/-- What was read of the arguments reads so still. -/
theorem trodAll_below {H : Type} {enc : TypeId × Value → H} {P : Program} {W W' : World} (hl : laidOutB P = true) (hb : Below W.heap.size W W') {sp : Nat → Bool} : ∀ {ts : List TypeId} {vs : List Value} {ds : List (DataW H)} {ps : List MemPlace},
    (∀ t ∈ ts, P.readableRec t = true ∧ t < P.types.size) → DataW.TrodAll enc P W 0 (fun _ => true) true ts vs ds ps → (∀ x ∈ ps, x.block < W.heap.size) → (∀ x ∈ ps, sp x.block = true) → DataW.TrodAll enc P W' 0 sp true ts vs ds ps
  | [], vs, ds, ps, _, h, _, _ => by
    obtain ⟨rfl, rfl, rfl⟩ := trodAll_nil h
    exact h
  | t :: ts, vs, ds, ps, ht, h, hlt, hsp => by
    obtain ⟨v, vs', d, ds', p, q, rfl, rfl, rfl, h1, h2⟩ := trodAll_cons h
    refine trodAll_cons_mk (WideElems.Trod_stays hl (ht t (by simp)).1 (ht t (by simp)).2 h1 (fun x hx => hb.same (hlt x (by simp [hx]))) fun x hx => hsp x (by simp [hx])) ?_
    exact trodAll_below hl hb (fun u hu => ht u (by simp [hu])) h2 (fun x hx => hlt x (by simp [hx])) fun x hx => hsp x (by simp [hx])
end Go.Sh
