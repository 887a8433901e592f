/-
  A machine of one goroutine that can be reckoned in the kernel, and the proof that the model does what it does: part SiF.
-/
import Derived.Test.YtbnpaiofikdinaaGreatDoorSiE
import Derived.WideKeyArgs
import Derived.OpenShut
import GoSem.ClaimWide
set_option linter.unusedSimpArgs false
set_option linter.unusedVariables false
set_option linter.unusedSectionVars false
namespace Go.Sh
open Go.RowKit Go.ChangeShapes Go.WideShapes

/-! ### arguments of which nothing is known but their types -/
def unkOf (P : Program) (u : TypeId) : Option Unk :=
  match P.underlying u with
  | some .bool => some .bool
  | some (.int k) => some (.int k)
  | some .string => some .string
  | some (.slice _) => some .slice
  | _ => none

def symsFrom (P : Program) : List TypeId → Nat → Option (List SV)
  | [], _ => some []
  | u :: us, k =>
    match unkOf P u, symsFrom P us (k + 1) with
    | some x, some l => some (.sym k x :: l)
    | _, _ => none

/-- An argument: its cells numbered from k on. -/
def symArg (P : Program) (t : TypeId) (k : Nat) : Option SV :=
  match P.underlying t with
  | some (.struct _) | some (.array _ _) => ((P.cellTypes P.depth t).bind fun ts => if ts.length = P.cellsOf t then symsFrom P ts k else none).map .agg
  | _ => (unkOf P t).map (.sym k)

section
variable [Syms] {P : Program} {W : World} {r : Reach} {base : Nat} {μ : Mu}

theorem unk_has {u : TypeId} {x : Unk} {v : Value} (e : unkOf P u = some x) (h : Cell.okWide P W r base u v) : x.has v := by
  unfold unkOf at e
  unfold Cell.okWide Cell.ok at h
  split at e
  · rename_i hu; cases e; simp only [hu] at h; cases v <;> simp at h; exact ⟨_, rfl⟩
  · rename_i k hu; cases e; simp only [hu] at h; cases v <;> simp at h; obtain ⟨rfl, _⟩ := h; exact ⟨_, rfl⟩
  · rename_i hu; cases e; simp only [hu] at h; cases v <;> simp at h; exact ⟨_, rfl⟩
  · rename_i el hu; cases e; simp only [hu] at h; cases v <;> simp at h; exact ⟨_, _, _, rfl⟩
  · cases e

theorem symsFrom_sound : ∀ {us : List TypeId} {k : Nat} {l : List SV} {vs : List Value}, symsFrom P us k = some l → vs.length = us.length → (∀ (i : Nat) v, vs[i]? = some v → ∃ u, us[i]? = some u ∧ Cell.okWide P W r base u v) →
    (∀ (i : Nat) v, vs[i]? = some v → v = Syms.ν (k + i)) → VRs μ l vs
  | [], k, l, vs, e, hl, _, _ => by
    simp only [symsFrom, Option.some.injEq] at e
    subst e
    simp only [List.length_nil] at hl
    rw [List.eq_nil_of_length_eq_zero hl]
    simp [VRs]
  | u :: us, k, l, vs, e, hl, hv, hν => by
    cases vs with
    | nil => simp at hl
    | cons v vs =>
      simp only [symsFrom] at e
      cases hu : unkOf P u with
      | none => simp [hu] at e
      | some x =>
        cases hs : symsFrom P us (k + 1) with
        | none => simp [hu, hs] at e
        | some l' =>
          simp only [hu, hs, Option.some.injEq] at e
          subst e
          refine VRs.cons ?_ (symsFrom_sound hs (by simpa using hl) (fun i v hi => by simpa using hv (i + 1) v (by simpa using hi)) fun i v hi => by
            have := hν (i + 1) v (by simpa using hi)
            rw [this]; congr 1; omega)
          obtain ⟨u', hu', hok⟩ := hv 0 v rfl
          simp only [List.getElem?_cons_zero, Option.some.injEq] at hu'
          subst hu'
          simp only [VR]
          exact ⟨.inr (by simpa using hν 0 v rfl), unk_has hu hok⟩

theorem symArg_sound {t : TypeId} {k : Nat} {s : SV} {v : Value} (e : symArg P t k = some s) (h : Value.okWide P W r base t v) (hν : ∀ (i : Nat) c, v.cells[i]? = some c → c = Syms.ν (k + i)) : VR μ s v := by
  have row : ∀ cs : Array Value, v = .agg cs → cs.size = P.cellsOf t → Row.okWide P W r base t cs → ∀ l, ((P.cellTypes P.depth t).bind fun ts => if ts.length = P.cellsOf t then symsFrom P ts k else none) = some l → VR μ (.agg l) v := by
    rintro cs rfl hsz ⟨ts, hts, _, hrow⟩ l hl
    simp only [hts, Option.bind_some] at hl
    split at hl
    · rename_i hlen
      simp only [VR]
      refine ⟨cs, rfl, symsFrom_sound (W := W) (r := r) (base := base) hl (by simp [hsz, hlen]) (fun i c hc => ?_) fun i c hc => hν i c (by simpa [Value.cells] using hc)⟩
      have hc' : cs[i]? = some c := by simpa using hc
      obtain ⟨u, hu, hok⟩ := hrow i c hc'
      have hi : i < ts.length := by
        have : i < cs.size := by
          rcases Nat.lt_or_ge i cs.size with h | h
          · exact h
          · simp [Array.getElem?_eq_none h] at hc'
        omega
      rw [Nat.mod_eq_of_lt hi] at hu
      exact ⟨u, hu, hok⟩
    · cases hl
  unfold symArg at e
  unfold Value.okWide at h
  split at e
  · rename_i fs hu
    simp only [hu] at h
    obtain ⟨cs, h1, h2, h3⟩ := h
    rw [Option.map_eq_some_iff] at e
    obtain ⟨l, hl, rfl⟩ := e
    exact row cs h1 h2 h3 l hl
  · rename_i n el hu
    simp only [hu] at h
    obtain ⟨cs, h1, h2, h3⟩ := h
    rw [Option.map_eq_some_iff] at e
    obtain ⟨l, hl, rfl⟩ := e
    exact row cs h1 h2 h3 l hl
  · rename_i hn1 hn2
    have hc : Cell.okWide P W r base t v := by
      split at h
      · rename_i fs hu; exact absurd hu (hn1 fs)
      · rename_i n el hu; exact absurd hu (hn2 n el)
      · exact h
    rw [Option.map_eq_some_iff] at e
    obtain ⟨x, hx, rfl⟩ := e
    simp only [VR]
    have hh := unk_has hx hc
    refine ⟨.inr ?_, hh⟩
    have h0 : v.cells[0]? = some v := by
      cases x <;> simp only [Unk.has] at hh
      · obtain ⟨b, rfl⟩ := hh; rfl
      · obtain ⟨b, rfl⟩ := hh; rfl
      · obtain ⟨b, rfl⟩ := hh; rfl
      · obtain ⟨a, l, c, rfl⟩ := hh; rfl
    simpa using hν 0 v h0
end

/-- What was read of the arguments reads so still. -/
theorem trodAll_below {H : Type} {enc : TypeId × Value → H} {P : Program} {W W' : World} (hl : laidOutB P = true) (hb : Below W.heap.size W W') {sp : Nat → Bool} : ∀ {ts : List TypeId} {vs : List Value} {ds : List (DataW H)} {ps : List MemPlace},
    (∀ t ∈ ts, P.readableRec t = true ∧ t < P.types.size) → DataW.TrodAll enc P W 0 (fun _ => true) true ts vs ds ps → (∀ x ∈ ps, x.block < W.heap.size) → (∀ x ∈ ps, sp x.block = true) → DataW.TrodAll enc P W' 0 sp true ts vs ds ps
  | [], vs, ds, ps, _, h, _, _ => by
    obtain ⟨rfl, rfl, rfl⟩ := trodAll_nil h
    exact h
  | t :: ts, vs, ds, ps, ht, h, hlt, hsp => by
    obtain ⟨v, vs', d, ds', p, q, rfl, rfl, rfl, h1, h2⟩ := trodAll_cons h
    refine trodAll_cons_mk (WideElems.Trod_stays hl (ht t (by simp)).1 (ht t (by simp)).2 h1 (fun x hx => hb.same (hlt x (by simp [hx]))) fun x hx => hsp x (by simp [hx])) ?_
    exact trodAll_below hl hb (fun u hu => ht u (by simp [hu])) h2 (fun x hx => hlt x (by simp [hx])) fun x hx => hsp x (by simp [hx])
end Go.Sh
