/-
  A machine of one goroutine that can be reckoned in the kernel, and the proof that the model does what it does: part SiB.
-/
import Derived.Test.YtmoppkfallanoaaGreatDoorSiA
import Derived.Laws.StructEq
import Derived.ChangeKeysEq
import Derived.Laws.BytesArg
set_option linter.unusedSimpArgs false
set_option linter.unusedVariables false
set_option linter.unusedSectionVars false
namespace Go.Sh
open Go.RowKit
variable [Syms]

def VOut (μ : Mu) (h : Hp) (w₀ : World) (v : SV) (h' : Hp) (res : Result Value) : Prop :=
  ∃ x w' μ', res = .ok x w' ∧ Rel μ' h' w₀ w' ∧ Grow μ h μ' h' ∧ VR μ' v x

def ValR (μ : Mu) (h : Hp) (w₀ : World) : OR → Result Value → Prop
  | .val v h', res => VOut μ h w₀ v h' res
  | .panic v, res => ∃ x w', res = .halt (.panic x) w' ∧ Rel μ h w₀ w' ∧ VR μ v x
  | .fork l, res => ∃ p ∈ l, VOut μ h w₀ p.1 p.2 res
  | .fail _, _ => True
  | _, _ => False

section
variable {P : Program} {E : Env} {w w₀ : World} {μ : Mu} {h : Hp}

theorem ValR.same (R : Rel μ h w₀ w) {v : SV} {x : Value} (hv : VR μ v x) : ValR μ h w₀ (.val v h) (.ok x w) :=
  ⟨x, w, μ, rfl, R, Grow.refl μ h, hv⟩

theorem ValR.ov (R : Rel μ h w₀ w) {o : Option SV} {m : String} {res : Result Value} (hv : ∀ v, o = some v → ∃ x, res = .ok x w ∧ VR μ v x) : ValR μ h w₀ (Sh.ov o h m) res := by
  cases o with
  | none => trivial
  | some v => obtain ⟨x, e, hx⟩ := hv v rfl; exact e ▸ ValR.same R hx

theorem VR.str (μ : Mu) (s : String) : VR μ (strS s) (strVal s) := by simp only [strS, strVal, VR]; exact ⟨_, rfl, rfl⟩

theorem ValR.err (O : EnvOK P E) (R : Rel μ h w₀ w) (m : String) : ValR μ h w₀ (errS E m) ((runtimePanic (.error m) : Sem Value).run P w) := by
  refine ⟨.iface P.rt.errorString (strVal m), w, by simp [runtimePanic], R, ?_⟩
  simp only [VR, O.rt]
  exact ⟨_, rfl, VR.str μ m⟩

theorem ValR.nilDeref (O : EnvOK P E) (R : Rel μ h w₀ w) : ValR μ h w₀ (nilDerefS E) ((runtimePanic .nilDeref : Sem Value).run P w) := by
  refine ⟨.iface P.rt.errorString (strVal "invalid memory address or nil pointer dereference"), w, by simp [runtimePanic], R, ?_⟩
  simp only [VR, O.rt]
  exact ⟨_, rfl, VR.str μ _⟩

theorem ValR.bounds (O : EnvOK P E) (R : Rel μ h w₀ w) {α : Type} (k : IntKind) (x y : Int) (c : BoundsCode) :
    ∃ v w', (boundsPanic k x y c : Sem α).run P w = .halt (.panic v) w' ∧ Rel μ h w₀ w' ∧ ∀ sv, boundsS E x y c = .panic sv → VR μ sv v := by
  have key : ∀ b : Bool, ∀ sv, boundsS E x y c = .panic sv → VR μ sv (.iface P.rt.boundsError (.agg #[.int .i64 (IntKind.i64.wrap x), .int .i64 y, .bool b, .int .u8 c.toNat])) := by
    intro b sv e
    simp only [boundsS, OR.panic.injEq] at e
    subst e
    simp only [VR, O.rt]
    refine ⟨_, rfl, _, rfl, ?_⟩
    exact VRs.cons (by simp [VR]) (VRs.cons (by simp [VR]) (VRs.cons (by simp [VR]) (VRs.one (by simp [VR]))))
  unfold boundsPanic
  split
  · simp only [Sem.run_bind, Sem.run_map, run_choose]
    refine ⟨_, { w with drawn := w.drawn + 1 }, ?_, R.drewN, key (Question.cut (.extern "runtime.boundsError.signed" 2) (w.tape w.drawn (.extern "runtime.boundsError.signed" 2)) == 1)⟩
    simp [Question.forced, runtimePanic, Result.andThen]
  · refine ⟨_, w, ?_, R, key (k != .u64)⟩
    simp [runtimePanic]

theorem ValR.boundsV (O : EnvOK P E) (R : Rel μ h w₀ w) (k : IntKind) (x y : Int) (c : BoundsCode) : ValR μ h w₀ (boundsS E x y c) ((boundsPanic k x y c : Sem Value).run P w) := by
  obtain ⟨v, w', e, R', hv⟩ := ValR.bounds (α := Value) O R k x y c
  exact ⟨v, w', e, R', hv _ rfl⟩

theorem ValR.scalar (R : Rel μ h w₀ w) (s : Sem Value) : ValR μ h w₀ (scalarOf s h) (s.run P w) := by
  unfold scalarOf
  split <;> first
    | trivial
    | (exact ValR.same R (by simp [VR]))

theorem bytesOf_length (b : ByteArray) : (bytesOf b).length = b.size := by
  simp only [bytesOf, List.length_map, Array.length_toList]; rfl
theorem bytesOf_inj {a b : ByteArray} (h : bytesOf a = bytesOf b) : a = b := by
  obtain ⟨⟨a⟩⟩ := a; obtain ⟨⟨b⟩⟩ := b
  simp only [bytesOf] at h
  have : a = b := by
    induction a generalizing b with
    | nil => cases b <;> simp_all
    | cons x a ih =>
      cases b with
      | nil => simp at h
      | cons y b =>
        simp only [List.map_cons, List.cons.injEq] at h
        rw [UInt8.toNat_inj.1 h.1, ih _ h.2]
  rw [this]
theorem bytesOf_append (a b : ByteArray) : bytesOf (a ++ b) = bytesOf a ++ bytesOf b := by
  simp [bytesOf, ByteArray.data_append]
theorem bytesOf_extract (a : ByteArray) (i j : Nat) : bytesOf (a.extract i j) = ((bytesOf a).take j).drop i := by
  simp [bytesOf, ByteArray.data_extract, List.extract_eq_take_drop, List.map_drop, List.map_take, List.drop_take]
theorem bytesOf_beq (a b : ByteArray) : (bytesOf a == bytesOf b) = (a.toList == b.toList) := by
  rw [Bool.eq_iff_iff]
  simp only [beq_iff_eq]
  constructor
  · intro e; rw [bytesOf_inj e]
  · intro e
    rw [ByteArray.toList_eq, ByteArray.toList_eq] at e
    simp only [bytesOf, e]
theorem bytesOf_less (a b : ByteArray) : listLess (bytesOf a) (bytesOf b) = Op.bytesLess a.toList b.toList := by
  rw [ByteArray.toList_eq, ByteArray.toList_eq]
  unfold bytesOf
  generalize a.data.toList = x
  generalize b.data.toList = y
  induction x generalizing y with
  | nil => cases y <;> simp [listLess, Op.bytesLess]
  | cons c x ih =>
    cases y with
    | nil => simp [listLess, Op.bytesLess]
    | cons d y =>
      simp only [List.map_cons, listLess, Op.bytesLess, ih]
      congr 1
      congr 1
      rw [Bool.eq_iff_iff]; simp [UInt8.toNat_inj]

theorem strOp_sound (R : Rel μ h w₀ w) (op : BinOp) {a b : ByteArray} : ValR μ h w₀ (ov (strOp op (bytesOf a) (bytesOf b)) h "string op") ((Op.stringOp op a b).run P w) := by
  refine ValR.ov R fun v hv => ?_
  cases op <;> simp only [strOp, Option.some.injEq, reduceCtorEq] at hv <;> (try subst hv) <;> simp only [Op.stringOp]
  case add =>
    split at hv
    · rename_i hle
      cases hv
      rw [bytesOf_length, bytesOf_length] at hle
      have : ¬ ((a.size + b.size : Nat) : Int) > IntKind.i64.max := by simp [IntKind.max, IntKind.signed, IntKind.bits]; omega
      simp only [this, if_false]
      exact ⟨_, rfl, by simp only [VR]; exact ⟨_, rfl, bytesOf_append a b⟩⟩
    · cases hv
  all_goals exact ⟨_, rfl, by simp [VR, bytesOf_beq, bytesOf_less]⟩

theorem intBin_sound (O : EnvOK P E) (R : Rel μ h w₀ w) (op : BinOp) (hop : op ≠ .shl ∧ op ≠ .shr) (k : IntKind) (t : TypeId) (a b : Int) : ValR μ h w₀ (intBin E op k a b h) ((Go.binOp op t (.int k a) (.int k b)).run P w) := by
  cases op <;> simp only [intBin, Go.binOp, ne_eq, not_true_eq_false, if_false]
  case shl => exact absurd rfl hop.1
  case shr => exact absurd rfl hop.2
  case add => exact ValR.same R (by simp [VR])
  case sub => exact ValR.same R (by simp [VR])
  case mul => exact ValR.same R (by simp [VR])
  case quo =>
    simp only [Op.intDiv]
    by_cases hb : b = 0
    · simp only [hb, if_true]; exact ValR.err O R _
    · simp only [hb, if_false]; exact ValR.same R (by simp [VR])
  case rem =>
    simp only [Op.intDiv]
    by_cases hb : b = 0
    · simp only [hb, if_true]; exact ValR.err O R _
    · simp only [hb, if_false]; exact ValR.same R (by simp [VR])
  all_goals exact ValR.scalar R _
end
end Go.Sh

namespace Go.Sh
open Go.RowKit
variable [Syms]
section
variable {P : Program} {E : Env} {w w₀ : World} {μ : Mu} {h : Hp}

theorem plainBlock_spec (R : Rel μ h w₀ w) {b : Nat} {l : Loc} (hb : μ b = some l) (hp : plainBlock h b = true) :
    (h.t.get b).isSome = true ∧ ∃ rc e, w.heap[l.r]? = some (.cells rc e (0, 0)) ∧ 0 < rc.size := by
  unfold plainBlock at hp
  cases hc : h.cells? b with
  | none => simp [hc] at hp
  | some x =>
    obtain ⟨c, m⟩ := x
    simp only [hc, Bool.and_eq_true, Bool.not_eq_true', decide_eq_true_eq] at hp
    obtain ⟨rc, e, fz, hr, hk⟩ := R.cells hb hc
    have hw := hk.whole hp.1
    refine ⟨?_, rc, e, ?_, by rw [hk.size, hw.2.1]; exact hp.2⟩
    · unfold Hp.cells? at hc
      split at hc
      · rename_i hg; simp [hg]
      · cases hc
    · rw [hr, hw.2.2]

theorem run_sameAddr_far (P : Program) {r r' o o' : Nat} {rc rc' : Array Value} {e e' : TypeId} (hr : w.heap[r]? = some (.cells rc e (0, 0))) (hr' : w.heap[r']? = some (.cells rc' e' (0, 0))) (hne : r ≠ r') :
    (sameAddr ⟨r, o, none⟩ ⟨r', o', none⟩).run P w = .ok false w := by
  have hs : w.shape? r = some (e, rc.size) := by simp [World.shape?, hr]
  have hs' : w.shape? r' = some (e', rc'.size) := by simp [World.shape?, hr']
  have hb : (r == r') = false := by simp [hne]
  simp [sameAddr, hb, frozen_at hr, frozen_at hr', noView, viewAt, hs, hs', mayBeOne, stringish]

set_option maxHeartbeats 4000000 in
theorem eql_sound (O : EnvOK P E) (R : Rel μ h w₀ w) : ∀ n : Nat,
    (∀ t x y b d vx vy, eqlS E n t x y h = some b → n ≤ d → VR μ x vx → VR μ y vy → (Op.equalIn d t vx vy).run P w = .ok b w) ∧
    (∀ fs xs ys b d (ax ay : Array Value), eqlFields E n fs xs ys h = some b → n ≤ d → VRs μ xs ax.toList → VRs μ ys ay.toList → (Op.eqFields d ax ay fs).run P w = .ok b w) ∧
    (∀ el c xs ys rem i b d (ax ay : Array Value), eqlElems E n el c xs ys rem i h = some b → n ≤ d → VRs μ xs ax.toList → VRs μ ys ay.toList → (Op.eqItems d el c ax ay (List.range' i rem)).run P w = .ok b w) := by
  intro n
  induction n with
  | zero => exact ⟨fun t x y b d vx vy e => by simp [eqlS] at e, fun fs xs ys b d ax ay e => by simp [eqlFields] at e, fun el c xs ys rem i b d ax ay e => by simp [eqlElems] at e⟩
  | succ n ih =>
    refine ⟨?_, ?_, ?_⟩
    · intro t x y b d vx vy e hd hx hy
      obtain ⟨d, rfl⟩ : ∃ k, d = k + 1 := ⟨d - 1, by omega⟩
      simp only [eqlS] at e
      split at e
      · rename_i a c hu; cases e; simp only [VR] at hx hy; subst hx; subst hy; simp [Op.equalIn, O.runUnd hu]
      · rename_i q k a k' c hu
        split at e
        · rename_i hk; cases e; subst hk; simp only [VR] at hx hy; subst hx; subst hy; simp [Op.equalIn, O.runUnd hu]
        · cases e
      · rename_i q k a k' c hu
        split at e
        · rename_i hk; cases e; subst hk; simp only [VR] at hx hy; subst hx; subst hy; simp [Op.equalIn, O.runUnd hu]
        · cases e
      · rename_i a c hu; cases e; simp only [VR] at hx hy
        obtain ⟨bx, rfl, rfl⟩ := hx; obtain ⟨by', rfl, rfl⟩ := hy
        simp [Op.equalIn, O.runUnd hu, bytesOf_beq, beq_toListBytes]
      · rename_i q hu; cases e; simp only [VR] at hx hy; subst hx; subst hy; simp [Op.equalIn, O.runUnd hu]
      · rename_i q b' o' hu; cases e; simp only [VR] at hx hy; subst hx; obtain ⟨l, _, rfl⟩ := hy; simp [Op.equalIn, O.runUnd hu]
      · rename_i q b' o' hu; cases e; simp only [VR] at hx hy; subst hy; obtain ⟨l, _, rfl⟩ := hx; simp [Op.equalIn, O.runUnd hu]
      · rename_i el b1 o1 b2 o2 hu
        simp only [VR] at hx hy
        obtain ⟨l1, h1, rfl⟩ := hx; obtain ⟨l2, h2, rfl⟩ := hy
        split at e
        · rename_i m hm
          simp only [Op.equalIn, Sem.run_bind, O.runUnd hu, Result.andThen_ok, O.runSize hm]
          simp only [ne_eq, not_false_eq_true, if_true, Nat.succ_ne_zero]
          split at e
          · rename_i hb; subst hb
            rw [h1] at h2; cases h2
            cases e
            have : (({ block := l1.r, off := l1.δ + o1 } : Addr) == { block := l1.r, off := l1.δ + o2 }) = (o1 == o2) := by
              rw [Bool.eq_iff_iff]; simp
            simp [sameAddr, this]
          · rename_i hb
            split at e
            · rename_i hp
              cases e
              simp only [Bool.and_eq_true] at hp
              obtain ⟨s1, rc1, e1, g1, _⟩ := plainBlock_spec R h1 hp.1
              obtain ⟨s2, rc2, e2, g2, _⟩ := plainBlock_spec R h2 hp.2
              exact run_sameAddr_far P g1 g2 (fun hr => hb (R.inj _ _ _ _ h1 h2 s1 s2 hr))
            · cases e
        · cases e
      · rename_i q hu; cases e; simp only [VR] at hx hy; subst hx; subst hy; simp [Op.equalIn, O.runUnd hu]
      · rename_i q b' o' hu; cases e; simp only [VR] at hx hy; subst hx; obtain ⟨l, rfl, _⟩ := hy; simp [Op.equalIn, O.runUnd hu]
      · rename_i q b' o' hu; cases e; simp only [VR] at hx hy; subst hy; obtain ⟨l, rfl, _⟩ := hx; simp [Op.equalIn, O.runUnd hu]
      · rename_i q tx vx' ty vy' hu
        simp only [VR] at hx hy
        obtain ⟨x', rfl, hx'⟩ := hx; obtain ⟨y', rfl, hy'⟩ := hy
        simp only [Op.equalIn, Sem.run_bind, O.runUnd hu, Result.andThen_ok]
        split at e
        · rename_i hne; cases e; simp [hne]
        · rename_i heq
          have heq' : tx = ty := Classical.not_not.1 heq
          subst heq'
          split at e
          · rename_i i hi
            split at e
            · rename_i hcmp
              simp only [ne_eq, not_true_eq_false, if_false, Sem.run_bind, O.runInfo hi, Result.andThen_ok, hcmp, Bool.not_true, Bool.false_eq_true]
              exact ih.1 _ _ _ _ _ _ _ e (by omega) hx' hy'
            · cases e
          · cases e
      · rename_i fs xs ys hu
        split at e
        · rename_i hsq
          simp only [VR] at hx hy
          obtain ⟨ax, rfl, hax⟩ := hx; obtain ⟨ay, rfl, hay⟩ := hy
          have hf : P.fieldsOf t = fs := by simp [Program.fieldsOf, O.und _ _ hu]
          rw [run_equalIn_struct w d t ax ay (by rw [hf]; exact O.und _ _ hu) (O.seq _ hsq).2, hf]
          exact ih.2.1 _ _ _ _ _ _ _ e (by omega) hax hay
        · cases e
      · rename_i len el xs ys hu
        split at e
        · split at e
          · rename_i c hc
            simp only [VR] at hx hy
            obtain ⟨ax, rfl, hax⟩ := hx; obtain ⟨ay, rfl, hay⟩ := hy
            unfold Env.size at hc
            cases hi : E.info el with
            | none => simp [hi] at hc
            | some i =>
              simp only [hi, Option.map_some, Option.some.injEq] at hc
              have hcc : P.cellsOf el = c := by simp [Program.cellsOf, O.info _ _ hi, hc]
              rw [run_equalIn_array w d ax ay (O.und _ _ hu) (O.info _ _ hi), hcc, List.range_eq_range']
              exact ih.2.2 _ _ _ _ _ _ _ _ _ _ e (by omega) hax hay
          · cases e
        · cases e
      · rename_i q hu; cases e; simp only [VR] at hx hy; subst hx; subst hy; simp [Op.equalIn, O.runUnd hu]
      · rename_i q _ _ _ _ hu; cases e; simp only [VR] at hx hy; subst hx; obtain ⟨l, a, c, _, rfl, _⟩ := hy; simp [Op.equalIn, O.runUnd hu]
      · rename_i q _ _ _ _ hu; cases e; simp only [VR] at hx hy; subst hy; obtain ⟨l, a, c, _, rfl, _⟩ := hx; simp [Op.equalIn, O.runUnd hu]
      · rename_i q _ hu; cases e; simp only [VR] at hx hy; subst hx; subst hy; simp [Op.equalIn, O.runUnd hu]
      · rename_i q _ _ hu; cases e; simp only [VR] at hx hy; subst hx; obtain ⟨l, _, rfl⟩ := hy; simp [Op.equalIn, O.runUnd hu]
      · rename_i q _ _ hu; cases e; simp only [VR] at hx hy; subst hy; obtain ⟨l, _, rfl⟩ := hx; simp [Op.equalIn, O.runUnd hu]
      · rename_i q _ _ hu; cases e; simp only [VR] at hx hy; subst hx; subst hy; simp [Op.equalIn, O.runUnd hu]
      · rename_i q _ _ _ _ _ hu; cases e; simp only [VR] at hx hy; subst hx; obtain ⟨_, _, _, rfl, _⟩ := hy; simp [Op.equalIn, O.runUnd hu]
      · rename_i q _ _ _ _ _ hu; cases e; simp only [VR] at hx hy; subst hy; obtain ⟨_, _, _, rfl, _⟩ := hx; simp [Op.equalIn, O.runUnd hu]
      · cases e
    · intro fs xs ys b d ax ay e hd hx hy
      cases fs with
      | nil => simp only [eqlFields, Option.some.injEq] at e; subst e; simp [Op.eqFields]
      | cons f fs =>
        simp only [eqlFields] at e
        simp only [Op.eqFields]
        by_cases hn : f.name = "_"
        · rw [if_pos hn] at e
          simp only [hn, ne_eq, not_true_eq_false, if_false]
          exact ih.2.1 _ _ _ _ _ _ _ e (by omega) hx hy
        · rw [if_neg hn] at e
          simp only [ne_eq, hn, not_false_eq_true, if_true]
          split at e
          · rename_i a c ha hc
            obtain ⟨va, ea, hva⟩ := run_part (w := w) O hx ha
            obtain ⟨vc, ec, hvc⟩ := run_part (w := w) O hy hc
            simp only [Sem.run_bind, ea, ec, Result.andThen_ok]
            split at e
            · rename_i he
              rw [ih.1 _ _ _ _ d _ _ he (by omega) hva hvc]
              simp only [Result.andThen_ok, Bool.not_true, Bool.false_eq_true, if_false]
              exact ih.2.1 _ _ _ _ _ _ _ e (by omega) hx hy
            · rename_i he
              cases e
              rw [ih.1 _ _ _ _ d _ _ he (by omega) hva hvc]
              simp
            · cases e
          · cases e
    · intro el c xs ys rem i b d ax ay e hd hx hy
      cases rem with
      | zero => simp only [eqlElems, Option.some.injEq] at e; subst e; simp [Op.eqItems]
      | succ rem =>
        simp only [eqlElems] at e
        simp only [List.range'_succ, Op.eqItems]
        split at e
        · rename_i a c' ha hc
          obtain ⟨va, ea, hva⟩ := run_part (w := w) O hx ha
          obtain ⟨vc, ec, hvc⟩ := run_part (w := w) O hy hc
          simp only [Sem.run_bind, ea, ec, Result.andThen_ok]
          split at e
          · rename_i he
            rw [ih.1 _ _ _ _ d _ _ he (by omega) hva hvc]
            simp only [Result.andThen_ok, Bool.not_true, Bool.false_eq_true, if_false]
            exact ih.2.2 _ _ _ _ _ _ _ _ _ _ e (by omega) hx hy
          · rename_i he
            cases e
            rw [ih.1 _ _ _ _ d _ _ he (by omega) hva hvc]
            simp
          · cases e
        · cases e

theorem run_eql (O : EnvOK P E) (R : Rel μ h w₀ w) {t : TypeId} {x y : SV} {b : Bool} {vx vy : Value} (e : eqlS E 1000 t x y h = some b) (hx : VR μ x vx) (hy : VR μ y vy) :
    (Op.equal t vx vy).run P w = .ok b w := (eql_sound O R 1000).1 _ _ _ _ Op.maxDepth _ _ e (by decide) hx hy
end
end Go.Sh

namespace Go.Sh
open Go.RowKit
variable [Syms]
section
variable {P : Program} {E : Env} {w w₀ : World} {μ : Mu} {h : Hp}

theorem VR.int_inv {x : SV} {k : IntKind} {n : Int} (hs : x.isSym = false) (hv : VR μ x (.int k n)) : x = .any ∨ x = .int k n := by
  cases x
  case lin => cases hs
  case cmp => cases hs
  case sym k' u => first | (cases hs; done) | (simp only [VR] at hv; obtain ⟨_, hv⟩ := hv; cases u <;> simp [Unk.has] at hv)
  all_goals (simp only [VR, reduceCtorEq, false_and, and_false, exists_const, exists_false] at hv <;> simp_all)
theorem VR.float_inv {x : SV} {k : FloatKind} {n : Nat} (hv : VR μ x (.float k n)) : x = .any ∨ x = .float k n := by
  cases x
  case sym k' u => first | (cases hs; done) | (simp only [VR] at hv; obtain ⟨_, hv⟩ := hv; cases u <;> simp [Unk.has] at hv)
  all_goals (simp only [VR, reduceCtorEq, false_and, and_false, exists_const, exists_false] at hv <;> simp_all)
theorem VR.complex_inv {x : SV} {k : FloatKind} {n m : Nat} (hv : VR μ x (.complex k n m)) : x = .any := by
  cases x
  case sym k' u => first | (cases hs; done) | (simp only [VR] at hv; obtain ⟨_, hv⟩ := hv; cases u <;> simp [Unk.has] at hv)
  all_goals (simp only [VR, reduceCtorEq, false_and, and_false, exists_const, exists_false] at hv <;> simp_all)
theorem VR.string_inv {x : SV} {s : ByteArray} (hs : x.isSym = false) (hv : VR μ x (.string s)) : x = .any ∨ x = .string (bytesOf s) := by
  cases x
  case sym k' u => first | (cases hs; done) | (simp only [VR] at hv; obtain ⟨_, hv⟩ := hv; cases u <;> simp [Unk.has] at hv)
  all_goals (simp only [VR, reduceCtorEq, false_and, and_false, exists_const, exists_false] at hv <;> simp_all)
theorem VR.nilIface_inv {x : SV} (hv : VR μ x .nilIface) : x = .any ∨ x = .nilIface := by
  cases x
  case sym k' u => first | (cases hs; done) | (simp only [VR] at hv; obtain ⟨_, hv⟩ := hv; cases u <;> simp [Unk.has] at hv)
  all_goals (simp only [VR, reduceCtorEq, false_and, and_false, exists_const, exists_false] at hv <;> simp_all)
theorem VR.agg_inv {x : SV} {a : Array Value} (hv : VR μ x (.agg a)) : x = .any ∨ ∃ cs, x = .agg cs := by
  cases x
  case sym k' u => first | (cases hs; done) | (simp only [VR] at hv; obtain ⟨_, hv⟩ := hv; cases u <;> simp [Unk.has] at hv)
  all_goals (simp only [VR, reduceCtorEq, false_and, and_false, exists_const, exists_false] at hv <;> simp_all)

theorem eqlS_any {n : Nat} {t : TypeId} {x y : SV} {b : Bool} (e : eqlS E n t x y h = some b) : x ≠ .any ∧ y ≠ .any := by
  cases n with
  | zero => simp [eqlS] at e
  | succ n =>
    constructor
    · rintro rfl
      simp only [eqlS] at e
      split at e <;> first | contradiction | cases e
    · rintro rfl
      simp only [eqlS] at e
      split at e <;> first | contradiction | cases e

theorem eqlS_sym {n : Nat} {t : TypeId} {x y : SV} {b : Bool} (e : eqlS E n t x y h = some b) : x.isSym = false ∧ y.isSym = false := by
  cases n with
  | zero => simp [eqlS] at e
  | succ n =>
    constructor
    · cases x <;> first | rfl | (simp only [eqlS] at e; split at e <;> first | contradiction | cases e)
    · cases y <;> first | rfl | (simp only [eqlS] at e; split at e <;> first | contradiction | cases e)

theorem ValR.weak {v v' : SV} {h' : Hp} {res : Result Value} (k : ValR μ h w₀ (.val v h') res) (hv : ∀ (μ' : Mu) x, VR μ' v x → VR μ' v' x) : ValR μ h w₀ (.val v' h') res := by
  obtain ⟨x, w', μ', e, R, G, hx⟩ := k
  exact ⟨x, w', μ', e, R, G, hv _ _ hx⟩

theorem VR.sym_int {k : IntKind} {n : Int} (μ : Mu) (x : Value) (hx : VR μ (.int k n) x) : VR μ (.sym 0 (.int k)) x := by
  simp only [VR, Unk.has] at hx ⊢
  exact ⟨Or.inl trivial, n, hx⟩
theorem VR.sym_bool {b : Bool} (μ : Mu) (x : Value) (hx : VR μ (.bool b) x) : VR μ (.sym 0 .bool) x := by
  simp only [VR, Unk.has] at hx ⊢
  exact ⟨Or.inl trivial, b, hx⟩

theorem binOp_eql_other (t : TypeId) (x y : Value) (h1 : ∀ k a j b, ¬ (x = .int k a ∧ y = .int j b)) (h2 : ∀ k a j b, ¬ (x = .float k a ∧ y = .float j b)) (h3 : ∀ k a c j b d, ¬ (x = .complex k a c ∧ y = .complex j b d))
    (h4 : ∀ a b, ¬ (x = .string a ∧ y = .string b)) : Go.binOp .eql t x y = (do pure (.bool (← Op.equal t x y))) := by
  cases x <;> cases y <;> first
    | rfl
    | exact absurd ⟨rfl, rfl⟩ (h1 _ _ _ _)
    | exact absurd ⟨rfl, rfl⟩ (h2 _ _ _ _)
    | exact absurd ⟨rfl, rfl⟩ (h3 _ _ _ _ _ _)
    | exact absurd ⟨rfl, rfl⟩ (h4 _ _)

theorem binOp_neq_other (t : TypeId) (x y : Value) (h1 : ∀ k a j b, ¬ (x = .int k a ∧ y = .int j b)) (h2 : ∀ k a j b, ¬ (x = .float k a ∧ y = .float j b)) (h3 : ∀ k a c j b d, ¬ (x = .complex k a c ∧ y = .complex j b d))
    (h4 : ∀ a b, ¬ (x = .string a ∧ y = .string b)) : Go.binOp .neq t x y = (do pure (.bool (!(← Op.equal t x y)))) := by
  cases x <;> cases y <;> first
    | rfl
    | exact absurd ⟨rfl, rfl⟩ (h1 _ _ _ _)
    | exact absurd ⟨rfl, rfl⟩ (h2 _ _ _ _)
    | exact absurd ⟨rfl, rfl⟩ (h3 _ _ _ _ _ _)
    | exact absurd ⟨rfl, rfl⟩ (h4 _ _)

theorem eqlS_agg {n : Nat} {t : TypeId} {xs : List SV} {y : SV} {b : Bool} (e : eqlS E n t (.agg xs) y h = some b) : E.seq t = true := by
  cases n with
  | zero => simp [eqlS] at e
  | succ n =>
    simp only [eqlS] at e
    split at e <;> first
      | contradiction
      | (split at e
         · assumption
         · cases e)
      | cases e

theorem isConstO_spec {x : Operand} (hx : isConstO x = true) : ∃ v, x = .const v := by cases x <;> simp_all [isConstO]

theorem run_eqGuard (O : EnvOK P E) {op : BinOp} {t : TypeId} {ox oy : Operand} {x y : SV} {vx vy : Value} {b : Bool} (e : eqlS E 1000 t x y h = some b) (hx : VR μ x vx) (hy : VR μ y vy)
    (hl : ¬ (x = .nilIface ∧ y = .nilIface ∧ (isConstO ox || isConstO oy) = false)) : (eqGuard op t ox oy vx vy).run P w = .ok () w := by
  have hk := eqlS_any e
  cases vx <;> cases vy <;> first
    | (cases op <;> rfl)
    | skip
  · -- two nils
    have e1 := (VR.nilIface_inv hx).resolve_left hk.1
    have e2 := (VR.nilIface_inv hy).resolve_left hk.2
    have hc : (isConstO ox || isConstO oy) = true := by
      cases hh : (isConstO ox || isConstO oy) with
      | true => rfl
      | false => exact absurd ⟨e1, e2, hh⟩ hl
    rw [Bool.or_eq_true] at hc
    rcases hc with hc | hc
    · obtain ⟨v, rfl⟩ := isConstO_spec hc; cases op <;> simp [eqGuard]
    · obtain ⟨v, rfl⟩ := isConstO_spec hc; cases op <;> simp [eqGuard]
  · rename_i xs ys
    obtain ⟨cs, rfl⟩ := (VR.agg_inv hx).resolve_left hk.1
    exact run_eqGuard_agg w op t ox oy xs ys (O.seq _ (eqlS_agg e)).1

theorem toLin_sound {x : SV} {v : Value} {c : Int} {l : List (Nat × Int)} (h : toLin x = some (c, l)) (hx : VR μ x v) : ∃ n, v = .int .i64 n ∧ n = c + sumL l := by
  unfold toLin at h
  split at h
  · simp only [Option.some.injEq, Prod.mk.injEq] at h
    obtain ⟨rfl, rfl⟩ := h
    simp only [VR] at hx
    exact ⟨_, hx, by simp [sumL]⟩
  · simp only [Option.some.injEq, Prod.mk.injEq] at h
    obtain ⟨rfl, rfl⟩ := h
    simp only [VR] at hx
    exact ⟨_, hx, rfl⟩
  · simp only [Option.some.injEq, Prod.mk.injEq] at h
    obtain ⟨rfl, rfl⟩ := h
    simp only [VR, Unk.has] at hx
    obtain ⟨hv, n, rfl⟩ := hx
    refine ⟨n, rfl, ?_⟩
    have hv := hv.resolve_left (by simp)
    simp only [sumL, iv, ivOf, ← hv]; omega
  · cases h

theorem inI64_spec {lo hi : Int} (h : inI64 lo hi = true) : -9223372036854775808 ≤ lo ∧ hi ≤ 9223372036854775807 := by
  unfold inI64 at h
  simpa using h

theorem wrap_in64 {n : Int} (h1 : -9223372036854775808 ≤ n) (h2 : n ≤ 9223372036854775807) : IntKind.i64.wrap n = n := by
  simp only [IntKind.wrap, IntKind.bits, IntKind.signed, Bool.true_and, Nat.reduceSub, Int.reducePow]
  split <;> rename_i hh <;> first | (have hh := of_decide_eq_true hh; omega) | (have hh : ¬ _ := fun hp => hh (decide_eq_true hp); omega)

theorem linS_sound (R : Rel μ h w₀ w) {c : Int} {l : List (Nat × Int)} {n : Int} (e : n = c + sumL l) {res : Result Value} (hr : res = .ok (.int .i64 (IntKind.i64.wrap n)) w) : ValR μ h w₀ (linS c l h) res := by
  subst hr
  unfold linS
  split
  · rename_i lo hi hrg
    obtain ⟨h1, h2⟩ := rangeL_sound R.bx c l lo hi hrg
    split
    · rename_i hin
      obtain ⟨h3, h4⟩ := inI64_spec hin
      have hw : IntKind.i64.wrap n = n := wrap_in64 (by omega) (by omega)
      rw [hw]
      split
      · exact ValR.same R (by simp only [VR]; rw [e]; simp [sumL])
      · exact ValR.same R (by simp only [VR]; rw [e])
    · exact ValR.same R (by simp only [VR, Unk.has]; exact ⟨Or.inl trivial, _, rfl⟩)
  · exact ValR.same R (by simp only [VR, Unk.has]; exact ⟨Or.inl trivial, _, rfl⟩)

theorem cmpS_sound (R : Rel μ h w₀ w) {r : Cmp} {c : Int} {l : List (Nat × Int)} {b : Bool} (e : b = r.holds (c + sumL l)) {res : Result Value} (hr : res = .ok (.bool b) w) : ValR μ h w₀ (cmpS r c l h) res := by
  subst hr
  unfold cmpS
  split
  · rename_i b' hd
    cases hrg : rangeL h.bx c l with
    | none => rw [hrg] at hd; cases hd
    | some p =>
      obtain ⟨lo, hi⟩ := p
      rw [hrg] at hd
      obtain ⟨h1, h2⟩ := rangeL_sound R.bx c l lo hi hrg
      have := dec_sound hd h1 h2
      exact ValR.same R (by simp only [VR]; rw [e, this])
  · exact ValR.same R (by simp only [VR]; rw [e])

theorem remS_sound (R : Rel μ h w₀ w) {c : Int} {l : List (Nat × Int)} {n m : Int} (e : n = c + sumL l) {res : Result Value} (hr : m ≠ 0 → res = .ok (.int .i64 (n.tmod m)) w) : ValR μ h w₀ (remS c l m h) res := by
  unfold remS
  split
  · rename_i a
    split
    · rename_i hc
      obtain ⟨p1, p2, p3⟩ := hc
      have hr := hr (by omega)
      subst hr
      simp only [sumL] at e
      have hi : n = iv a := by omega
      obtain ⟨m', rfl⟩ : ∃ k : Nat, m = (k : Int) := ⟨m.toNat, by omega⟩
      simp only [Int.toNat_natCast]
      have hrem : iv (remIdx a m') = n.tmod m' := by
        rw [hi]; exact Syms.rem a m' p3 (by omega) (by omega)
      exact ValR.same R (by simp only [VR, sumL, hrem]; congr 1; omega)
    · trivial
  · trivial

theorem linBin_sound (R : Rel μ h w₀ w) (op : BinOp) (t : TypeId) {c d : Int} {l m : List (Nat × Int)} {a b : Int} (ha : a = c + sumL l) (hb : b = d + sumL m) :
    ValR μ h w₀ (linBin op c l d m h) ((Go.binOp op t (.int .i64 a) (.int .i64 b)).run P w) := by
  have hs : a - b = (c - d) + sumL (addL l (negL m)) := by rw [sumL_add, sumL_neg]; omega
  have hp : a + b = (c + d) + sumL (addL l m) := by rw [sumL_add]; omega
  have cm : ∀ r : Cmp, ∀ q : Bool, q = r.holds (a - b) → ∀ res : Result Value, res = .ok (.bool q) w → ValR μ h w₀ (cmpS r (c - d) (addL l (negL m)) h) res := fun r q hq res hr => cmpS_sound R (by rw [hq, hs]) hr
  cases op <;> simp only [linBin, Cmp.of] <;> try trivial
  · exact linS_sound R hp (by simp [Go.binOp, Op.intArith])
  · exact linS_sound R hs (by simp [Go.binOp, Op.intArith])
  · split
    · simp only [sumL] at hb
      have hb : b = d := by omega
      subst hb
      exact remS_sound R ha fun h0 => by simp [Go.binOp, Op.intDiv, h0]
    · trivial
  · exact cm .eq (a == b) (by simp only [Cmp.holds]; rw [Bool.eq_iff_iff]; simp <;> omega) _ (by simp [Go.binOp, Op.intCmp])
  · exact cm .ne (a != b) (by simp only [Cmp.holds]; rw [Bool.eq_iff_iff]; simp <;> omega) _ (by simp [Go.binOp, Op.intCmp])
  · exact cm .lt (decide (a < b)) (by simp only [Cmp.holds]; rw [Bool.eq_iff_iff]; simp <;> omega) _ (by simp [Go.binOp, Op.intCmp])
  · exact cm .le (decide (a ≤ b)) (by simp only [Cmp.holds]; rw [Bool.eq_iff_iff]; simp <;> omega) _ (by simp [Go.binOp, Op.intCmp])
  · exact cm .gt (decide (a > b)) (by simp only [Cmp.holds]; rw [Bool.eq_iff_iff]; simp <;> omega) _ (by simp [Go.binOp, Op.intCmp])
  · exact cm .ge (decide (a ≥ b)) (by simp only [Cmp.holds]; rw [Bool.eq_iff_iff]; simp <;> omega) _ (by simp [Go.binOp, Op.intCmp])

theorem symBin_sound (O : EnvOK P E) (R : Rel μ h w₀ w) (op : BinOp) (t : TypeId) (ox oy : Operand) {x y : SV} {vx vy : Value} (hx : VR μ x vx) (hy : VR μ y vy) :
    ValR μ h w₀ (symBin op x y h) ((do eqGuard op t ox oy vx vy; Go.binOp op t vx vy : Sem Value).run P w) := by
  have gint : ∀ k a j b, (eqGuard op t ox oy (.int k a) (.int j b)).run P w = .ok () w := fun k a j b => by cases op <;> rfl
  have gst : ∀ a b, (eqGuard op t ox oy (.string a) (.string b)).run P w = .ok () w := fun a b => by cases op <;> rfl
  have int : ∀ k k' a b, vx = .int k a → vy = .int k' b → ValR μ h w₀ (symInt op k k' h) ((do eqGuard op t ox oy vx vy; Go.binOp op t vx vy : Sem Value).run P w) := by
    rintro k k' a b rfl rfl
    unfold symInt
    split
    · trivial
    · rename_i hk
      have hk' : k = k' := Classical.not_not.1 hk
      subst hk'
      simp only [Sem.run_bind]
      rw [gint, Result.andThen_ok]
      have main := fun h1 h2 => intBin_sound (E := E) O R op ⟨h1, h2⟩ k t a b
      cases op <;> first
        | trivial
        | exact (main (by simp) (by simp)).weak fun μ' x hx => VR.sym_int μ' x hx
        | exact (main (by simp) (by simp)).weak fun μ' x hx => VR.sym_bool μ' x hx
  have str : ∀ a b, vx = .string a → vy = .string b → ValR μ h w₀ (symStr op h) ((do eqGuard op t ox oy vx vy; Go.binOp op t vx vy : Sem Value).run P w) := by
    rintro a b rfl rfl
    unfold symStr
    simp only [Sem.run_bind]
    rw [gst, Result.andThen_ok]
    have : Go.binOp op t (.string a) (.string b) = Op.stringOp op a b := by cases op <;> simp [Go.binOp]
    rw [this]
    have main := strOp_sound (P := P) (a := a) (b := b) R op
    cases op <;> first
      | trivial
      | exact ValR.weak main fun μ' x hx => VR.sym_bool μ' x hx
  unfold symBin
  split
  · rename_i c l d m h1 h2
    obtain ⟨a, rfl, ha⟩ := toLin_sound h1 hx
    obtain ⟨b, rfl, hb⟩ := toLin_sound h2 hy
    simp only [Sem.run_bind]
    rw [gint, Result.andThen_ok]
    exact linBin_sound R op t ha hb
  unfold symBin0
  split
  · simp only [VR] at hx hy; obtain ⟨_, a, rfl⟩ := hx; subst hy; exact int _ _ _ _ rfl rfl
  · simp only [VR] at hx hy; obtain ⟨_, a, rfl⟩ := hy; subst hx; exact int _ _ _ _ rfl rfl
  · simp only [VR] at hx hy; obtain ⟨_, a, rfl⟩ := hx; obtain ⟨_, b, rfl⟩ := hy; exact int _ _ _ _ rfl rfl
  · simp only [VR] at hx hy; obtain ⟨_, a, rfl⟩ := hx; obtain ⟨b, rfl, _⟩ := hy; exact str _ _ rfl rfl
  · simp only [VR] at hx hy; obtain ⟨_, a, rfl⟩ := hy; obtain ⟨b, rfl, _⟩ := hx; exact str _ _ rfl rfl
  · simp only [VR] at hx hy; obtain ⟨_, a, rfl⟩ := hx; obtain ⟨_, b, rfl⟩ := hy; exact str _ _ rfl rfl
  · trivial

theorem bin_sound (O : EnvOK P E) (R : Rel μ h w₀ w) (op : BinOp) (t : TypeId) (ox oy : Operand) {x y : SV} {vx vy : Value} (hx : VR μ x vx) (hy : VR μ y vy) :
    ValR μ h w₀ (binS E op t (isConstO ox || isConstO oy) x y h) ((do eqGuard op t ox oy vx vy; Go.binOp op t vx vy : Sem Value).run P w) := by
  have gint : ∀ k a j b, (eqGuard op t ox oy (.int k a) (.int j b)).run P w = .ok () w := fun k a j b => by cases op <;> rfl
  have gfl : ∀ k a j b, (eqGuard op t ox oy (.float k a) (.float j b)).run P w = .ok () w := fun k a j b => by cases op <;> rfl
  have gst : ∀ a b, (eqGuard op t ox oy (.string a) (.string b)).run P w = .ok () w := fun a b => by cases op <;> rfl
  unfold binS
  split
  · exact symBin_sound O R op t ox oy hx hy
  rename_i hsym
  clear hsym
  simp only [Sem.run_bind]
  split
  · rename_i k a yk b
    simp only [VR] at hx hy; subst hx; subst hy
    split
    · trivial
    · rw [gint]; exact ValR.scalar R _
  · rename_i k a yk b
    simp only [VR] at hx hy; subst hx; subst hy
    split
    · trivial
    · rw [gint]; exact ValR.scalar R _
  · rename_i k a k' b hn1 hn2
    split
    · trivial
    · rename_i hk
      have hk' : k = k' := Classical.not_not.1 hk
      subst hk'
      simp only [VR] at hx hy; subst hx; subst hy
      rw [gint, Result.andThen_ok]
      exact intBin_sound O R op ⟨fun e => hn1 e, fun e => hn2 e⟩ k t a b
  · rename_i k a k' b
    split
    · trivial
    · rename_i hk
      have hk' : k = k' := Classical.not_not.1 hk
      subst hk'
      simp only [VR] at hx hy; subst hx; subst hy
      rw [gfl, Result.andThen_ok]
      have : Go.binOp op t (.float k a) (.float k b) = (match op with | .add | .sub | .mul | .quo => Op.floatArith op k a b | _ => Op.floatCmp op k a b) := by
        cases op <;> simp [Go.binOp]
      rw [this]
      cases op <;> exact ValR.scalar R _
  · rename_i a b
    simp only [VR] at hx hy
    obtain ⟨bx, rfl, rfl⟩ := hx; obtain ⟨by', rfl, rfl⟩ := hy
    rw [gst, Result.andThen_ok]
    have : Go.binOp op t (.string bx) (.string by') = Op.stringOp op bx by' := by cases op <;> simp [Go.binOp]
    rw [this]
    exact strOp_sound R op
  · rename_i hni hnf hns
    split
    · trivial
    · rename_i hlit
      split
      · rename_i b e
        have hk := eqlS_any e
        have hks := eqlS_sym e
        rw [run_eqGuard O e hx hy (fun ⟨h1, h2, h3⟩ => hlit h1 h2 h3), Result.andThen_ok,
          binOp_eql_other t vx vy
            (fun k a j c ⟨h1, h2⟩ => hni k a j c ((VR.int_inv hks.1 (h1 ▸ hx)).resolve_left hk.1) ((VR.int_inv hks.2 (h2 ▸ hy)).resolve_left hk.2))
            (fun k a j c ⟨h1, h2⟩ => hnf k a j c ((VR.float_inv (h1 ▸ hx)).resolve_left hk.1) ((VR.float_inv (h2 ▸ hy)).resolve_left hk.2))
            (fun k a j c d f ⟨h1, h2⟩ => hk.1 (VR.complex_inv (h1 ▸ hx)))
            (fun a c ⟨h1, h2⟩ => hns _ _ ((VR.string_inv hks.1 (h1 ▸ hx)).resolve_left hk.1) ((VR.string_inv hks.2 (h2 ▸ hy)).resolve_left hk.2))]
        simp only [Sem.run_bind, run_eql O R e hx hy, Result.andThen_ok]
        exact ValR.same R (by simp [VR])
      · trivial
  · rename_i hni hnf hns
    split
    · trivial
    · rename_i hlit
      split
      · rename_i b e
        have hk := eqlS_any e
        have hks := eqlS_sym e
        rw [run_eqGuard O e hx hy (fun ⟨h1, h2, h3⟩ => hlit h1 h2 h3), Result.andThen_ok,
          binOp_neq_other t vx vy
            (fun k a j c ⟨h1, h2⟩ => hni k a j c ((VR.int_inv hks.1 (h1 ▸ hx)).resolve_left hk.1) ((VR.int_inv hks.2 (h2 ▸ hy)).resolve_left hk.2))
            (fun k a j c ⟨h1, h2⟩ => hnf k a j c ((VR.float_inv (h1 ▸ hx)).resolve_left hk.1) ((VR.float_inv (h2 ▸ hy)).resolve_left hk.2))
            (fun k a j c d f ⟨h1, h2⟩ => hk.1 (VR.complex_inv (h1 ▸ hx)))
            (fun a c ⟨h1, h2⟩ => hns _ _ ((VR.string_inv hks.1 (h1 ▸ hx)).resolve_left hk.1) ((VR.string_inv hks.2 (h2 ▸ hy)).resolve_left hk.2))]
        simp only [Sem.run_bind, run_eql O R e hx hy, Result.andThen_ok]
        exact ValR.same R (by simp [VR])
      · trivial
  · trivial

theorem un_sound (R : Rel μ h w₀ w) (op : UnOp) {x : SV} {vx : Value} (hx : VR μ x vx) : ValR μ h w₀ (unS op x h) ((Op.unary op vx).run P w) := by
  unfold unS
  split
  · simp only [VR] at hx; subst hx; exact ValR.same R (by simp [VR])
  · simp only [VR] at hx; subst hx; exact ValR.scalar R _
  · simp only [VR] at hx; subst hx; exact ValR.same R (by simp [VR])
  · simp only [VR] at hx; subst hx; exact ValR.same R (by simp [VR])
  · simp only [VR] at hx; obtain ⟨_, b, rfl⟩ := hx; exact ValR.same R (by simp only [VR, Unk.has]; exact ⟨Or.inl trivial, _, rfl⟩)
  · simp only [VR] at hx; subst hx; exact ValR.same R (by simp only [VR, Cmp.no_holds])
  · trivial

theorem takeBytes_spec : ∀ {l : List SV} {s : List Nat} {v : List Value}, takeBytes l = some s → VRs μ l v →
    v = s.map (fun n => Value.int .u8 ((n : Nat) : Int)) ∧ ∀ n ∈ s, n < 256
  | [], s, v, e, k => by simp only [takeBytes, Option.some.injEq] at e; subst e; simp only [VRs] at k; subst k; simp
  | x :: l, s, v, e, k => by
    simp only [VRs] at k
    obtain ⟨y, ys, rfl, hy, hys⟩ := k
    unfold takeBytes at e
    split at e
    · rename_i heq; cases heq
    · rename_i n r heq
      cases heq
      split at e
      · rename_i hn
        cases ht : takeBytes l with
        | none => simp [ht] at e
        | some s' =>
          simp only [ht, Option.map_some, Option.some.injEq] at e
          subst e
          obtain ⟨h1, h2⟩ := takeBytes_spec ht hys
          simp only [VR] at hy
          subst hy
          refine ⟨?_, ?_⟩
          · rw [h1]; simp; omega
          · intro m hm
            rcases List.mem_cons.1 hm with rfl | hm
            · omega
            · exact h2 m hm
      · cases e
    · cases e

theorem bytesOf_strOfNums {s : List Nat} (hs : ∀ n ∈ s, n < 256) : bytesOf (strOfNums (s.map fun n => ((n : Nat) : Int))) = s := by
  unfold bytesOf
  rw [strOfNums_data]
  induction s with
  | nil => rfl
  | cons n s ih =>
    simp only [List.map_cons, Int.toNat_natCast, List.cons.injEq]
    refine ⟨?_, ih fun m hm => hs m (by simp [hm])⟩
    have := hs n (by simp)
    simp [UInt8.toNat_ofNat', Nat.mod_eq_of_lt this]

theorem run_toUnsafe (O : EnvOK P E) {src dst e ty : TypeId} {r off n : Nat} {rc : Array Value} {fz : Nat × Nat} (hs : E.und src = some (.pointer e)) (hd : E.und dst = some .unsafePointer) (hr : w.heap[r]? = some (.cells rc ty fz)) (hlt : off < rc.size)
    (hn : E.size e = some (n + 1)) : (Go.convert src dst (.pointer (some ⟨r, off, none⟩))).run P w = .ok (.pointer (some ⟨r, off, none⟩)) w := by
  have hsh : w.shape? r = some (ty, rc.size) := by simp [World.shape?, hr]
  have h1 : ¬ off ≥ rc.size := by omega
  simp [Go.convert, O.runUnd hs, O.runUnd hd, Conv.unsafePointer, Conv.seenAt, viewAt, hsh, cellsIn, O.runSize hn, h1]

theorem run_fromUnsafe (O : EnvOK P E) {src dst u ty : TypeId} {r off n : Nat} {rc : Array Value} {fz : Nat × Nat} (hs : E.und src = some .unsafePointer) (hd : E.und dst = some (.pointer u)) (hr : w.heap[r]? = some (.cells rc ty fz))
    (hn : E.size ty = some (n + 1)) {m : Nat} (hu : E.size u = some m) (hl : E.lies ty (rc.size / (n + 1)) off u 1 = true) : (Go.convert src dst (.pointer (some ⟨r, off, none⟩))).run P w = .ok (.pointer (some ⟨r, off, none⟩)) w := by
  have hsh : w.shape? r = some (ty, rc.size) := by simp [World.shape?, hr]
  have hc : P.cellsOf ty = n + 1 := by
    unfold Env.size at hn
    cases hi : E.info ty with
    | none => simp [hi] at hn
    | some i => simp only [hi, Option.map_some, Option.some.injEq] at hn; simp [Program.cellsOf, O.info _ _ hi, hn]
  have hl' := O.lies _ _ _ _ _ hl
  have hv : (variablesAt ⟨r, off, none⟩ u 1).run P w = .ok true w := by
    simp [variablesAt, hsh, hc, hl']
  simp only [Go.convert, Sem.run_bind, O.runUnd hs, O.runUnd hd, Result.andThen_ok, Conv.unsafePointer]
  simp only [Conv.seenAt, viewAt, Sem.run_bind, run_shape, hsh, Result.andThen_ok, Option.isSome_some, if_true, Sem.run_pure]
  simp [O.runSize hu, hv]

theorem conv_sound (O : EnvOK P E) (R : Rel μ h w₀ w) (src dst : TypeId) {x : SV} {vx : Value} (hx : VR μ x vx) : ValR μ h w₀ (convS E src dst x h) ((Go.convert src dst vx).run P w) := by
  unfold convS
  split
  · rename_i d k k' n hs hd
    simp only [VR] at hx; subst hx
    simp only [Go.convert, Sem.run_bind, O.runUnd hs, O.runUnd hd, Result.andThen_ok, Conv.intToInt]
    exact ValR.same R (by simp [VR])
  · rename_i d k a k' hs hd
    simp only [VR] at hx; obtain ⟨_, n, rfl⟩ := hx
    simp only [Go.convert, Sem.run_bind, O.runUnd hs, O.runUnd hd, Result.andThen_ok, Conv.intToInt]
    exact ValR.same R (by simp only [VR, Unk.has]; exact ⟨Or.inl trivial, _, rfl⟩)
  · rename_i d k k' n hs hd
    simp only [VR] at hx; subst hx
    simp only [Go.convert, Sem.run_bind, O.runUnd hs, O.runUnd hd, Result.andThen_ok]
    exact ValR.scalar R _
  · rename_i d k k' n hs hd
    simp only [VR] at hx; subst hx
    simp only [Go.convert, Sem.run_bind, O.runUnd hs, O.runUnd hd, Result.andThen_ok]
    exact ValR.scalar R _
  · rename_i d k n hs hd
    simp only [VR] at hx; subst hx
    simp only [Go.convert, Sem.run_bind, O.runUnd hs, O.runUnd hd, Result.andThen_ok, Conv.intToString]
    exact ValR.same R (by simp [VR])
  · rename_i d s hs hd
    have hx' := hx
    simp only [VR] at hx; obtain ⟨b, rfl, rfl⟩ := hx
    simp only [Go.convert, Sem.run_bind, O.runUnd hs, O.runUnd hd, Result.andThen_ok]
    exact ValR.same R hx'
  · rename_i e b o hs hd
    simp only [VR] at hx; obtain ⟨l, hb, rfl⟩ := hx
    split
    · rename_i n c m hn hc
      split
      · rename_i hlt
        obtain ⟨rc, e', fz, hr, hk⟩ := R.cells hb hc
        rw [run_toUnsafe O hs hd hr (by have := hk.fits; have := hk.size; omega) hn]
        exact ValR.same R (by simp only [VR]; exact ⟨l, hb, rfl⟩)
      · trivial
    · trivial
  · rename_i u b o hs hd
    simp only [VR] at hx; obtain ⟨l, hb, rfl⟩ := hx
    split
    · rename_i e c ht hc
      split
      · rename_i n m hn hum
        split
        · rename_i hl
          obtain ⟨rc, fz, hr⟩ := R.ty _ _ _ _ _ hb ht (by
            unfold Hp.cells? at hc
            split at hc
            · rename_i c' m' hg; cases hc; exact hg
            · cases hc)
          obtain ⟨rc', e', fz', hr', hk⟩ := R.cells hb hc
          rw [hr] at hr'; cases hr'
          obtain ⟨hδ, hsz, _⟩ := hk.whole rfl
          rw [hδ, Nat.zero_add, run_fromUnsafe O hs hd hr hn hum (by rw [hk.size, hsz]; exact hl)]
          exact ValR.same R (by simp only [VR]; exact ⟨l, hb, by rw [hδ, Nat.zero_add]⟩)
        · trivial
      · trivial
    · trivial
  · rename_i e hs hd
    split
    · rename_i he
      simp only [VR] at hx; subst hx
      simp only [Go.convert, Sem.run_bind, O.runUnd hs, O.runUnd hd, O.runUnd he, Result.andThen_ok, Conv.bytesToString]
      exact ValR.same R (by simp only [VR]; exact ⟨_, rfl, rfl⟩)
    · trivial
  · rename_i e b o len cap hs hd
    simp only [VR] at hx
    obtain ⟨l, a, c, hb, rfl, ha, hcap, hlen⟩ := hx
    split
    · rename_i he
      rw [run_convert_bytes_string w src dst e _ len c (O.und _ _ hs) (O.und _ _ he) (O.und _ _ hd)]
      split
      · rename_i h0
        subst h0
        have h0 : (loadCells a 0).run P w = .ok (([] : List Int).map (Value.int .u8)).toArray w := by simp [loadCells, loadCellsFrom]
        rw [run_bytesToString w a 0 c [] h0]
        exact ValR.same R (by simp only [VR]; exact ⟨_, rfl, rfl⟩)
      · rename_i h0
        split
        · rename_i c' m hc
          cases hsub : Sh.sub c' o len with
          | none => simp only [Option.bind_none]; trivial
          | some s =>
            simp only [Option.bind_some]
            split
            · rename_i ns hns
              obtain ⟨rc, e', fz, hr, hk⟩ := R.cells hb hc
              have hv := hk.sub hsub
              obtain ⟨h1, h2⟩ := takeBytes_spec hns hv
              have hl := hv.length
              rw [(sub_eq hsub).2.1] at hl
              have ha' : a = ⟨l.r, l.δ + o, none⟩ := ha.resolve_left (by omega)
              have hrun := run_loadList (P := P) (w := w) hr hl.symm
              rw [h1] at hrun
              have e2 : (ns.map fun n => Value.int .u8 ((n : Nat) : Int)) = (ns.map fun n => ((n : Nat) : Int)).map (Value.int .u8) := by simp
              rw [e2] at hrun
              rw [ha', run_bytesToString w _ len c _ hrun, foldl_push_bytes]
              refine ValR.same R ?_
              simp only [VR]
              refine ⟨_, rfl, ?_⟩
              have h3 := bytesOf_strOfNums h2
              have h4 : (⟨ByteArray.empty.data ++ ((ns.map fun n => ((n : Nat) : Int)).map fun n => UInt8.ofNat n.toNat).toArray⟩ : ByteArray) = strOfNums (ns.map fun n => ((n : Nat) : Int)) := by
                simp [strOfNums, ByteArray.empty, ByteArray.emptyWithCapacity]
                rfl
              rw [h4, h3]
            · trivial
        · trivial
    · trivial
  · trivial
end
end Go.Sh

namespace Go.Sh
open Go.RowKit
variable [Syms]
section
variable {P : Program} {E : Env} {w w₀ : World} {μ : Mu} {h : Hp}

theorem andThen_assoc {α β γ : Type} (x : Result α) (f : α → World → Result β) (g : β → World → Result γ) : (x.andThen f).andThen g = x.andThen fun a w => (f a w).andThen g := by cases x <;> rfl

def OptVR (μ : Mu) : Option SV → Option Value → Prop
  | none, v => v = none
  | some s, v => ∃ x, v = some x ∧ VR μ s x

def hiB (hi : Option Value) (len m : Nat) (c : BoundsCode) : Sem Nat := match hi with | some v => Instr.sliceBound v m c | none => pure len

theorem sbound_sound (O : EnvOK P E) (R : Rel μ h w₀ w) {x : Option SV} {vx : Option Value} (hx : OptVR μ x vx) (d y : Nat) (c : BoundsCode) :
    match sbound E x d y c with
    | .inr n => (hiB vx d y c).run P w = .ok n w ∧ (n = d ∨ n ≤ y) ∧ (x.isSome = true → n ≤ y)
    | .inl (.fail _) => True
    | .inl o => ∃ v w', (hiB vx d y c).run P w = .halt (.panic v) w' ∧ Rel μ h w₀ w' ∧ ∀ sv, o = .panic sv → VR μ sv v := by
  unfold sbound
  cases x with
  | none => simp only [OptVR] at hx; subst hx; simp [hiB]
  | some s =>
    obtain ⟨v, rfl, hv⟩ := hx
    cases s <;> simp only [VR] at hv <;> try trivial
    rename_i k i
    subst hv
    by_cases hi : 0 ≤ i ∧ i ≤ y
    · simp only [hi, and_self, if_true]
      refine ⟨?_, .inr (by omega), fun _ => by omega⟩
      simp [hiB, Instr.sliceBound, asIntOf, hi]
    · simp only [hi, if_false]
      obtain ⟨v, w', e, R', hv⟩ := ValR.bounds (α := Nat) O R k i y c
      refine ⟨v, w', ?_, R', fun sv he => hv sv he⟩
      simp only [hiB, Instr.sliceBound, asIntOf, Sem.run_bind, Sem.run_pure, Result.andThen_ok, Sem.run_ite, hi, if_false]
      exact e

theorem sbounds_sound (O : EnvOK P E) (R : Rel μ h w₀ w) {lo hi : Option SV} {vlo vhi : Option Value} (hlo : OptVR μ lo vlo) (hhi : OptVR μ hi vhi) (len m : Nat) (ch cl : BoundsCode) {k : Nat → Nat → OR} {K : Nat → Nat → Sem Value}
    (hk : ∀ l r, l ≤ r → (r = len ∨ r ≤ m) ∧ (hi.isSome = true → r ≤ m) → ValR μ h w₀ (k l r) ((K l r).run P w)) :
    ValR μ h w₀ (sbounds E lo hi len m ch cl k) ((do let r ← hiB vhi len m ch; let l ← hiB vlo 0 r cl; K l r : Sem Value).run P w) := by
  unfold sbounds
  have h1 := sbound_sound O R hhi len m ch
  cases e1 : sbound E hi len m ch with
  | inl o =>
    simp only [e1] at h1
    cases o <;> first
      | trivial
      | (obtain ⟨v, w', e, R', hv⟩ := h1
         simp only [Sem.run_bind, e, Result.andThen_halt]
         first
           | exact ⟨v, w', rfl, R', hv _ rfl⟩
           | (exfalso; unfold sbound at e1; split at e1 <;> (try split at e1) <;> simp [boundsS] at e1))
  | inr r =>
    simp only [e1] at h1
    obtain ⟨h1, h1'⟩ := h1
    simp only [Sem.run_bind, h1, Result.andThen_ok]
    have h2 := sbound_sound O R hlo 0 r cl
    cases e2 : sbound E lo 0 r cl with
    | inl o =>
      simp only [e2] at h2
      cases o <;> first
        | trivial
        | (obtain ⟨v, w', e, R', hv⟩ := h2
           simp only [e, Result.andThen_halt]
           first
             | exact ⟨v, w', rfl, R', hv _ rfl⟩
             | (exfalso; unfold sbound at e2; split at e2 <;> (try split at e2) <;> simp [boundsS] at e2))
    | inr l =>
      simp only [e2] at h2
      obtain ⟨h2, h2'⟩ := h2
      simp only [h2, Result.andThen_ok]
      exact hk l r (by have := h2'.1; omega) h1'

theorem sliceBounds_none (b : Bool) (len cap : Nat) (lo hi : Option Value) :
    Instr.sliceBounds b len cap lo hi none = (do let r ← hiB hi len cap (if b then .sliceAcap else .sliceAlen); let l ← hiB lo 0 r .sliceB; pure (l, r, cap)) := by
  cases hi <;> cases lo <;> rfl

theorem sliceBounds_some (len cap : Nat) (lo : Option Value) (hi mx : Value) :
    Instr.sliceBounds true len cap lo (some hi) (some mx) = (do let m ← Instr.sliceBound mx cap .slice3Acap; let r ← hiB (some hi) len m .slice3B; let l ← hiB lo 0 r .slice3C; pure (l, r, m)) := by
  cases lo <;> rfl

theorem slice_sound (O : EnvOK P E) (R : Rel μ h w₀ w) (t : TypeId) {x : SV} {lo hi mx : Option SV} {vx : Value} {vlo vhi vmx : Option Value} (hx : VR μ x vx) (hlo : OptVR μ lo vlo) (hhi : OptVR μ hi vhi)
    (hmx : OptVR μ mx vmx) : ValR μ h w₀ (sliceS E t x lo hi mx h) ((Instr.sliceAt t vx vlo vhi vmx).run P w) := by
  unfold sliceS
  split
  · -- a text
    rename_i s hu
    split
    · trivial
    · rename_i hm
      have hmx' : mx = none := by cases mx <;> simp_all
      subst hmx'
      simp only [OptVR] at hmx; subst hmx
      simp only [VR] at hx; obtain ⟨b, rfl, rfl⟩ := hx
      simp only [Instr.sliceAt, Instr.slice, Sem.run_bind, O.runUnd hu, Result.andThen_ok, Option.isSome_none, Bool.false_eq_true, if_false, Sem.run_pure, sliceBounds_none]
      rw [bytesOf_length]
      have := sbounds_sound O R hlo hhi b.size b.size .sliceAlen .sliceB (k := fun l r => .val (.string (((bytesOf b).take r).drop l)) h) (K := fun l r => pure (.string (b.extract l r)))
        (fun l r _ _ => ValR.same R (by simp only [VR]; exact ⟨_, rfl, bytesOf_extract b l r⟩))
      simpa only [andThen_assoc, Sem.run_bind, Result.andThen_ok, Sem.run_pure, Bool.false_eq_true, if_false] using this
  · -- a slice
    rename_i elem b o len cap hu
    simp only [VR] at hx
    obtain ⟨l, a, c, hb, rfl, ha, hcap, hlen⟩ := hx
    split
    · trivial
    · rename_i size hsz
      split
      · rename_i c'
        simp only [CapR] at hcap; subst hcap
        simp only [OptVR] at hmx; subst hmx
        simp only [Instr.sliceAt, Instr.slice, Sem.run_bind, O.runUnd hu, Result.andThen_ok, sliceBounds_none]
        have := sbounds_sound O R hlo hhi len c .sliceAcap .sliceB (k := fun l r => .val (.slice b (if c = l then o else o + l * size) (r - l) (.exact (c - l))) h)
          (K := fun l r => pure (.slice (if c = l then some a else (some a).map (·.add (l * size))) (r - l) (c - l)))
          (fun i r hi ⟨hr, hs⟩ => ValR.same R (by
            simp only [VR]
            by_cases hcl : c = i
            · subst hcl
              simp only [if_true]
              exact ⟨l, a, _, hb, rfl, .inl (by omega), rfl, by omega⟩
            · simp only [hcl, if_false]
              refine ⟨l, _, _, hb, rfl, .inr ?_, rfl, by omega⟩
              rw [ha.resolve_left (by omega)]; show Addr.add _ _ = _; rw [add_none, Nat.add_assoc]))
        simpa only [andThen_assoc, Sem.run_bind, Result.andThen_ok, Sem.run_pure, if_true, O.runSize hsz] using this
      · rename_i c' es
        split
        · trivial
        · rename_i hcond
          have hes : es = size := by
            rcases Nat.decEq es size with hne | he
            · exact absurd (.inl hne) hcond
            · exact he
          subst hes
          simp only [CapR] at hcap
          simp only [OptVR] at hmx; subst hmx
          simp only [Instr.sliceAt, Instr.slice, Sem.run_bind, O.runUnd hu, Result.andThen_ok, sliceBounds_none]
          have hhB : hiB vhi len c .sliceAcap = hiB vhi len c' .sliceAcap ∨ True := .inr trivial
          have hsame : ∀ (w : World), (hiB vhi len c .sliceAcap).run P w = (hiB vhi len c' .sliceAcap).run P w := by
            intro w
            cases hi with
            | none => simp only [OptVR] at hhi; subst hhi; rfl
            | some s =>
              obtain ⟨v, rfl, hv⟩ := hhi
              cases s <;> simp only [hiOf] at hcond <;> (try (exfalso; apply hcond; right; left; omega))
              rename_i k i
              simp only [VR] at hv; subst hv
              have h1 : 0 ≤ i ∧ i ≤ (c' : Int) := by omega
              have h2 : 0 ≤ i ∧ i ≤ (c : Int) := by omega
              simp [hiB, Instr.sliceBound, asIntOf, h1, h2]
          have hle : len ≤ c' ∨ hi.isSome = true := by
            cases hi with
            | none => left; simp only [hiOf] at hcond; omega
            | some s => right; rfl
          have := sbounds_sound O R hlo hhi len c' .sliceAcap .sliceB (k := fun l r => .val (.slice b (o + l * es) (r - l) (.atLeast (c' - l) es)) h)
            (K := fun l r => pure (.slice (if c = l then some a else (some a).map (·.add (l * es))) (r - l) (c - l)))
            (fun i r hi ⟨hr, hs⟩ => ValR.same R (by
              simp only [VR]
              have hic : i ≤ c := by omega
              have hmul : (c - i) * es + i * es = c * es := by rw [← Nat.add_mul, Nat.sub_add_cancel hic]
              by_cases hcl : c = i
              · subst hcl
                simp only [if_true]
                exact ⟨l, a, _, hb, rfl, .inl (by omega), ⟨by omega, by omega⟩, by omega⟩
              · simp only [hcl, if_false]
                refine ⟨l, _, _, hb, rfl, .inr ?_, ⟨by omega, by omega⟩, by omega⟩
                rw [ha.resolve_left (by omega)]; show Addr.add _ _ = _; rw [add_none, Nat.add_assoc]))
          simp only [Sem.run_bind, Result.andThen_ok, Sem.run_pure, if_true, andThen_assoc] at this ⊢
          rw [hsame]
          simpa only [andThen_assoc, Sem.run_bind, Result.andThen_ok, Sem.run_pure, O.runSize hsz] using this
      · rename_i k m
        split
        · trivial
        · rename_i hcond
          obtain ⟨vm, rfl, hvm⟩ := hmx
          simp only [VR] at hvm; subst hvm
          have hlow : cap.low ≤ c := by cases cap <;> simp only [CapR] at hcap <;> simp only [Cap.low] <;> omega
          cases hi with
          | none => exact absurd (.inr (.inr rfl)) hcond
          | some shi =>
            obtain ⟨xhi, rfl, hxhi⟩ := hhi
            have hm0 : 0 ≤ m ∧ m ≤ (c : Int) := by omega
            simp only [Instr.sliceAt, Instr.slice, Sem.run_bind, O.runUnd hu, Result.andThen_ok, sliceBounds_some]
            have hmb : (Instr.sliceBound (.int k m) c .slice3Acap).run P w = .ok m.toNat w := by simp [Instr.sliceBound, asIntOf, hm0]
            have := sbounds_sound O R hlo (show OptVR μ (some shi) (some xhi) from ⟨xhi, rfl, hxhi⟩) len m.toNat .slice3B .slice3C (k := fun l r => .val (.slice b (if m.toNat = l then o else o + l * size) (r - l) (.exact (m.toNat - l))) h)
              (K := fun l r => pure (.slice (if m.toNat = l then some a else (some a).map (·.add (l * size))) (r - l) (m.toNat - l)))
              (fun i r hi ⟨hr, hs⟩ => ValR.same R (by
                simp only [VR]
                by_cases hcl : m.toNat = i
                · subst hcl
                  simp only [if_true]
                  exact ⟨l, a, _, hb, rfl, .inl (by omega), rfl, by have := hs rfl; omega⟩
                · simp only [hcl, if_false]
                  refine ⟨l, _, _, hb, rfl, .inr ?_, rfl, by have := hs rfl; omega⟩
                  rw [ha.resolve_left (by omega)]; show Addr.add _ _ = _; rw [add_none, Nat.add_assoc]))
            simp only [Sem.run_bind, hmb, Result.andThen_ok, Sem.run_pure] at this ⊢
            simpa only [andThen_assoc, Sem.run_bind, Result.andThen_ok, Sem.run_pure, O.runSize hsz] using this
      · trivial
  · -- a nil slice
    rename_i elem hu
    split
    · rename_i size hsz
      simp only [VR] at hx; subst hx
      simp only [OptVR] at hmx; subst hmx
      simp only [Instr.sliceAt, Instr.slice, Sem.run_bind, O.runUnd hu, Result.andThen_ok, sliceBounds_none]
      have := sbounds_sound O R hlo hhi 0 0 .sliceAcap .sliceB (k := fun _ _ => .val .nilslice h)
        (K := fun l r => pure (.slice (if 0 = l then none else (none : Option Addr).map (·.add (l * size))) (r - l) (0 - l)))
        (fun i r hi ⟨hr, hs⟩ => ValR.same R (by
          simp only [VR]
          have : r - i = 0 := by omega
          simp [this]))
      simpa only [andThen_assoc, Sem.run_bind, Result.andThen_ok, Sem.run_pure, if_true, O.runSize hsz] using this
    · trivial
  · -- an array behind a pointer
    rename_i n elem b o hu
    split
    · rename_i size hsz
      simp only [VR] at hx
      obtain ⟨l, hb, rfl⟩ := hx
      simp only [OptVR] at hmx; subst hmx
      simp only [Instr.sliceAt, Instr.sureAddr, Sem.run_bind, O.runUnd hu, Result.andThen_ok, Sem.run_pure, sliceBounds_none]
      have := sbounds_sound O R hlo hhi n n .sliceAlen .sliceB (k := fun l r => .val (.slice b (if n = l then o else o + l * size) (r - l) (.exact (n - l))) h)
        (K := fun i r => pure (.slice (some (if n = i then ⟨l.r, l.δ + o, none⟩ else (⟨l.r, l.δ + o, none⟩ : Addr).add (i * size))) (r - i) (n - i)))
        (fun i r hi ⟨hr, hs⟩ => ValR.same R (by
          simp only [VR]
          by_cases hcl : n = i
          · subst hcl
            simp only [if_true]
            exact ⟨l, _, _, hb, rfl, .inl (by omega), rfl, by omega⟩
          · simp only [hcl, if_false]
            refine ⟨l, _, _, hb, rfl, .inr ?_, rfl, by omega⟩
            rw [add_none, Nat.add_assoc]))
      simpa only [andThen_assoc, Sem.run_bind, Result.andThen_ok, Sem.run_pure, Bool.false_eq_true, if_false, O.runSize hsz] using this
    · trivial
  · trivial
end
end Go.Sh

namespace Go.Sh
open Go.RowKit
variable [Syms]
section
variable {P : Program} {E : Env} {w w₀ : World} {μ : Mu} {h : Hp}

theorem indexAddr_sound (O : EnvOK P E) (R : Rel μ h w₀ w) (t : TypeId) {x ix : SV} {vx vix : Value} (hx : VR μ x vx) (hi : VR μ ix vix) : ValR μ h w₀ (indexAddrS E t x ix h) ((Instr.indexAt t vx vix).run P w) := by
  unfold indexAddrS
  split
  · rename_i k i
    simp only [VR] at hi; subst hi
    split
    · rename_i len elem b o hu
      simp only [VR] at hx; obtain ⟨l, hb, rfl⟩ := hx
      split
      · rename_i n hn
        split
        · rename_i hc
          simp only [Instr.indexAt, asIntOf, Instr.sureAddr, Sem.run_bind, O.runUnd hu, O.runSize hn, Result.andThen_ok, Sem.run_pure, Sem.run_ite, hc, and_self, if_true]
          refine ValR.same R ?_
          simp only [VR]; exact ⟨l, hb, by rw [add_none, Nat.add_assoc]⟩
        · trivial
      · trivial
    · rename_i len elem b o hu
      simp only [VR] at hx; subst hx
      split
      · rename_i n hn
        split
        · rename_i hc
          simp only [Instr.indexAt, asIntOf, Instr.sureAddr, Sem.run_bind, O.runUnd hu, O.runSize hn, Result.andThen_ok, Sem.run_pure, Sem.run_ite, hc, and_self, if_true]
          refine ValR.same R ?_
          simp only [VR]; rw [add_none]
        · trivial
      · trivial
    · rename_i elem b o len cap hu
      simp only [VR] at hx; obtain ⟨l, a, c, hb, rfl, ha, hcap, hlen⟩ := hx
      split
      · rename_i n hn
        split
        · rename_i hc
          simp only [Instr.indexAt, asIntOf, Sem.run_bind, O.runUnd hu, O.runSize hn, Result.andThen_ok, Sem.run_pure, Sem.run_ite, hc, and_self, if_true]
          refine ValR.same R ?_
          simp only [VR]; exact ⟨l, hb, by rw [ha.resolve_left (by omega), add_none, Nat.add_assoc]⟩
        · rename_i hc
          simp only [Instr.indexAt, asIntOf, Sem.run_bind, O.runUnd hu, Result.andThen_ok, Sem.run_pure, Sem.run_ite, hc, if_false, Bool.and_false, Bool.false_eq_true]
          exact ValR.boundsV O R k i len .index
      · trivial
    · rename_i elem hu
      simp only [VR] at hx; subst hx
      simp only [Instr.indexAt, asIntOf, Sem.run_bind, O.runUnd hu, Result.andThen_ok, Sem.run_pure]
      exact ValR.boundsV O R k i 0 .index
    · trivial
  · trivial

theorem index_sound (O : EnvOK P E) (R : Rel μ h w₀ w) (t : TypeId) {x ix : SV} {vx vix : Value} (hx : VR μ x vx) (hi : VR μ ix vix) : ValR μ h w₀ (indexS E t x ix h) ((Instr.index t vx vix).run P w) := by
  unfold indexS
  split
  · rename_i k i
    simp only [VR] at hi; subst hi
    split
    · rename_i len elem cs hu
      simp only [VR] at hx; obtain ⟨a, rfl, ha⟩ := hx
      split
      · rename_i n hn
        split
        · rename_i hc
          refine ValR.ov R fun v hv => ?_
          obtain ⟨y, e, hy⟩ := run_part (w := w) O ha hv
          exact ⟨y, by simp only [Instr.index, asIntOf, Sem.run_bind, O.runUnd hu, O.runSize hn, Result.andThen_ok, Sem.run_pure, Sem.run_ite, hc, and_self, if_true, e], hy⟩
        · rename_i hc
          simp only [Instr.index, asIntOf, Sem.run_bind, O.runUnd hu, Result.andThen_ok, Sem.run_pure, Sem.run_ite, hc, if_false]
          exact ValR.boundsV O R k i len .index
      · trivial
    · rename_i s hu
      simp only [VR] at hx; obtain ⟨b, rfl, rfl⟩ := hx
      rw [bytesOf_length]
      have hget : ∀ n : Nat, (bytesOf b)[n]? = (b[n]?).map UInt8.toNat := by
        intro n
        by_cases hn : n < b.size
        · rw [ByteArray.getElem?_lt' b n hn]; simp [bytesOf, hn]; rfl
        · rw [ByteArray.getElem?_ge' b n hn]; simp [bytesOf]; show b.size ≤ n; omega
      split
      · rename_i h0
        rw [hget]
        cases hb : b[i.toNat]? with
        | none =>
          simp only [Option.map_none, Instr.index, asIntOf, Sem.run_bind, O.runUnd hu, Result.andThen_ok, Sem.run_pure, h0, if_true, hb]
          exact ValR.boundsV O R k i b.size .index
        | some y =>
          simp only [Option.map_some, Instr.index, asIntOf, Sem.run_bind, O.runUnd hu, Result.andThen_ok, Sem.run_pure, h0, if_true, hb]
          exact ValR.same R (by simp [VR])
      · rename_i h0
        simp only [Instr.index, asIntOf, Sem.run_bind, O.runUnd hu, Result.andThen_ok, Sem.run_pure, h0, if_false]
        exact ValR.boundsV O R k i b.size .index
    · trivial
  · trivial

theorem fieldOf_spec {t : TypeId} {f : Nat} {fd : Field} (e : fieldOf E t f = some fd) : ∃ fs, E.und t = some (.struct fs) ∧ fs[f]? = some fd := by
  unfold fieldOf at e
  split at e
  · exact ⟨_, by assumption, e⟩
  · cases e

theorem fieldAddr_sound (O : EnvOK P E) (R : Rel μ h w₀ w) {t : TypeId} {f : Nat} {fd : Field} {b o n : Nat} {vx : Value} (hf : fieldOf E t f = some fd) (hn : E.size fd.type = some (n + 1)) (hx : VR μ (.ptr b o) vx) :
    ValR μ h w₀ (.val (.ptr b (o + fd.offset)) h) ((Instr.fieldAt t vx f).run P w) := by
  obtain ⟨fs, hu, hg⟩ := fieldOf_spec hf
  simp only [VR] at hx; obtain ⟨l, hb, rfl⟩ := hx
  have : (Instr.fieldAt t (.pointer (some ⟨l.r, l.δ + o, none⟩)) f).run P w = .ok (.pointer (some ⟨l.r, l.δ + o + fd.offset, none⟩)) w := by
    simp [Instr.fieldAt, O.runUnd hu, hg, Instr.sureAddr, fieldPlace, O.runSize hn, add_none]
  rw [this]
  refine ValR.same R ?_
  simp only [VR]; exact ⟨l, hb, by rw [Nat.add_assoc]⟩

theorem field_sound (O : EnvOK P E) (R : Rel μ h w₀ w) {t : TypeId} {f : Nat} {fd : Field} {cs : List SV} {vx : Value} (hf : fieldOf E t f = some fd) (hx : VR μ (.agg cs) vx) :
    ValR μ h w₀ (ov (partS E fd.type cs fd.offset) h "field") ((Instr.field t vx f).run P w) := by
  obtain ⟨fs, hu, hg⟩ := fieldOf_spec hf
  simp only [VR] at hx; obtain ⟨a, rfl, ha⟩ := hx
  refine ValR.ov R fun v hv => ?_
  obtain ⟨y, e, hy⟩ := run_part (w := w) O ha hv
  exact ⟨y, by simp [Instr.field, O.runUnd hu, hg, asAgg, e], hy⟩

theorem load_sound (O : EnvOK P E) (R : Rel μ h w₀ w) (t : TypeId) {a : SV} {va : Value} (ha : VR μ a va) : ValR μ h w₀ (ov (loadS E t a h) h "load") ((Instr.loadAt t va).run P w) := by
  refine ValR.ov R fun v hv => ?_
  unfold loadS at hv
  split at hv
  · rename_i b o
    simp only [VR] at ha; obtain ⟨l, hb, rfl⟩ := ha
    split at hv
    · rename_i c m hc
      obtain ⟨x, e, hx⟩ := run_loadVar O R hb hc hv
      exact ⟨x, by simp [Instr.loadAt, Instr.sureAddr, e], hx⟩
    · cases hv
  · rename_i g o
    simp only [VR] at ha; subst ha
    split at hv
    · rename_i c hc
      obtain ⟨x, e, hx⟩ := run_loadGlob O R hc hv
      exact ⟨x, by simp [Instr.loadAt, Instr.sureAddr, e], hx⟩
    · cases hv
  · cases hv

/-! parts filled in -/
theorem foldl_set_splice (vs : List Value) : ∀ (off j : Nat) (cs : Array Value), off + j + vs.length ≤ cs.size →
    (vs.zipIdx j).foldl (fun cs (x : Value × Nat) => cs.setIfInBounds (off + x.2) x.1) cs = spliceA cs (off + j) vs := by
  induction vs with
  | nil => intro off j cs _; simp [spliceA]
  | cons v vs ih =>
    intro off j cs hle
    simp only [List.length_cons] at hle
    rw [List.zipIdx_cons, List.foldl_cons]
    have := ih off (j + 1) (cs.setIfInBounds (off + j) v) (by simp; omega)
    rw [this]
    unfold spliceA
    congr 1
    rw [Array.toList_setIfInBounds]
    have e1 : off + (j + 1) = off + j + 1 := by omega
    rw [e1]
    apply List.ext_getElem?
    intro k
    simp only [List.getElem?_append, List.getElem?_take, List.getElem?_drop, List.getElem?_set, List.length_append, List.length_take, List.length_set, Array.length_toList, List.length_cons]
    have hm1 : min (off + j + 1) cs.size = off + j + 1 := by omega
    have hm2 : min (off + j) cs.size = off + j := by omega
    rw [hm1, hm2]
    by_cases k1 : k < off + j
    · have q1 : k < off + j + 1 := by omega
      have q2 : k < off + j + 1 + vs.length := by omega
      have q3 : k < off + j + (vs.length + 1) := by omega
      have q4 : ¬ off + j = k := by omega
      simp [k1, q1, q2, q3, q4]
    · by_cases k2 : k = off + j
      · subst k2
        have q2 : off + j < off + j + 1 + vs.length := by omega
        have q6 : off + j < cs.size := by omega
        simp [q2, q6]
      · by_cases k3 : k < off + j + (vs.length + 1)
        · have q1 : ¬ k < off + j + 1 := by omega
          have q2 : k < off + j + 1 + vs.length := by omega
          have q5 : k - (off + j) = (k - (off + j + 1)) + 1 := by omega
          simp [k1, k3, q1, q2]
          rw [q5, List.getElem?_cons_succ]
        · have q2 : ¬ k < off + j + 1 + vs.length := by omega
          have q4 : ¬ off + j = off + j + 1 + vs.length + (k - (off + j + 1 + vs.length)) := by omega
          have q5 : off + j + 1 + vs.length + (k - (off + j + 1 + vs.length)) = off + j + (vs.length + 1) + (k - (off + j + (vs.length + 1))) := by omega
          simp only [k3, q2, if_false, q4]
          rw [q5]

theorem VRs.splice {cs vs : List SV} {rc : Array Value} {rv : List Value} (hc : VRs μ cs rc.toList) (hv : VRs μ vs rv) (off : Nat) : VRs μ (Sh.splice cs off vs) (spliceA rc off rv).toList := by
  unfold Sh.splice spliceA
  simp only
  rw [hv.length]
  exact VRs.append (VRs.append (VRs.take off hc) hv) (VRs.drop _ hc)

/-- Parts, one by one. -/
def PartsR (μ : Mu) : List (Nat × SV) → List (Nat × Value) → Prop
  | [], l => l = []
  | (i, s) :: r, l => ∃ v r', l = (i, v) :: r' ∧ VR μ s v ∧ PartsR μ r r'

theorem fill_sound (place : Nat → Option (Nat × Nat)) : ∀ (ps : List (Nat × SV)) (vs : List (Nat × Value)) (cs out : List SV) (rc : Array Value), fillS place cs ps = some out → VRs μ cs rc.toList → PartsR μ ps vs →
    ∃ ro, Instr.fill place rc vs = some ro ∧ VRs μ out ro.toList := by
  intro ps
  induction ps with
  | nil =>
    intro vs cs out rc e hc hp
    simp only [fillS, Option.some.injEq] at e
    simp only [PartsR] at hp
    subst e; subst hp
    exact ⟨rc, rfl, hc⟩
  | cons p ps ih =>
    intro vs cs out rc e hc hp
    obtain ⟨i, s⟩ := p
    simp only [PartsR] at hp
    obtain ⟨v, r', rfl, hs, hp⟩ := hp
    simp only [fillS] at e
    split at e
    · cases e
    · rename_i off size hpl
      split at e
      · rename_i hcond
        simp only [Bool.and_eq_true, decide_eq_true_eq] at hcond
        obtain ⟨⟨hk, hsz⟩, hle⟩ := hcond
        have hcells := VR.cells hk hs
        have hl1 := hcells.length
        have hl2 := hc.length
        simp only [Array.length_toList] at hl1 hl2
        have hfold : v.cells.zipIdx.foldl (fun cs (x : Value × Nat) => cs.setIfInBounds (off + x.2) x.1) rc = spliceA rc off v.cells.toList := by
          rw [← Array.foldl_toList]
          have := foldl_set_splice v.cells.toList off 0 rc (by simp; omega)
          simpa using this
        obtain ⟨ro, e2, hro⟩ := ih r' _ out (spliceA rc off v.cells.toList) e (VRs.splice hc hcells off) hp
        refine ⟨ro, ?_, hro⟩
        have c1 : ¬ (v.cells.size ≠ size) := by omega
        have c2 : ¬ (off + v.cells.size > rc.size) := by omega
        have hcond2 : (decide (v.cells.size ≠ size) || decide (off + v.cells.size > rc.size)) = false := by simp [c1]; omega
        simp only [Instr.fill, hpl, hcond2, Bool.false_eq_true, if_false]
        rw [← e2]
        congr 1
      · cases e

theorem rep_length (n : Nat) (l : List SV) : (rep n l).length = n * l.length := by simp [rep]
theorem rep_get (zs : List SV) : ∀ (len i : Nat), i < len * zs.length → (rep len zs)[i]? = zs[i % zs.length]? := by
  intro len
  induction len with
  | zero => intro i hi; simp at hi
  | succ len ih =>
    intro i hi
    have : rep (len + 1) zs = zs ++ rep len zs := by simp [rep, List.replicate_succ]
    rw [this, List.getElem?_append]
    by_cases h1 : i < zs.length
    · rw [if_pos h1, Nat.mod_eq_of_lt h1]
    · have h2 : i - zs.length < len * zs.length := by rw [Nat.add_mul] at hi; omega
      rw [if_neg h1, ih _ h2, ← Nat.mod_eq_sub_mod (by omega)]

theorem rep_sound {zs : List SV} {za : Array Value} (hz : VRs μ zs za.toList) (len : Nat) : VRs μ (rep len zs) ((List.range (len * zs.length)).map fun i => za[i % za.size]!) := by
  have hl := hz.length
  simp only [Array.length_toList] at hl
  refine VRs.of_get (by simp [rep_length]) fun i x hx => ?_
  have hi : i < len * zs.length := by
    rcases Nat.lt_or_ge i (len * zs.length) with h' | h'
    · exact h'
    · rw [List.getElem?_eq_none (by rw [rep_length]; exact h')] at hx; cases hx
  rw [rep_get zs len i hi] at hx
  obtain ⟨y, hy, hv⟩ := hz.get _ _ hx
  refine ⟨y, ?_, hv⟩
  have hlt : i % zs.length < za.size := by
    have : 0 < zs.length := by
      rcases Nat.eq_zero_or_pos zs.length with h0 | h0
      · rw [h0] at hi; simp at hi
      · exact h0
    rw [← hl]; exact Nat.mod_lt _ this
  rw [List.getElem?_map, List.getElem?_range hi, Option.map_some, ← hl]
  simp only [Array.getElem?_toList] at hy
  rw [getElem!_pos za (i % zs.length) hlt]
  rw [Array.getElem?_eq_getElem hlt] at hy
  exact hy

theorem places_sound (O : EnvOK P E) : ∀ (fs : List Field) (pl : List (Nat × Nat)), placesS E fs = some pl →
    ∀ w, (fs.mapM (fun f => do pure (f.offset, ← sizeOf f.type) : Field → Sem (Nat × Nat))).run P w = .ok pl w := by
  intro fs
  induction fs with
  | nil => intro pl e w; simp only [placesS, Option.some.injEq] at e; subst e; simp
  | cons f fs ih =>
    intro pl e w
    simp only [placesS] at e
    split at e
    · rename_i n l hn hl
      cases e
      simp only [List.mapM_cons, Sem.run_bind, O.runSize hn, Result.andThen_ok, Sem.run_pure, ih l hl]
    · cases e

theorem PartsR.of_map {ρ : Operand → Value} {tm : T SV} : ∀ (parts : List (Nat × Operand)), (∀ p ∈ parts, VR μ (evalS tm p.2) (ρ p.2)) →
    PartsR μ (parts.map fun p => (p.1, evalS tm p.2)) (parts.map fun p => (p.1, ρ p.2))
  | [], _ => by simp [PartsR]
  | p :: r, hp => by
    simp only [List.map_cons, PartsR]
    exact ⟨_, _, rfl, hp p (by simp), PartsR.of_map r fun q hq => hp q (by simp [hq])⟩
end
end Go.Sh

namespace Go.Sh
open Go.RowKit
variable [Syms]
section
variable {P : Program} {E : Env} {w w₀ : World} {μ : Mu} {h : Hp}

def World.at (w : World) (k : Nat) : World := { w with drawn := k }

theorem Rel.at {R : Rel μ h w₀ w} (k : Nat) : Rel μ h w₀ (World.at w k) :=
  ⟨R.obj, R.inj, R.lt, R.dom, R.base, ⟨R.below.os, R.below.tape, R.below.output, R.below.size, R.below.block⟩, R.ty, R.tym, R.gl, R.bx⟩

/-- What is made anew: a block and the value that points at it. -/
def MadeR (μ : Mu) (w : World) (obj : SObj) (mk : Nat → SV) (res : Result Value) : Prop :=
  ∃ ro n x k, res = .ok x ((World.at w k).alloc ro) ∧ ∀ μ' : Mu, μ.le μ' → ObjR μ' ⟨w.heap.size, 0, n⟩ obj (some ro) ∧ ∀ b, μ' b = some ⟨w.heap.size, 0, n⟩ → VR μ' (mk b) x

theorem CellsR.made {l : Loc} {c : List SV} {rc : Array Value} (hv : VRs μ c rc.toList) (hr : l.δ = 0) (hn : l.n = rc.size) : CellsR μ l c false rc (0, 0) := by
  have hl := hv.length
  simp only [Array.length_toList] at hl
  refine ⟨hn.symm, by omega, ?_, fun _ => ⟨hr, by omega, rfl⟩, .inl rfl⟩
  rw [hr, List.drop_zero, List.take_of_length_le (by simp; omega)]
  exact hv

theorem at_self (w : World) : World.at w w.drawn = w := rfl

theorem run_newRow (t : TypeId) (cs : Array Value) : (newRow t cs).run P w = .ok ⟨w.heap.size, 0, none⟩ (w.alloc (.cells cs t)) := by
  simp [newRow]

theorem made_cells {c : List SV} {rc : Array Value} {e : TypeId} {mk : Nat → SV} {x : Value} {res : Result Value} (hv : VRs μ c rc.toList) (hres : res = .ok x (w.alloc (.cells rc e)))
    (hx : ∀ (μ' : Mu) b, μ' b = some ⟨w.heap.size, 0, rc.size⟩ → VR μ' (mk b) x) : MadeR μ w (.cells c false) mk res :=
  ⟨.cells rc e, rc.size, x, w.drawn, by rw [at_self]; exact hres, fun μ' hle => ⟨⟨rc, e, (0, 0), rfl, CellsR.made (hv.mono hle) rfl rfl⟩, fun b hb => hx μ' b hb⟩⟩

theorem wrap_i64 {n : Int} (h0 : 0 ≤ n) (h1 : n ≤ 2 ^ 40) : IntKind.i64.wrap n = n := by
  unfold IntKind.wrap IntKind.bits IntKind.signed
  simp only [Bool.true_and]
  have e1 : n % (2 ^ 64 : Int) = n := Int.emod_eq_of_lt h0 (by omega)
  rw [e1, if_neg]
  simp only [decide_eq_true_eq]
  omega

theorem alloc_sound (O : EnvOK P E) {tm : T SV} {ρ : Operand → Value} {o : Oper} {obj : SObj} {mk : Nat → SV} (e : allocS E tm o = some (obj, mk)) (hρ : ∀ x ∈ o.op.operands, VR μ (evalS tm x) (ρ x)) :
    ∃ s : Sem Value, execOp ρ o = (do pure (.value (← s))) ∧ MadeR μ w obj mk (s.run P w) := by
  unfold allocS at e
  split at e
  · -- alloc
    rename_i el heq
    cases hz : E.zero el with
    | none => simp [hz] at e
    | some z =>
      simp only [hz, Option.bind_some] at e
      split at e
      · rename_i hk
        cases e
        refine ⟨Instr.alloc el true (.tuple #[]), by simp [execOp, heq], ?_⟩
        obtain ⟨v, ev, hv⟩ := O.runZero (w := w) hz
        have hvr : VR μ z v := hv ▸ VR.ofValue μ v
        refine made_cells (rc := v.cells) (e := el) (VR.cells hk hvr) ?_ (fun μ' b hb => by simp only [VR]; exact ⟨_, hb, rfl⟩)
        simp [Instr.alloc, ev, newVar, run_newRow]
      · cases e
  · -- box
    rename_i el x heq
    simp only at e
    split at e
    · rename_i hk
      cases e
      refine ⟨Instr.box el (ρ x), by simp [execOp, heq], ?_⟩
      have hvr : VR μ (evalS tm x) (ρ x) := hρ x (by simp [heq, Op.operands])
      refine made_cells (rc := (ρ x).cells) (e := el) (VR.cells hk hvr) ?_ (fun μ' b hb => by simp only [VR]; exact ⟨_, hb, rfl⟩)
      simp [Instr.box, newVar, run_newRow]
    · cases e
  · -- buildSlice
    rename_i t len parts heq
    split at e
    · rename_i el hu
      split at e
      · rename_i n z hn hz
        split at e
        · cases e
        · rename_i hcond
          simp only [Bool.or_eq_true, decide_eq_true_eq, Bool.not_eq_true', not_or] at hcond
          obtain ⟨⟨hbig, hk⟩, hzl⟩ := hcond
          have hk' : z.known = true := by cases hh : z.known <;> simp_all
          have hzl' : z.cells.length = n := Classical.not_not.1 hzl
          cases hf : fillS (fun i => some (i * n, n)) (rep len z.cells) (parts.toList.map fun p => (p.1, evalS tm p.2)) with
          | none => simp [hf] at e
          | some cs =>
            simp only [hf, Option.map_some, Option.some.injEq, Prod.mk.injEq] at e
            obtain ⟨rfl, rfl⟩ := e
            refine ⟨Instr.buildSlice t len (parts.map fun (i, x) => (i, ρ x)), by simp [execOp, heq], ?_⟩
            obtain ⟨v, ev, hv⟩ := O.runZero (w := w) hz
            have hvr : VR μ z v := hv ▸ VR.ofValue μ v
            have hzc := VR.cells hk' hvr
            have hrep := rep_sound hzc len
            rw [hzl'] at hrep
            have hparts : PartsR μ (parts.toList.map fun p => (p.1, evalS tm p.2)) (parts.toList.map fun p => (p.1, ρ p.2)) :=
              PartsR.of_map parts.toList fun p hp => hρ p.2 (by
                simp only [heq, Op.operands, List.mem_toArray, List.mem_map]
                exact ⟨p, hp, rfl⟩)
            obtain ⟨zc, hzc', hzc2⟩ : ∃ zc : Array Value, (len * n = 0 ∧ zc = #[] ∨ len * n ≠ 0 ∧ zc = v.cells) ∧ True := by
              by_cases h0 : len * n = 0
              · exact ⟨#[], .inl ⟨h0, rfl⟩, trivial⟩
              · exact ⟨v.cells, .inr ⟨h0, rfl⟩, trivial⟩
            have hrc : ∃ rc : Array Value, (Array.range (len * n)).map (zc[· % zc.size]!) = rc ∧ VRs μ (rep len z.cells) rc.toList := by
              refine ⟨_, rfl, ?_⟩
              rcases hzc' with ⟨h0, rfl⟩ | ⟨h0, rfl⟩
              · rw [h0] at hrep ⊢
                simpa using hrep
              · simpa using hrep
            obtain ⟨rc, hrc1, hrc2⟩ := hrc
            obtain ⟨ro, hro, hcs⟩ := fill_sound (fun i => some (i * n, n)) _ _ _ _ rc hf hrc2 hparts
            refine made_cells (rc := ro) (e := el) hcs ?_ (fun μ' b hb => by
              simp only [VR]
              exact ⟨_, _, _, hb, rfl, .inr rfl, rfl, Nat.le_refl _⟩)
            have hpl : (parts.map fun (x : Nat × Operand) => (x.1, ρ x.2)).toList = parts.toList.map fun p => (p.1, ρ p.2) := by simp
            have hro' : Instr.fill (fun i => some (i * n, n)) rc (parts.map fun (i, x) => (i, ρ x)).toList = some ro := by rw [← hro]; exact congrArg _ hpl
            simp only [Instr.buildSlice, Sem.run_bind, O.runUnd hu, O.runSize hn, Result.andThen_ok, Sem.run_ite]
            rw [if_neg (by omega)]
            rcases hzc' with ⟨h0, rfl⟩ | ⟨h0, rfl⟩
            · rw [if_pos h0]
              simp only [Sem.run_bind, Sem.run_pure, Result.andThen_ok, hrc1, hro', run_newRow]
            · rw [if_neg h0]
              simp only [Sem.run_bind, Sem.run_pure, Result.andThen_ok, ev, hrc1, hro', run_newRow]
      · cases e
    · cases e
  · -- makeMap
    rename_i t heq
    cases e
    refine ⟨Instr.makeMap t none, by simp [execOp, heq], .map #[] 0, 0, .map (some w.heap.size), w.drawn, by simp [Instr.makeMap, at_self], fun μ' hle => ⟨?_, fun b hb => ?_⟩⟩
    · exact ⟨#[], rfl, by simp [EntsR]⟩
    · simp only [VR]; exact ⟨_, hb, rfl⟩
  · rename_i t x heq
    split at e
    · rename_i k el k' n hu hx
      cases e
      have hvr : VR μ (evalS tm x) (ρ x) := hρ x (by simp [heq, Op.operands])
      rw [hx] at hvr
      simp only [VR] at hvr
      refine ⟨Instr.makeMap t (some (ρ x)), by simp [execOp, heq], .map #[] 0, 0, .map (some w.heap.size), w.drawn, by simp [Instr.makeMap, at_self, O.runUnd hu, hvr, asInt, asIntOf], fun μ' hle => ⟨?_, fun b hb => ?_⟩⟩
      · exact ⟨#[], rfl, by simp [EntsR]⟩
      · simp only [VR]; exact ⟨_, hb, rfl⟩
    · cases e
  · -- makeSlice
    rename_i t ol oc heq
    split at e
    · rename_i el kl l kc c hu hl hc
      split at e
      · rename_i i z hi hz
        split at e
        · rename_i hcond
          obtain ⟨h0, h1, h2, h3, hk, hzl⟩ := hcond
          cases e
          have hvl : VR μ (evalS tm ol) (ρ ol) := hρ ol (by simp [heq, Op.operands])
          have hvc : VR μ (evalS tm oc) (ρ oc) := hρ oc (by simp [heq, Op.operands])
          rw [hl] at hvl; rw [hc] at hvc
          simp only [VR] at hvl hvc
          refine ⟨Instr.makeSlice t (ρ ol) (ρ oc), by simp [execOp, heq], ?_⟩
          obtain ⟨v, ev, hv⟩ := O.runZero (w := w) hz
          have hvr : VR μ z v := hv ▸ VR.ofValue μ v
          have hzc := VR.cells hk hvr
          have hrep := rep_sound hzc c.toNat
          rw [hzl] at hrep
          obtain ⟨zc, hzc', hzc2⟩ : ∃ zc : Array Value, (c.toNat * i.size = 0 ∧ zc = #[] ∨ c.toNat * i.size ≠ 0 ∧ zc = v.cells) ∧ True := by
            by_cases h0 : c.toNat * i.size = 0
            · exact ⟨#[], .inl ⟨h0, rfl⟩, trivial⟩
            · exact ⟨v.cells, .inr ⟨h0, rfl⟩, trivial⟩
          have hrc : ∃ rc : Array Value, (Array.range (c.toNat * i.size)).map (zc[· % zc.size]!) = rc ∧ VRs μ (rep c.toNat z.cells) rc.toList := by
            refine ⟨_, rfl, ?_⟩
            rcases hzc' with ⟨h0, rfl⟩ | ⟨h0, rfl⟩
            · rw [h0] at hrep ⊢
              simpa using hrep
            · simpa using hrep
          obtain ⟨rc, hrc1, hrc2⟩ := hrc
          refine made_cells (rc := rc) (e := el) hrc2 ?_ (fun μ' b hb => by
            simp only [VR]
            exact ⟨_, _, _, hb, rfl, .inr rfl, rfl, by omega⟩)
          have hw1 : IntKind.i64.wrap l = l := wrap_i64 h0 (by omega)
          have hw2 : IntKind.i64.wrap c = c := wrap_i64 (by omega) h3
          have hbytes : ((i.bytes : Int) * c) = c * i.bytes := Int.mul_comm _ _
          simp only [Instr.makeSlice, hvl, hvc, asInt, asIntOf, Sem.run_bind, O.runUnd hu, O.runInfo hi, Result.andThen_ok, Sem.run_pure, hw1, hw2]
          have hno : (decide (c < 0) || decide ((i.bytes : Int) * c > 2 ^ 48)) = false := by
            rw [hbytes]; simp; omega
          have hcond2 : ((decide (c < 0) || decide ((i.bytes : Int) * c > 2 ^ 48)) || decide (l < 0) || decide (l > c)) = false := by
            rw [hno]; simp; omega
          rw [if_neg (by simpa using hcond2)]
          have hsz : E.size el = some i.size := by simp [Env.size, hi]
          simp only [Sem.run_bind, run_askRoom, Result.andThen_ok, O.runSize hsz, Sem.run_ite]
          rcases hzc' with ⟨h00, rfl⟩ | ⟨h00, rfl⟩
          · rw [if_pos h00]
            simp only [Sem.run_pure, Result.andThen_ok, hrc1, run_newRow]
          · rw [if_neg h00]
            simp only [Sem.run_pure, Result.andThen_ok, ev, hrc1, run_newRow]
        · cases e
      · cases e
    · cases e
  · -- bytes of a text
    rename_i src dst x heq
    split at e
    · rename_i el s hs hd hx
      split at e
      · rename_i he
        cases e
        have hvr : VR μ (evalS tm x) (ρ x) := hρ x (by simp [heq, Op.operands])
        rw [hx] at hvr
        simp only [VR] at hvr
        obtain ⟨b, hb, rfl⟩ := hvr
        refine ⟨Go.convert src dst (ρ x), by simp [execOp, heq], ?_⟩
        rw [hb]
        simp only [Go.convert, Sem.run_bind, O.runUnd hs, O.runUnd hd, O.runUnd he, Result.andThen_ok, Conv.stringToBytes, run_choose]
        have hforced : (Question.appendCap b.size 0 el).forced = false := rfl
        simp only [hforced, Bool.false_eq_true, if_false, Result.andThen_ok, run_newRow]
        have hge : b.size ≤ (Question.appendCap b.size 0 el).cut (w.tape w.drawn (Question.appendCap b.size 0 el)) := by
          simp only [Question.cut]; omega
        generalize (Question.appendCap b.size 0 el).cut (w.tape w.drawn (Question.appendCap b.size 0 el)) = cap at hge ⊢
        have hsz : ((b.data.map fun x => Value.int .u8 x.toNat) ++ Array.replicate (cap - b.size) (Value.int .u8 0)).size = cap := by
          simp only [Array.size_append, Array.size_map, Array.size_replicate]
          show b.size + _ = _
          omega
        generalize hrc : (b.data.map fun x => Value.int .u8 x.toNat) ++ Array.replicate (cap - b.size) (Value.int .u8 0) = rc at hsz ⊢
        have hmark : (markStringish ⟨w.heap.size, 0, none⟩).run P ((World.at w (w.drawn + 1)).alloc (.cells rc el)) = .ok () ((World.at w (w.drawn + 1)).alloc (.cells rc el (cap, cap + 1))) := by
          have hshape : ((World.at w (w.drawn + 1)).alloc (.cells rc el)).shape? w.heap.size = some (el, cap) := by
            have : ((World.at w (w.drawn + 1)).alloc (.cells rc el)).heap[w.heap.size]? = some (.cells rc el) := heap_alloc_new' (World.at w (w.drawn + 1)) _
            simp only [World.shape?, this, hsz]
          simp only [markStringish, Sem.run_bind, run_shape, Result.andThen_ok, hshape, run_freeze]
          congr 1
          unfold World.freeze
          simp only [Nat.one_ne_zero, if_false]
          unfold World.alloc
          congr 1
          show Array.modify (w.heap.push _) w.heap.size _ = w.heap.push _
          apply Array.ext_getElem?
          intro k
          rw [Array.getElem?_modify, Array.getElem?_push, Array.getElem?_push]
          by_cases hk : w.heap.size = k
          · subst hk; simp
          · rw [if_neg hk, if_neg (Ne.symm hk), if_neg (Ne.symm hk)]
        refine ⟨.cells rc el (cap, cap + 1), cap, .slice (some ⟨w.heap.size, 0, none⟩) b.size cap, w.drawn + 1, ?_, fun μ' hle => ⟨⟨rc, el, _, rfl, ?_⟩, fun b' hb' => ?_⟩⟩
        · show (((markStringish ⟨w.heap.size, 0, none⟩).run P ((World.at w (w.drawn + 1)).alloc (.cells rc el))).andThen _) = _
          rw [hmark]; rfl
        · have hbl : (byteCells (bytesOf b)).length = b.size := by simp [byteCells, bytesOf_length]
          refine ⟨hsz, by rw [hbl]; simpa using hge, ?_, (fun hf => by cases hf), .inr (Nat.le_refl _)⟩
          rw [hbl, List.drop_zero, ← hrc]
          have : ((b.data.map fun x => Value.int .u8 x.toNat) ++ Array.replicate (cap - b.size) (Value.int .u8 0)).toList.take b.size = b.data.toList.map fun x => Value.int .u8 x.toNat := by
            rw [Array.toList_append, List.take_left' (by simp)]
            simp
          rw [this]
          unfold byteCells bytesOf
          rw [List.map_map]
          generalize b.data.toList = l
          induction l with
          | nil => simp [VRs]
          | cons a l ih => exact VRs.cons (by simp [VR]) ih
        · simp only [VR]
          exact ⟨_, _, _, hb', by rw [bytesOf_length], .inr rfl, ⟨by rw [bytesOf_length]; exact hge, by simp⟩, by rw [bytesOf_length]; exact hge⟩
      · cases e
    · cases e
  · cases e
end
end Go.Sh

namespace Go.Sh
open Go.RowKit
variable [Syms]
section
variable {P : Program} {E : Env} {w w₀ : World} {μ : Mu} {h : Hp}

theorem store_sound (O : EnvOK P E) (R : Rel μ h w₀ w) {t : TypeId} {b o n : Nat} {x : SV} {va vx : Value} {h' : Hp} (hn : E.size t = some n) (hk : x.known = true) (hl : x.cells.length = n)
    (hs : storeCellsS h b o x.cells = some h') (ha : VR μ (.ptr b o) va) (hx : VR μ x vx) : ∃ w', (Instr.storeAt t va vx).run P w = .ok () w' ∧ Rel μ h' w₀ w' ∧ Grow μ h μ h' := by
  simp only [VR] at ha; obtain ⟨l, hb, rfl⟩ := ha
  have hc := VR.cells hk hx
  have hlen := hc.length
  simp only [Array.length_toList] at hlen
  obtain ⟨w', e, R', G⟩ := run_stores (P := P) R hb hs hc
  refine ⟨w', ?_, R', G⟩
  simp only [Instr.storeAt, Instr.sureAddr, storeVar, Sem.run_bind, Sem.run_pure, Result.andThen_ok, O.runSize hn]
  rw [if_neg (by omega)]
  exact e

theorem store_nothing (O : EnvOK P E) {t : TypeId} {b o : Nat} {x : SV} {va vx : Value} (hn : E.size t = some 0) (hk : x.known = true) (hl : x.cells.length = 0) (ha : VR μ (.ptr b o) va) (hx : VR μ x vx) :
    (Instr.storeAt t va vx).run P w = .ok () w := by
  simp only [VR] at ha; obtain ⟨l, hb, rfl⟩ := ha
  have hc := VR.cells hk hx
  have hlen := hc.length
  simp only [Array.length_toList] at hlen
  have h0 : vx.cells.toList = [] := List.eq_nil_of_length_eq_zero (by rw [Array.length_toList]; omega)
  simp only [Instr.storeAt, Instr.sureAddr, storeVar, Sem.run_bind, Sem.run_pure, Result.andThen_ok, O.runSize hn]
  rw [if_neg (by omega), h0]
  simp [storeCells]

theorem byteCells_sound (l : List UInt8) : VRs μ (byteCells (l.map UInt8.toNat)) (l.map fun b => Value.int .u8 b.toNat) := by
  unfold byteCells
  rw [List.map_map]
  induction l with
  | nil => simp [VRs]
  | cons a l ih => exact VRs.cons (by simp [VR]) ih

theorem src_sound (R : Rel μ h w₀ w) {size n : Nat} {x : SV} {vx : Value} {new : List SV} (e : srcS size x n h = some new) (hx : VR μ x vx) (hn : ∀ m, lenOfS x = some m → n ≤ m) :
    ∃ a : Array Value, (Builtin.firstCells size n vx).run P w = .ok a w ∧ VRs μ new a.toList ∧ new.length = n * size := by
  unfold srcS at e
  split at e
  · rename_i s
    split at e
    · rename_i h1
      cases e
      simp only [VR] at hx; obtain ⟨b, rfl, rfl⟩ := hx
      have hle := hn _ rfl
      rw [bytesOf_length] at hle
      refine ⟨(b.extract 0 n).data.map fun b => .int .u8 b.toNat, by simp [Builtin.firstCells], ?_, ?_⟩
      · have h2 : (bytesOf b).take n = (b.extract 0 n).data.toList.map UInt8.toNat := by
          have := bytesOf_extract b 0 n
          rw [List.drop_zero] at this
          exact this.symm
        rw [h2, Array.toList_map]
        exact byteCells_sound _
      · simp [byteCells, bytesOf_length, h1]; omega
    · cases e
  · split at e
    · rename_i h0
      cases e; subst h0
      simp only [VR] at hx; subst hx
      exact ⟨#[], by simp [Builtin.firstCells], by simp [VRs], by simp⟩
    · cases e
  · rename_i b o len cap
    simp only [VR] at hx; obtain ⟨l, a, c, hb, rfl, ha, hcap, hlen⟩ := hx
    split at e
    · rename_i h0
      cases e
      exact ⟨#[], by simp [Builtin.firstCells, h0, loadCells, loadCellsFrom], by simp [VRs], by simp [h0]⟩
    · rename_i h0
      split at e
      · rename_i cs m hc
        obtain ⟨rc, e', fz, hr, hk⟩ := R.cells hb hc
        have hv := hk.sub e
        have hl := (sub_eq e).2.1
        have hlen' := hv.length
        rw [hl] at hlen'
        have hne : c ≠ 0 := by
          have h1 := hn _ rfl
          intro hc0
          have : n = 0 := by omega
          rw [this] at h0; simp at h0
        rw [ha.resolve_left hne]
        exact ⟨_, by simp only [Builtin.firstCells]; exact run_loadList hr hlen'.symm, by simpa using hv, hl⟩
      · cases e
  · cases e

theorem growBy_le (need : Nat) : ∀ (k c : Nat), 256 ≤ c → c ≤ 2 * need → Builtin.growBy need k c ≤ 2 * need := by
  intro k
  induction k with
  | zero => intro c _ h; exact h
  | succ k ih =>
    intro c h1 h2
    simp only [Builtin.growBy]
    split
    · exact h2
    · exact ih _ (by omega) (by omega)

theorem nextcap_le {need cap : Nat} (h : cap < need) : Builtin.nextslicecap need cap ≤ 2 * need := by
  unfold Builtin.nextslicecap
  split
  · omega
  · split
    · omega
    · exact growBy_le need 4 cap (by omega) (by omega)

theorem zeroCells_size (z : Array Value) (n : Nat) : (Builtin.zeroCells z n).size = n * z.size := by simp [Builtin.zeroCells]

theorem lenOf_sound {x : SV} {vx : Value} {n : Nat} (e : lenOfS x = some n) (hx : VR μ x vx) : (Builtin.lenOf vx).run P w = .ok n w := by
  cases x <;> simp only [lenOfS, reduceCtorEq, Option.some.injEq] at e <;> simp only [VR] at hx
  · obtain ⟨b, rfl, rfl⟩ := hx; rw [bytesOf_length] at e; simp [Builtin.lenOf, e]
  · obtain ⟨l, a, c, _, rfl, _⟩ := hx; simp [Builtin.lenOf, e]
  · subst hx; simp [Builtin.lenOf, e]

/-- What append asks of its types. -/
structure AppT (P : Program) (argTypes : Array TypeId) (elem : TypeId) (i : TypeInfo) (z : Value) (zeros : Bool) : Prop where
  st : ∃ st xt xd, argTypes[0]? = some st ∧ argTypes[1]? = some xt ∧ P.underlying st = some (.slice elem) ∧ P.underlying xt = some xd ∧ isIntD xd = zeros
  info : P.info? elem = some i
  zero : i.zero = some z
  cells : z.cells.size = i.size

/-- What is added. -/
def AddR (P : Program) (i : TypeInfo) (z : Value) (zeros : Bool) (vx : Value) (n : Nat) (new : Array Value) (w : World) : Prop :=
  (zeros = false ∧ (Builtin.lenOf vx).run P w = .ok n w ∧ (Builtin.firstCells i.size n vx).run P w = .ok new w ∧
    (Builtin.firstCells i.size n vx).run P (World.at w (w.drawn + 1)) = .ok new (World.at w (w.drawn + 1))) ∨
  (zeros = true ∧ ∃ k l, vx = .int k l ∧ 0 ≤ l ∧ l ≤ 2 ^ 40 ∧ l * i.bytes ≤ 2 ^ 40 ∧ n = l.toNat ∧ new = if n * i.size = 0 then #[] else Builtin.zeroCells z.cells n)

theorem isIntD_false {d : TypeDesc} (h : isIntD d = false) : ∀ k, d = .int k → False := by
  intro k e; subst e; cases h
theorem isIntD_true {d : TypeDesc} (h : isIntD d = true) : ∃ k, d = .int k := by cases d <;> simp_all [isIntD]

theorem AppT.run {argTypes : Array TypeId} {elem : TypeId} {i : TypeInfo} {z : Value} {zeros : Bool} (A : AppT P argTypes elem i z zeros) (ty : TypeId) (base : Option Addr) (sLen sCap n : Nat) (vx : Value) (new : Array Value)
    (hadd : AddR P i z zeros vx n new w) :
    (sLen + n ≤ sCap → (Builtin.append_ argTypes ty #[.slice base sLen sCap, vx]).run P w =
      ((match base with | some a => storeCells (a.add (sLen * i.size)) new.toList | none => pure ()).run P w).andThen fun _ w' => .ok (.slice base (sLen + n) sCap) w') ∧
    (∀ old : Array Value, sCap < sLen + n → sLen + n ≤ 2 ^ 40 → (sLen + n) * i.bytes ≤ 2 ^ 40 → (Builtin.firstCells i.size sLen (.slice base sLen sCap)).run P (World.at w (w.drawn + 1)) = .ok old (World.at w (w.drawn + 1)) →
      ∃ nc, sLen + n ≤ nc ∧ (Builtin.append_ argTypes ty #[.slice base sLen sCap, vx]).run P w =
        .ok (.slice (some ⟨w.heap.size, 0, none⟩) (sLen + n) nc) ((World.at w (w.drawn + 1)).alloc (.cells (old ++ new ++ Builtin.zeroCells z.cells (nc - (sLen + n))) elem))) := by
  obtain ⟨st, xt, xd, h0, h1, hst, hxt, hxd⟩ := A.st
  have e1 : (underlying st).run P w = .ok (.slice elem) w := run_underlying hst w
  have e2 : (underlying xt).run P w = .ok xd w := run_underlying hxt w
  have e3 : ∀ w, (typeInfo elem).run P w = .ok i w := fun w => by simp [typeInfo, A.info]
  have e4 : ∀ w, (zeroValue elem).run P w = .ok z w := fun w => by simp [zeroValue, e3, A.zero]
  have e5 : ∀ w, (sizeOf elem).run P w = .ok i.size w := fun w => by simp [sizeOf, e3]
  have hforced : (Question.appendCap (sLen + n) sCap elem).forced = false := rfl
  constructor
  · intro hle
    rcases hadd with ⟨rfl, hn, hnew, _⟩ | ⟨rfl, k, l, rfl, hl0, hl1, hl2, hn, hnew⟩
    · have hxd' := isIntD_false hxd
      simp only [Builtin.append_, h0, h1, List.getElem?_toArray, List.getElem?_cons_zero, List.getElem?_cons_succ, Sem.run_bind, e1, e2, e5, Result.andThen_ok, Sem.run_pure, Bool.false_eq_true, if_false, hn, hle, if_true,
        Bool.not_false, hnew]
      cases base <;> simp
    · obtain ⟨kd, rfl⟩ := isIntD_true hxd
      have hw := wrap_i64 hl0 hl1
      have c1 : ¬ (l < 0) := by omega
      have c2 : ¬ (l * (i.bytes : Int) > 2 ^ 48) := by omega
      simp only [Builtin.append_, h0, h1, List.getElem?_toArray, List.getElem?_cons_zero, List.getElem?_cons_succ, Sem.run_bind, e1, e2, e3, e5, Result.andThen_ok, Sem.run_pure, if_true, asInt, asIntOf, hw, c1, c2, if_false]
      rw [← hn]
      simp only [hle, if_true, Bool.not_true, Bool.false_eq_true, if_false, Sem.run_bind, Sem.run_ite, Sem.run_pure, e4, Result.andThen_ok]
      by_cases hz : n * i.size = 0
      · rw [if_pos hz] at hnew ⊢; subst hnew; simp only [Result.andThen_ok]; cases base <;> simp
      · rw [if_neg hz] at hnew ⊢; subst hnew; simp only [Result.andThen_ok]; cases base <;> simp
  · intro old hlt hbig hbytes hold
    refine ⟨(Question.appendCap (sLen + n) sCap elem).cut (w.tape w.drawn (Question.appendCap (sLen + n) sCap elem)), by simp only [Question.cut]; omega, ?_⟩
    have c1 : ¬ (sLen + n ≤ sCap) := by omega
    have c2 : ¬ (((sLen + n : Nat) : Int) > IntKind.i64.max) := by
      intro hc
      simp [IntKind.max, IntKind.signed, IntKind.bits] at hc
      omega
    have c3 : ¬ (Builtin.nextslicecap (sLen + n) sCap * i.bytes > 2 ^ 48) := by
      have h1 := nextcap_le hlt
      have h2 := Nat.mul_le_mul_right i.bytes h1
      rw [Nat.mul_assoc] at h2
      omega
    generalize hnc : (Question.appendCap (sLen + n) sCap elem).cut (w.tape w.drawn (Question.appendCap (sLen + n) sCap elem)) = nc
    rcases hadd with ⟨rfl, hn, hnew, hnew'⟩ | ⟨rfl, k, l, rfl, hl0, hl1, hl2, hn, hnew⟩
    · have hxd' := isIntD_false hxd
      simp only [Builtin.append_, h0, h1, List.getElem?_toArray, List.getElem?_cons_zero, List.getElem?_cons_succ, Sem.run_bind, e1, e2, e5, Result.andThen_ok, Sem.run_pure, Bool.false_eq_true, if_false, hn, c1,
        Bool.not_false, if_true, e3, c2, false_and, c3, run_choose, hforced, run_askRoom]
      rw [hnc]
      show ((Builtin.firstCells i.size sLen (.slice base sLen sCap)).run P (World.at w (w.drawn + 1))).andThen _ = _
      rw [hold]
      simp only [Result.andThen_ok]
      rw [hnew']
      simp only [Result.andThen_ok, e4, run_newRow]
      rfl
    · obtain ⟨kd, rfl⟩ := isIntD_true hxd
      have hw := wrap_i64 hl0 hl1
      have c4 : ¬ (l < 0) := by omega
      have c5 : ¬ (l * (i.bytes : Int) > 2 ^ 48) := by omega
      simp only [Builtin.append_, h0, h1, List.getElem?_toArray, List.getElem?_cons_zero, List.getElem?_cons_succ, Sem.run_bind, e1, e2, e3, e5, Result.andThen_ok, Sem.run_pure, if_true, asInt, asIntOf, hw, c4, c5, if_false]
      rw [← hn]
      simp only [c1, if_false, Bool.not_true, Bool.false_eq_true, Sem.run_bind, e3, Result.andThen_ok, c2, false_and, c3, run_choose, hforced, run_askRoom]
      rw [hnc]
      show ((Builtin.firstCells i.size sLen (.slice base sLen sCap)).run P (World.at w (w.drawn + 1))).andThen _ = _
      rw [hold]
      simp only [Result.andThen_ok, Sem.run_ite, Sem.run_bind, Sem.run_pure, e4]
      by_cases hz : n * i.size = 0
      · rw [if_pos hz] at hnew ⊢; subst hnew; simp only [Result.andThen_ok, e4, run_newRow]; rfl
      · rw [if_neg hz] at hnew ⊢; subst hnew; simp only [Result.andThen_ok, e4, run_newRow]; rfl
end
end Go.Sh
