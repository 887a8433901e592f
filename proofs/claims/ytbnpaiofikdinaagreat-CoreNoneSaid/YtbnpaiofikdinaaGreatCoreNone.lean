/-
  CoreNone: a core that is nil, or that New did not make, answers ErrNil and tells nothing: the Go function returns true and leaves its argument alone: no condition.
  HOW: the function is run once, in the kernel, on a machine of one goroutine of my own (texts ..SiA to ..SiG) whose values may be unknown: of the argument the types of its cells alone are known; awake is run apart, and the guard BigMessage is taken by a contract (text ..BigOk).
-/
import Derived.Test.YtbnpaiofikdinaaGreatRows
import Derived.Test.YtbnpaiofikdinaaGreatCaCW
import Derived.Test.YtbnpaiofikdinaaGreatBigOk
import Derived.Test.YtbnpaiofikdinaaGreatSiG
import Derived.WalkKit
import Derived.ProofKit
import Derived.OpenShut
namespace Go.Proofs.YtbnpaiofikdinaaGreat.coreNone
open Go.ChangeShapes Go.WideShapes Go.ChangeAt Go.RowKit

theorem own : ownKnob Tryz.prog.godebug = none := by kernel_rfl

theorem all_ok : Tryz.prog.funcs.toList.all Sh.okFn = true := by kernel_rfl
theorem mixed : Tryz.prog.follows .mixedOrders = true := by kernel_rfl
theorem triple [Sh.Syms] {μ : Sh.Mu} {a b c : Sh.SV} {v : Array Value} (k : Sh.VRs μ [a, b, c] v.toList) : ∃ x y z, v = #[x, y, z] ∧ Sh.VR μ a x ∧ Sh.VR μ b y ∧ Sh.VR μ c z := by
  simp only [Sh.VRs] at k
  obtain ⟨x, xs, e, hx, y, ys, rfl, hy, z, zs, rfl, hz, rfl⟩ := k
  exact ⟨x, y, z, by apply Array.ext'; exact e, hx, hy, hz⟩

/-- The argument: of its 14 cells the types alone are known. -/
def msgS : List Sh.SV := [.sym 8 (.int .i64), .sym 9 (.int .i64), .sym 10 .slice, .sym 11 .slice, .sym 12 .slice, .sym 13 .slice]
def argS : List Sh.SV := [.sym 1 (.int .i64), .sym 2 (.int .i64), .sym 3 (.int .i64), .sym 4 (.int .i64), .sym 5 (.int .i64), .sym 6 .bool, .sym 7 .string] ++ msgS ++ [.sym 14 .slice]
theorem arg : Sh.symArg Tryz.prog 66 1 = some (.agg argS) := by kernel_rfl
/-- What is not entered: awake, BigMessage of the argument's message. -/
def orc : FuncId → List Sh.SV → Sh.Hp → Option Sh.SV := fun f a h =>
  if f = 16 then Sh.orcTrue 16 f a h
  else if f = 47 then (if Sh.SV.beqs a [.agg msgS, .int .i64 30, .int .i64 1000] then some (.sym 0 .bool) else none)
  else none
theorem goes : Sh.goes (Sh.envOf Tryz.prog orc) [] [] 4 [.agg argS] Sh.isTrue 3000 = true := by kernel_rfl

set_option maxRecDepth 100000 in
/-- The Go text returns true, and turns nothing that was there. -/
theorem walk (W : World) {base : Nat} (v : Value) (hv : Value.okWide Tryz.prog W .any base 66 v) {H : Type} {enc : TypeId × Value → H} {d : DataW H} {p : List MemPlace} (h0 : DataW.Trod enc Tryz.prog W 0 (fun _ => true) true 66 v d p) :
    Calls Tryz.prog 4 #[v] W fun e w' => e = .returned (.bool true) ∧ Below W.heap.size W w' := by
  letI : Sh.Syms := Sh.symsOf [v]
  have hν : ∀ (i : Nat) c, i < 100 → v.cells[i]? = some c → c = Sh.Syms.ν (1 + i) := fun i c hi hc => Sh.nuOf_at (vs := [v]) (j := 0) rfl hi (by omega) hc
  have hx : Sh.VR Sh.mu0 (.agg argS) v := Sh.symArg_sound arg hv fun i c hi hc => hν i c (Nat.lt_of_lt_of_le hi (by decide)) hc
  obtain ⟨a, rfl, ha⟩ := (by simpa only [Sh.VR] using hx : ∃ a, v = .agg a ∧ Sh.VRs Sh.mu0 argS a.toList)
  have hlen : a.toList.length = 14 := ha.length.symm
  have hν' : ∀ (i : Nat) c, a.toList[i]? = some c → c = Sh.Syms.ν (1 + i) := fun i c hc => hν i c (by
    rcases Nat.lt_or_ge i a.toList.length with h | h
    · omega
    · rw [List.getElem?_eq_none h] at hc; cases hc) (by simpa [Value.cells] using hc)
  obtain ⟨fuel, h0⟩ := h0
  have hr : big.Rd enc Tryz.prog W 0 (fun _ => true) true 66 a.toList := ⟨fuel, _, h0⟩
  have hM : big.Rd enc Tryz.prog W 0 (fun _ => true) true 41 ((a.toList.drop 7).take 6) := by
    have := (big.rd_fields Tryz.underlying66 hr).2 7 _ rfl
    rwa [big.c41] at this
  have part : ∀ (o n : Nat) (l : List Sh.SV) (μ : Sh.Mu) (vs : List Value), Sh.VRs μ l vs → l.length = n → o + n ≤ 14 → (∀ (i : Nat) s, l[i]? = some s → ∃ u, s = .sym (o + 1 + i) u) → vs = (a.toList.drop o).take n := by
    intro o n l μ vs h hl hon hs
    refine Sh.syms_list (k := o + 1) (by omega) h hs (by rw [List.length_take, List.length_drop, hlen, hl]; omega) fun i c hc => ?_
    rw [List.getElem?_take] at hc
    split at hc
    · rw [List.getElem?_drop] at hc
      rw [hν' _ _ hc]; congr 1; omega
    · cases hc
  have Q : Sh.OrcOK Tryz.prog (Sh.envOf Tryz.prog orc) W := by
    intro f sargs vargs μ h w r e R hargs
    have e' : orc f sargs h = some r := e
    unfold orc at e'
    split at e'
    · rename_i hf
      subst hf
      exact Sh.orcTrue_ok (w₀ := W) (fun w _ => coreAwake.walk w) 16 sargs vargs μ h w r e' R hargs
    · split at e'
      · rename_i hf
        subst hf
        split at e'
        · rename_i hb
          cases e'
          rw [Sh.SV.eqs_of_beqs hb] at hargs
          obtain ⟨x, y, z, rfl, hx, hy, hz⟩ := triple hargs
          simp only [Sh.VR] at hx hy hz
          obtain ⟨c, rfl, hc⟩ := hx
          subst hy
          subst hz
          have hcl := part 7 6 msgS μ c.toList hc rfl (by omega) (by
            intro i s hi
            match i with
            | 0 | 1 | 2 | 3 | 4 | 5 => simp [msgS] at hi; exact ⟨_, hi.symm⟩
            | i + 6 => simp [msgS] at hi)
          have hc2 : c = ((a.toList.drop 7).take 6).toArray := by apply Array.ext'; rw [hcl]
          rw [hc2]
          exact (big.bigMessage_any hM 30 1000 w R.below).mono fun e w' ⟨q, h1, h2⟩ => ⟨.bool q, h1, by simp only [Sh.VR, Sh.Unk.has]; exact ⟨.inl trivial, q, rfl⟩, h2⟩
        · cases e'
      · cases e'
  exact Sh.goes_true (P := Tryz.prog) (E := Sh.envOf Tryz.prog orc) (n := 3000) (Sh.envOf_ok all_ok mixed) Q (Sh.GlobOK.nil W) Sh.boxOK_nil (Sh.VRs.one hx) goes

set_option maxRecDepth 100000 in
theorem lifted (os : Os) (started : os.Started) (H : Type) (enc : TypeId × Value → H) :
    ReturnsInHanded {} Tryz.checked os 4 .any (Rows.coreNoneSpec.pre6 enc Tryz.prog Tryz.f4 Rows.coreNoneRow.domain false) (Rows.coreNoneSpec.post enc Tryz.prog Tryz.f4 false true false false) := by
  refine returnsInHanded_of_change (C := Tryz.checked) own started (by kernel_rfl) Tryz.func4
    (ChangeSpec.witness6 (enc := enc) (C := Tryz.checked) false ⟨#[], #[.agg #[.int .i64 0, .int .i64 0, .int .i64 0, .int .i64 0, .int .i64 0, .bool false, .string .empty, .int .i64 0, .int .i64 0, .slice none 0 0, .slice none 0 0, .slice none 0 0, .slice none 0 0, .slice none 0 0]], []⟩ 8 (by kernel_rfl) (by kernel_rfl) (by kernel_rfl) (by kernel_rfl)) ?_
  intro W base args ds gs before hval0 hW hcnd _
  have hval : ∀ (j : Nat) t v, Tryz.f4.params[j]? = some t → args[j]? = some v → Value.okWide Tryz.prog W .any base t v := hval0
  have hW' := hW
  have hlt := hW.lt
  obtain ⟨p, q, hA0, hV, rfl, hfz, hnd⟩ := hW
  have hA : DataW.TrodAll enc Tryz.prog W 0 (fun _ => true) true Tryz.f4.params.toList args.toList ds p := hA0
  rw [Tryz.params4] at hA hval
  have hA1 := hA
  obtain ⟨v0, d0, rfl, rfl, h0⟩ := trodAll_one hA1
  obtain ⟨rfl, rfl⟩ := trodVars_none hV
  have hv0 := hval 0 66 v0 rfl rfl
  clear hA0 hval0
  simp only [List.append_nil] at hW' hlt
  refine (walk W v0 hv0 h0).mono fun e W' ⟨he, hg⟩ => ?_
  subst he
  exact ⟨_, rfl, Sh.post_below (pa := p) (pv := []) hW' (fun _ _ _ => (trodAll_cons_mk (shut_bool Tryz.underlying4 _) trodAll_mk0))
    (fun sp hsp => Sh.trodAll_below (by kernel_rfl) hg (fun t ht => by
      have ht' : t ∈ [66] := by rw [Tryz.params4] at ht; simpa using ht
      have hall : ([66].all fun u => Tryz.prog.readableRec u && decide (u < Tryz.prog.types.size)) = true := by kernel_rfl
      have h2 : (Tryz.prog.readableRec t && decide (t < Tryz.prog.types.size)) = true := List.all_eq_true.1 hall t ht'
      exact ⟨(Bool.and_eq_true_iff.1 h2).1, of_decide_eq_true (Bool.and_eq_true_iff.1 h2).2⟩) hA hlt hsp)
    (fun _ _ => rfl) (by simp) hg (ok_one (by kernel_rfl) rfl (okWide_bool_mk Tryz.underlying4 _))⟩

theorem over : Rows.coreNoneRow.holds Tryz.pinned (OpenSpec.ofChange Rows.coreNoneSpec) :=
  OpenClaim.holds_of_wide 4 Tryz.f4 rfl rfl rfl rfl rfl rfl rfl ⟨rfl, rfl, rfl, rfl, rfl⟩ rfl rfl rfl rfl rfl (by kernel_rfl) Tryz.func4 (by kernel_rfl)
    (of_decide_eq_true (by kernel_rfl)) (by unfold Func.isWrapper; first | (rw [if_pos (by decide +kernel)]; kernel_rfl) | (rw [if_neg (by decide +kernel)]; exact ⟨rfl, rfl⟩))
    (fun os started H enc _ => lifted os started H enc)

/-- The statement. -/
theorem proved : Rows.CoreNoneSaid :=
  over
#print axioms proved
end Go.Proofs.YtbnpaiofikdinaaGreat.coreNone
