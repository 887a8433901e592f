/-
  TaskNone: tasks that are nil, or that New did not make, answer ErrNil and want nothing, whatever they are told: the Go function returns true and leaves its argument alone: no condition.
  HOW: the function is run once, in the kernel, on a machine of one goroutine of my own (texts ..SiA to ..SiG) whose values may be unknown: of the argument the types of its cells alone are known; awake is run apart, and the guards BigVerdict and BigSet are taken by contracts (text ..BigOk).
-/
import Derived.Test.YtbiaiionecpdgaaRows
import Derived.Test.YtbiaiionecpdgaaTaCW
import Derived.Test.YtbiaiionecpdgaaBigOk
import Derived.Test.YtbiaiionecpdgaaSiG
import Derived.WalkKit
import Derived.ProofKit
import Derived.OpenShut
namespace Go.Proofs.Ytbiaiionecpdgaa.taskNone
open Go.ChangeShapes Go.WideShapes Go.ChangeAt Go.RowKit

theorem own : ownKnob Try.prog.godebug = none := by kernel_rfl

theorem all_ok : Try.prog.funcs.toList.all Sh.okFn = true := by kernel_rfl
theorem mixed : Try.prog.follows .mixedOrders = true := by kernel_rfl

/-- The argument: of its 22 cells the types alone are known. -/
def setS : List Sh.SV := [.sym 5 .string, .sym 6 (.int .i64), .sym 7 (.int .i64), .sym 8 (.int .i64), .sym 9 .slice]
def verdictS : List Sh.SV := [.sym 11 (.int .i64), .sym 12 .slice, .sym 13 .string, .sym 14 .slice, .sym 15 .string, .sym 16 .string, .sym 17 (.int .i64), .sym 18 (.int .i64), .sym 19 (.int .i64), .sym 20 .slice, .sym 21 .slice, .sym 22 (.int .i64)]
def argS : List Sh.SV := [.sym 1 (.int .i64), .sym 2 (.int .i64), .sym 3 .bool, .sym 4 (.int .i64)] ++ setS ++ [.sym 10 (.int .i64)] ++ verdictS
theorem arg : Sh.symArg Try.prog 66 1 = some (.agg argS) := by kernel_rfl
/-- What is not entered: awake, BigVerdict of the argument's verdict, BigSet of its set. -/
def orc : FuncId → List Sh.SV → Sh.Hp → Option Sh.SV := fun f a h =>
  if f = 21 then Sh.orcTrue 21 f a h
  else if f = 47 then (if Sh.SV.beqs a [.agg verdictS, .int .i64 1000] then some (.sym 0 .bool) else none)
  else if f = 48 then (if Sh.SV.beqs a [.agg setS, .int .i64 1000] then some (.sym 0 .bool) else none)
  else none
theorem goes : Sh.goes (Sh.envOf Try.prog orc) [] [] 5 [.agg argS] Sh.isTrue 3000 = true := by kernel_rfl

set_option maxRecDepth 100000 in
/-- The Go text returns true, and turns nothing that was there. -/
theorem walk (W : World) {base : Nat} (v : Value) (hv : Value.okWide Try.prog W .any base 66 v) {H : Type} {enc : TypeId × Value → H} {d : DataW H} {p : List MemPlace} (h0 : DataW.Trod enc Try.prog W 0 (fun _ => true) true 66 v d p) :
    Calls Try.prog 5 #[v] W fun e w' => e = .returned (.bool true) ∧ Below W.heap.size W w' := by
  letI : Sh.Syms := Sh.symsOf [v]
  have hν : ∀ (i : Nat) c, i < 100 → v.cells[i]? = some c → c = Sh.Syms.ν (1 + i) := fun i c hi hc => Sh.nuOf_at (vs := [v]) (j := 0) rfl hi (by omega) hc
  have hx : Sh.VR Sh.mu0 (.agg argS) v := Sh.symArg_sound arg hv fun i c hi hc => hν i c (Nat.lt_of_lt_of_le hi (by decide)) hc
  obtain ⟨a, rfl, ha⟩ := (by simpa only [Sh.VR] using hx : ∃ a, v = .agg a ∧ Sh.VRs Sh.mu0 argS a.toList)
  have hlen : a.toList.length = 22 := ha.length.symm
  have hν' : ∀ (i : Nat) c, a.toList[i]? = some c → c = Sh.Syms.ν (1 + i) := fun i c hc => hν i c (by
    rcases Nat.lt_or_ge i a.toList.length with h | h
    · omega
    · rw [List.getElem?_eq_none h] at hc; cases hc) (by simpa [Value.cells] using hc)
  obtain ⟨fuel, h0⟩ := h0
  have hr : big.Rd enc Try.prog W 0 (fun _ => true) true 66 a.toList := ⟨fuel, _, h0⟩
  have hV : big.Rd enc Try.prog W 0 (fun _ => true) true 37 ((a.toList.drop 10).take 12) := by
    have := (big.rd_fields Try.underlying66 hr).2 4 _ rfl
    rwa [big.c37] at this
  have hS : big.Rd enc Try.prog W 0 (fun _ => true) true 34 ((a.toList.drop 4).take 5) := by
    have hF := (big.rd_fields Try.underlying66 hr).2 3 _ rfl
    have := (big.rd_fields Try.underlying44 hF).2 1 _ rfl
    rw [big.c34, show Try.prog.cellsOf 44 = 7 by kernel_rfl] at this
    simpa [List.drop_take, List.take_take, List.drop_drop] using this
  have part : ∀ (o n : Nat) (l : List Sh.SV) (μ : Sh.Mu) (vs : List Value), Sh.VRs μ l vs → l.length = n → o + n ≤ 22 → (∀ (i : Nat) s, l[i]? = some s → ∃ u, s = .sym (o + 1 + i) u) → vs = (a.toList.drop o).take n := by
    intro o n l μ vs h hl hon hs
    refine Sh.syms_list (k := o + 1) (by omega) h hs (by rw [List.length_take, List.length_drop, hlen, hl]; omega) fun i c hc => ?_
    rw [List.getElem?_take] at hc
    split at hc
    · rw [List.getElem?_drop] at hc
      rw [hν' _ _ hc]; congr 1; omega
    · cases hc
  have Q : Sh.OrcOK Try.prog (Sh.envOf Try.prog orc) W := by
    intro f sargs vargs μ h w r e R hargs
    have e' : orc f sargs h = some r := e
    unfold orc at e'
    split at e'
    · rename_i hf
      subst hf
      exact Sh.orcTrue_ok (w₀ := W) (fun w _ => taskAwake.walk w) 21 sargs vargs μ h w r e' R hargs
    · split at e'
      · rename_i hf
        subst hf
        split at e'
        · rename_i hb
          cases e'
          rw [Sh.SV.eqs_of_beqs hb] at hargs
          obtain ⟨x, y, rfl, hx, hy⟩ := hargs.pair
          simp only [Sh.VR] at hx hy
          obtain ⟨c, rfl, hc⟩ := hx
          subst hy
          have hcl := part 10 12 verdictS μ c.toList hc rfl (by omega) (by
            intro i s hi
            match i with
            | 0 | 1 | 2 | 3 | 4 | 5 | 6 | 7 | 8 | 9 | 10 | 11 => simp [verdictS] at hi; exact ⟨_, hi.symm⟩
            | i + 12 => simp [verdictS] at hi)
          have hc2 : c = ((a.toList.drop 10).take 12).toArray := by apply Array.ext'; rw [hcl]
          rw [hc2]
          exact (big.bigVerdict_any hV 1000 w R.below).mono fun e w' ⟨q, h1, h2⟩ => ⟨.bool q, h1, by simp only [Sh.VR, Sh.Unk.has]; exact ⟨.inl trivial, q, rfl⟩, h2⟩
        · cases e'
      · split at e'
        · rename_i hf
          subst hf
          split at e'
          · rename_i hb
            cases e'
            rw [Sh.SV.eqs_of_beqs hb] at hargs
            obtain ⟨x, y, rfl, hx, hy⟩ := hargs.pair
            simp only [Sh.VR] at hx hy
            obtain ⟨c, rfl, hc⟩ := hx
            subst hy
            have hcl := part 4 5 setS μ c.toList hc rfl (by omega) (by
              intro i s hi
              match i with
              | 0 | 1 | 2 | 3 | 4 => simp [setS] at hi; exact ⟨_, hi.symm⟩
              | i + 5 => simp [setS] at hi)
            have hc2 : c = ((a.toList.drop 4).take 5).toArray := by apply Array.ext'; rw [hcl]
            rw [hc2]
            exact (big.bigSet_any hS 1000 w R.below).mono fun e w' ⟨q, h1, h2⟩ => ⟨.bool q, h1, by simp only [Sh.VR, Sh.Unk.has]; exact ⟨.inl trivial, q, rfl⟩, h2⟩
          · cases e'
        · cases e'
  exact Sh.goes_true (P := Try.prog) (E := Sh.envOf Try.prog orc) (n := 3000) (Sh.envOf_ok all_ok mixed) Q (Sh.GlobOK.nil W) Sh.boxOK_nil (Sh.VRs.one hx) goes

set_option maxRecDepth 100000 in
theorem lifted (os : Os) (started : os.Started) (H : Type) (enc : TypeId × Value → H) :
    ReturnsInHanded {} Try.checked os 5 .any (Rows.taskNoneSpec.pre6 enc Try.prog Try.f5 Rows.taskNoneRow.domain false) (Rows.taskNoneSpec.post enc Try.prog Try.f5 false true false false) := by
  refine returnsInHanded_of_change (C := Try.checked) own started (by kernel_rfl) Try.func5
    (ChangeSpec.witness6 (enc := enc) (C := Try.checked) false ⟨#[], #[.agg #[.int .i64 0, .int .i64 0, .bool false, .int .i64 0, .string .empty, .int .i64 0, .int .i64 0, .int .i64 0, .slice none 0 0, .int .i64 0, .int .i64 0, .slice none 0 0, .string .empty, .slice none 0 0, .string .empty, .string .empty, .int .i64 0, .int .i64 0, .int .i64 0, .slice none 0 0, .slice none 0 0, .int .i64 0]], []⟩ 8 (by kernel_rfl) (by kernel_rfl) (by kernel_rfl) (by kernel_rfl)) ?_
  intro W base args ds gs before hval0 hW hcnd _
  have hval : ∀ (j : Nat) t v, Try.f5.params[j]? = some t → args[j]? = some v → Value.okWide Try.prog W .any base t v := hval0
  have hW' := hW
  have hlt := hW.lt
  obtain ⟨p, q, hA0, hV, rfl, hfz, hnd⟩ := hW
  have hA : DataW.TrodAll enc Try.prog W 0 (fun _ => true) true Try.f5.params.toList args.toList ds p := hA0
  rw [Try.params5] at hA hval
  have hA1 := hA
  obtain ⟨v0, d0, rfl, rfl, h0⟩ := trodAll_one hA1
  obtain ⟨rfl, rfl⟩ := trodVars_none hV
  have hv0 := hval 0 66 v0 rfl rfl
  clear hA0 hval0
  simp only [List.append_nil] at hW' hlt
  refine (walk W v0 hv0 h0).mono fun e W' ⟨he, hg⟩ => ?_
  subst he
  exact ⟨_, rfl, Sh.post_below (pa := p) (pv := []) hW' (fun _ _ _ => (trodAll_cons_mk (shut_bool Try.underlying4 _) trodAll_mk0))
    (fun sp hsp => Sh.trodAll_below (by kernel_rfl) hg (fun t ht => by
      have ht' : t ∈ [66] := by rw [Try.params5] at ht; simpa using ht
      have hall : ([66].all fun u => Try.prog.readableRec u && decide (u < Try.prog.types.size)) = true := by kernel_rfl
      have h2 : (Try.prog.readableRec t && decide (t < Try.prog.types.size)) = true := List.all_eq_true.1 hall t ht'
      exact ⟨(Bool.and_eq_true_iff.1 h2).1, of_decide_eq_true (Bool.and_eq_true_iff.1 h2).2⟩) hA hlt hsp)
    (fun _ _ => rfl) (by simp) hg (ok_one (by kernel_rfl) rfl (okWide_bool_mk Try.underlying4 _))⟩

theorem over : Rows.taskNoneRow.holds Try.pinned (OpenSpec.ofChange Rows.taskNoneSpec) :=
  OpenClaim.holds_of_wide 5 Try.f5 rfl rfl rfl rfl rfl rfl rfl ⟨rfl, rfl, rfl, rfl, rfl⟩ rfl rfl rfl rfl rfl (by kernel_rfl) Try.func5 (by kernel_rfl)
    (of_decide_eq_true (by kernel_rfl)) (by unfold Func.isWrapper; first | (rw [if_pos (by decide +kernel)]; kernel_rfl) | (rw [if_neg (by decide +kernel)]; exact ⟨rfl, rfl⟩))
    (fun os started H enc _ => lifted os started H enc)

/-- The statement. -/
theorem proved : Rows.TaskNoneSaid :=
  over
#print axioms proved
end Go.Proofs.Ytbiaiionecpdgaa.taskNone
