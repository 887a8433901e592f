/-
  BenchNone: a bench that is nil, or that New did not make, answers nothing: the Go function returns true and leaves its argument alone: where the listed package-level variables read as the card ties them.
  HOW: the function is run once, in the kernel, on a machine of one goroutine of my own (texts ..SiA to ..SiG) whose values may be unknown: of the arguments the types of their cells alone are known; awake is run apart, in pieces.
-/
import Derived.Test.YtmoppkfallanoaaGreatDoorTiZ
import Derived.Test.YtmoppkfallanoaaGreatDoorCards
import Derived.Test.YtmoppkfallanoaaGreatDoorTiW
import Derived.Test.YtmoppkfallanoaaGreatDoorFacBenchNone
import Derived.Test.YtmoppkfallanoaaGreatDoorBaR
import Derived.Test.YtmoppkfallanoaaGreatDoorBaCW
import Derived.Test.YtmoppkfallanoaaGreatDoorSiG
import Derived.WalkKit
import Derived.ProofKit
import Derived.OpenShut
import Derived.Carry
import Derived.LaidMore
import Derived.Lay
import Derived.SevenTiedAt
import Derived.Stop.Joined
namespace Go.Proofs.YtmoppkfallanoaaGreatDoor.benchNone
open Go.ChangeShapes Go.WideShapes Go.ChangeAt Go.RowKit

theorem own : ownKnob Tryz.prog.godebug = none := by kernel_rfl

set_option maxRecDepth 100000 in
/-- The Go text returns true, and turns nothing that was there. -/
theorem walk (W : World) (hT : Lib.TabIs Tryz.prog W "internal/strconv.uint64pow10" .u64 [1,10,100,1000,10000,100000,1000000,10000000,100000000,1000000000,10000000000,100000000000,1000000000000,10000000000000,100000000000000,1000000000000000,10000000000000000,100000000000000000,1000000000000000000,10000000000000000000]) {base : Nat} (v0 : Value) (hv0 : Value.okWide Tryz.prog W .any base 9 v0) :
    Calls Tryz.prog 5 #[v0] W fun e w' => e = .returned (.bool true) ∧ Below W.heap.size W w' := by
  letI : Sh.Syms := Sh.symsOf [v0]
  have x0 : Sh.VR Sh.mu0 a0 v0 := Sh.symArg_sound arg0 hv0 fun i c hi hc => Sh.nuOf_at (vs := [v0]) (j := 0) rfl (Nat.lt_of_lt_of_le hi (by decide)) (by omega) hc
  exact Sh.goes_true (P := Tryz.prog) (E := Sh.envOf Tryz.prog (Sh.orcTrue 23)) (n := 1000) (Sh.envOf_ok all_ok mixed)
    (Sh.orcTrue_ok (w₀ := W) fun w hb => benchAwake.walk w (Sh.tabIs_below hT hb)) (Sh.GlobOK.nil W) Sh.boxOK_nil ((Sh.VRs.one x0)) goes

set_option maxRecDepth 100000 in
theorem lifted (os : Os) (started : os.Started) (H : Type) (enc : TypeId × Value → H) :
    ReturnsInHanded {} Tryz.checked os 5 .any (fun w args => (Rows.benchNoneSpec.pre enc Tryz.prog Tryz.f5 Rows.benchNoneRow.domain false w args ∧ laidMetH Tryz.prog Rows.benchNoneRow.laid w) ∧ sizedMet enc Tryz.prog Tryz.f5 (OpenSpec.ofChange Rows.benchNoneSpec) false w args)
      (Rows.benchNoneSpec.post enc Tryz.prog Tryz.f5 false true false false) := by
  refine returnsInHanded_of_change_and (C := Tryz.checked) (X := fun w _ => laidMetH Tryz.prog Rows.benchNoneRow.laid w) (fun _ _ _ hh h => h.of_heap hh) own started (by as_aux_lemma => kernel_rfl) Tryz.func5
    (ChangeSpec.witness_shaped (enc := enc) (C := Tryz.checked) (os := os) (X := fun w _ => laidMetH Tryz.prog Rows.benchNoneRow.laid w) false (wit.w0 os) #[.string .empty] 8 (wit.w0_os os)
      (World.shaped_of_ZipB (by as_aux_lemma => kernel_rfl) (by as_aux_lemma => kernel_rfl)) (by as_aux_lemma => kernel_rfl) (by as_aux_lemma => kernel_rfl) (by as_aux_lemma => kernel_rfl)
      (by rw [MakeChecks.laidMetH_plain _ _ _ (by kernel_rfl)]; exact wit.met os _)) ?_
  intro W base args ds gs before hval0 hW hcnd _ hL _
  rw [MakeChecks.laidMetH_plain _ _ _ (by kernel_rfl)] at hL
  have hT : Lib.TabIs Tryz.prog W "internal/strconv.uint64pow10" .u64 [1,10,100,1000,10000,100000,1000000,10000000,100000000,1000000000,10000000000,100000000000,1000000000000,10000000000000,100000000000000,1000000000000000,10000000000000000,100000000000000000,1000000000000000000,10000000000000000000] :=
    Lib.tabIs_of_head (g := 6) (t := 734) (e := 576) (n := 20) (by as_aux_lemma => kernel_rfl) (by as_aux_lemma => kernel_rfl) (by as_aux_lemma => kernel_rfl) (by as_aux_lemma => kernel_rfl) (by as_aux_lemma => kernel_rfl) (by as_aux_lemma => kernel_rfl) ((((hL.tail).tail).tail).tail)
  have hval : ∀ (j : Nat) t v, Tryz.f5.params[j]? = some t → args[j]? = some v → Value.okWide Tryz.prog W .any base t v := hval0
  have hW' := hW
  have hlt := hW.lt
  obtain ⟨p, q, hA0, hV, rfl, hfz, hnd⟩ := hW
  have hA : DataW.TrodAll enc Tryz.prog W 0 (fun _ => true) true Tryz.f5.params.toList args.toList ds p := hA0
  rw [Tryz.params5] at hA hval
  have hA1 := hA
  obtain ⟨v0, d0, rfl, rfl, h0⟩ := trodAll_one hA1
  obtain ⟨rfl, rfl⟩ := trodVars_none hV
  have hv0 := hval 0 9 v0 rfl rfl
  clear hA0 hval0
  simp only [List.append_nil] at hW' hlt
  refine (walk W hT v0 hv0).mono fun e W' ⟨he, hg⟩ => ?_
  subst he
  exact ⟨_, rfl, Sh.post_below (pa := p) (pv := []) hW' (fun _ _ _ => (trodAll_cons_mk (shut_bool Tryz.underlying4 _) trodAll_mk0))
    (fun sp hsp => Sh.trodAll_below (fac.laid) hg (fun t ht => by
      have ht' : t ∈ [9] := by rw [Tryz.params5] at ht; simpa using ht
      have hall : ([9].all fun u => Tryz.prog.readableRec u && decide (u < Tryz.prog.types.size)) = true := by as_aux_lemma => kernel_rfl
      have h2 : (Tryz.prog.readableRec t && decide (t < Tryz.prog.types.size)) = true := List.all_eq_true.1 hall t ht'
      exact ⟨(Bool.and_eq_true_iff.1 h2).1, of_decide_eq_true (Bool.and_eq_true_iff.1 h2).2⟩) hA hlt hsp)
    (fun _ _ => rfl) (by simp) hg (ok_one (by as_aux_lemma => kernel_rfl) rfl (okWide_bool_mk Tryz.underlying4 _))⟩

theorem over : Rows.benchNoneRow.holds Tryz.pinned (OpenSpec.ofChange Rows.benchNoneSpec) :=
  OpenClaim.holds_of_wide 5 Tryz.f5 rfl rfl rfl rfl rfl rfl rfl ⟨rfl, rfl, rfl, rfl, rfl⟩ rfl rfl rfl rfl rfl (by as_aux_lemma => kernel_rfl) Tryz.func5 fac.benchNone.joined
    (of_decide_eq_true (by as_aux_lemma => kernel_rfl)) (by unfold Func.isWrapper; first | (rw [if_pos (by decide +kernel)]; kernel_rfl) | (rw [if_neg (by decide +kernel)]; exact ⟨rfl, rfl⟩))
    (fun os started H enc _ => lifted os started H enc)

/-- The statement. -/
theorem proved : Rows.BenchNoneCardSaid :=
  Claim7.holds_tied_plain_at .later [] [.pinned, .data, .sentinel, .sentinel, .data, .data, .data] true (true, "2e975e7ff202289d345144fbd7ae3003325eef93174890c0b42f43b1ac6a5553") true over (fun _ h => by cases h) (by as_aux_lemma => kernel_rfl) (fun _ h => by cases h) ties.benchNone_row_tie rfl ⟨rfl, rfl⟩ (by as_aux_lemma => kernel_rfl) rfl
    (fun f fn hf hfn => by
      obtain rfl : f = 5 := Option.some.inj ((show Tryz.prog.funcNamed "ostiary/ostiarylaw32.BenchNone" = some 5 by as_aux_lemma => kernel_rfl).symm.trans hf) |>.symm
      obtain rfl : fn = Tryz.f5 := (Option.some.inj (Tryz.func5.symm.trans hfn)).symm
      exact ⟨by as_aux_lemma => kernel_rfl, fun j t ht => by
        rw [Tryz.params5] at ht
        have hm : t ∈ [9] := by simpa using Array.mem_of_getElem? ht
        have hall : ([9].all fun u => !Tryz.prog.wantsStandIn u) = true := by as_aux_lemma => kernel_rfl
        exact (show Tryz.prog.wantsStandIn t = false by simpa using List.all_eq_true.1 hall t hm)⟩)
    fac.benchNone.goes
#print axioms proved
end Go.Proofs.YtmoppkfallanoaaGreatDoor.benchNone
