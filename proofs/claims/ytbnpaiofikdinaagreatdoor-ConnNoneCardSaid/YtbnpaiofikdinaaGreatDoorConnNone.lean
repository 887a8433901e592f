/-
  ConnNone: connections that are none, or that New did not make, answer nothing: the Go function returns true and leaves its argument alone, whatever the argument: where the listed package-level variables read as the card ties them.
  HOW: the function is run once, in the kernel, on a machine of one goroutine of my own (texts ..SiA to ..SiF) whose values may be unknown: of the argument's cells it knows the types alone, and at a test of what is unknown it goes both ways.
-/
import Derived.Test.YtbnpaiofikdinaaGreatDoorTie
import Derived.Test.YtbnpaiofikdinaaGreatDoorCards
import Derived.Test.YtbnpaiofikdinaaGreatDoorSiF
import Derived.WalkKit
import Derived.ProofKit
import Derived.OpenShut
import Derived.LaidMore
import Derived.Lay
import Derived.SevenTiedAt
import Derived.Stop.Joined
namespace Go.Proofs.YtbnpaiofikdinaaGreatDoor.connNone
open Go.ChangeShapes Go.WideShapes Go.ChangeAt Go.RowKit

theorem own : ownKnob Tryz.prog.godebug = none := by kernel_rfl

theorem all_ok : Tryz.prog.funcs.toList.all Sh.okFn = true := by kernel_rfl
theorem mixed : Tryz.prog.follows .mixedOrders = true := by kernel_rfl

/-- The argument: nine cells of which the types alone are known. -/
def argS : Sh.SV := .agg [.sym 1 (.int .i64), .sym 2 (.int .i64), .sym 3 (.int .i64), .sym 4 .bool, .sym 5 (.int .i64), .sym 6 (.int .i64), .sym 7 (.int .i64), .sym 8 (.int .i64), .sym 9 .slice]
theorem arg : Sh.symArg Tryz.prog 38 1 = some argS := by kernel_rfl
theorem run : Sh.goes (Sh.envOf Tryz.prog Sh.noOrc) 4 [argS] Sh.isTrue 8000 = true := by kernel_rfl

set_option maxRecDepth 100000 in
/-- The Go text returns true, and turns nothing that was there. -/
theorem walk (W : World) {base : Nat} (v : Value) (hv : Value.okWide Tryz.prog W .any base 38 v) : Calls Tryz.prog 4 #[v] W fun e w' => e = .returned (.bool true) ∧ Below W.heap.size W w' := by
  letI : Sh.Syms := ⟨fun n => (v.cells[n - 1]?).getD undef⟩
  have hx : Sh.VR Sh.mu0 argS v := Sh.symArg_sound arg hv fun i c hc => by
    show c = (v.cells[1 + i - 1]?).getD undef
    rw [Nat.add_sub_cancel_left, hc]
    rfl
  have ha : Sh.VRs Sh.mu0 [argS] (#[v] : Array Value).toList := Sh.VRs.one hx
  exact Sh.goes_true (P := Tryz.prog) (E := Sh.envOf Tryz.prog Sh.noOrc) (n := 8000) (Sh.envOf_ok all_ok mixed) Sh.noOrc_ok ha run

set_option maxRecDepth 100000 in
theorem lifted (os : Os) (started : os.Started) (H : Type) (enc : TypeId × Value → H) :
    ReturnsInHanded {} Tryz.checked os 4 .any (fun w args => (Rows.connNoneSpec.pre enc Tryz.prog Tryz.f4 Rows.connNoneRow.domain false w args ∧ laidMetH Tryz.prog Rows.connNoneRow.laid w) ∧ sizedMet enc Tryz.prog Tryz.f4 (OpenSpec.ofChange Rows.connNoneSpec) false w args)
      (Rows.connNoneSpec.post enc Tryz.prog Tryz.f4 false true false false) := by
  refine returnsInHanded_of_change_and (C := Tryz.checked) (X := fun w _ => laidMetH Tryz.prog Rows.connNoneRow.laid w) (fun _ _ _ hh h => h.of_heap hh) own started (by kernel_rfl) Tryz.func4
    (ChangeSpec.witness_shaped (enc := enc) (C := Tryz.checked) (os := os) (X := fun w _ => laidMetH Tryz.prog Rows.connNoneRow.laid w) false (World.laidAll Tryz.prog os Rows.connNoneRow.laid)
      #[.agg #[.int .i64 0, .int .i64 0, .int .i64 0, .bool false, .int .i64 0, .int .i64 0, .int .i64 0, .int .i64 0, .slice none 0 0]] 8 (World.laidAll_os _ _ _)
      (World.shaped_of_ZipB (by kernel_rfl) (by kernel_rfl)) (by kernel_rfl) (by kernel_rfl) (by kernel_rfl)
      (by rw [MakeChecks.laidMetH_plain _ _ _ (by kernel_rfl)]; exact laidMet_laidAll _ (by kernel_rfl) (by kernel_rfl))) ?_
  intro W base args ds gs before hval0 hW hcnd _ hL _
  have hval : ∀ (j : Nat) t v, Tryz.f4.params[j]? = some t → args[j]? = some v → Value.okWide Tryz.prog W .any base t v := hval0
  have hW' := hW
  have hlt := hW.lt
  obtain ⟨p, q, hA0, hV, rfl, hfz, hnd⟩ := hW
  have hA : DataW.TrodAll enc Tryz.prog W 0 (fun _ => true) true Tryz.f4.params.toList args.toList ds p := hA0
  rw [Tryz.params4] at hA hval
  have hA1 := hA
  obtain ⟨v0, d0, rfl, rfl, h0⟩ := trodAll_one hA1
  obtain ⟨rfl, rfl⟩ := trodVars_none hV
  have hv0 := hval 0 38 v0 rfl rfl
  clear hA0 hval0
  simp only [List.append_nil] at hW' hlt
  refine (walk W v0 hv0).mono fun e W' ⟨he, hg⟩ => ?_
  subst he
  exact ⟨_, rfl, Sh.post_below (pa := p) (pv := []) hW' (fun _ _ _ => (trodAll_cons_mk (shut_bool Tryz.underlying4 _) trodAll_mk0))
    (fun sp hsp => Sh.trodAll_below (by kernel_rfl) hg (fun t ht => by
      have ht' : t ∈ [38] := by rw [Tryz.params4] at ht; simpa using ht
      rw [List.mem_singleton] at ht'; subst ht'; exact ⟨by kernel_rfl, of_decide_eq_true (by kernel_rfl)⟩) hA hlt hsp)
    (fun _ _ => rfl) (by simp) hg (ok_one (by kernel_rfl) rfl (okWide_bool_mk Tryz.underlying4 _))⟩

theorem over : Rows.connNoneRow.holds Tryz.pinned (OpenSpec.ofChange Rows.connNoneSpec) :=
  OpenClaim.holds_of_wide 4 Tryz.f4 rfl rfl rfl rfl rfl rfl rfl ⟨rfl, rfl, rfl, rfl, rfl⟩ rfl rfl rfl rfl rfl (by kernel_rfl) Tryz.func4 (by kernel_rfl)
    (of_decide_eq_true (by kernel_rfl)) (by unfold Func.isWrapper; first | (rw [if_pos (by decide +kernel)]; kernel_rfl) | (rw [if_neg (by decide +kernel)]; exact ⟨rfl, rfl⟩))
    (fun os started H enc _ => lifted os started H enc)

/-- The statement. -/
theorem proved : Rows.ConnNoneCardSaid :=
  Claim7.holds_tied_plain_at .later [] [.data, .data, .data, .data, .sentinel, .sentinel, .pinned] true (true, "84b9f0394a531371453a82fcf1ea89b7c955b22c09fbd90c803d529772e606e4") true over (fun _ h => by cases h) (by kernel_rfl) (fun _ h => by cases h) connNone_row_tie rfl ⟨rfl, rfl⟩ (by kernel_rfl) rfl
    (fun f fn hf hfn => by
      obtain rfl : f = 4 := Option.some.inj ((show Tryz.prog.funcNamed "ostiary/ostiarylaw28.ConnNone" = some 4 by kernel_rfl).symm.trans hf) |>.symm
      obtain rfl : fn = Tryz.f4 := (Option.some.inj (Tryz.func4.symm.trans hfn)).symm
      exact ⟨by kernel_rfl, fun j t ht => by
        rw [Tryz.params4] at ht
        have hm : t ∈ [38] := by simpa using Array.mem_of_getElem? ht
        have hall : ([38].all fun u => !Tryz.prog.wantsStandIn u) = true := by kernel_rfl
        exact (show Tryz.prog.wantsStandIn t = false by simpa using List.all_eq_true.1 hall t hm)⟩)
    (by kernel_rfl)
#print axioms proved
end Go.Proofs.YtbnpaiofikdinaaGreatDoor.connNone
