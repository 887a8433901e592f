/-
  ConnIdle: a connection is let go when it was idle for so long, and not before: the Go function returns true, whatever the four numbers: where the listed package-level variables read as the card ties them.
  HOW: the function is run once, in the kernel, on a machine of one goroutine of my own (texts ..SiA to ..SiG) whose numbers may be unknown: sums over the four arguments and their rests go in boxes, each comparison that boxes do not decide is gone through both ways; awake is run apart.
-/
import Derived.Test.YtgocdigdaaiagaaGreatDoorTie
import Derived.Test.YtgocdigdaaiagaaGreatDoorCards
import Derived.Test.YtgocdigdaaiagaaGreatDoorIaCW
import Derived.Test.YtgocdigdaaiagaaGreatDoorSiG
import Derived.WalkKit
import Derived.ProofKit
import Derived.OpenShut
import Derived.Carry
import Derived.LaidMore
import Derived.Lay
import Derived.SevenTiedAt
import Derived.Stop.Joined
namespace Go.Proofs.YtgocdigdaaiagaaGreatDoor.connIdle
open Go.ChangeShapes Go.WideShapes Go.ChangeAt Go.RowKit

theorem own : ownKnob Tryz.prog.godebug = none := by kernel_rfl

theorem all_ok : Tryz.prog.funcs.toList.all Sh.okFn = true := by kernel_rfl
theorem mixed : Tryz.prog.follows .mixedOrders = true := by kernel_rfl
theorem u3 : Tryz.prog.underlying 3 = some (.int .i64) := by kernel_rfl

/-- Four unknown numbers of 64 bits: sums over them go in boxes. -/
def a0 : Sh.SV := .sym 1 (.int .i64)
theorem arg0 : Sh.symArg Tryz.prog 3 1 = some a0 := by kernel_rfl
def a1 : Sh.SV := .sym 101 (.int .i64)
theorem arg1 : Sh.symArg Tryz.prog 3 101 = some a1 := by kernel_rfl
def a2 : Sh.SV := .sym 201 (.int .i64)
theorem arg2 : Sh.symArg Tryz.prog 3 201 = some a2 := by kernel_rfl
def a3 : Sh.SV := .sym 301 (.int .i64)
theorem arg3 : Sh.symArg Tryz.prog 3 301 = some a3 := by kernel_rfl
def bx0 : List (Nat × Int × Int) := [(1, -9223372036854775808, 9223372036854775807), (101, -9223372036854775808, 9223372036854775807), (201, -9223372036854775808, 9223372036854775807), (301, -9223372036854775808, 9223372036854775807)]
def goesK (E : Sh.Env) (gl : List (Nat × List Sh.SV)) (bx : List (Nat × Int × Int)) (f : FuncId) (args : List Sh.SV) (ok : Sh.SV → Bool) (n : Nat) : Bool :=
  match Sh.enterFr E f args .normal with
  | some fr => Sh.runKB E (fun v s => ok v && s.fr.fn == f && (match s.fr.kind with | .normal => true | _ => false)) n { fr, cs := [], h := Sh.hpG gl bx }
  | none => false
theorem goesK_eq (E : Sh.Env) (gl : List (Nat × List Sh.SV)) (bx : List (Nat × Int × Int)) (f : FuncId) (args : List Sh.SV) (ok : Sh.SV → Bool) (n : Nat) : Sh.goes E gl bx f args ok n = goesK E gl bx f args ok n := by
  unfold goesK Sh.goes
  cases Sh.enterFr E f args .normal with
  | none => rfl
  | some fr => exact (Sh.runKB_eq _ _ _ _).symm
theorem goes0 : goesK (Sh.envOf Tryz.prog (Sh.orcTrue 4)) [] bx0 3 [a0, a1, a2, a3] Sh.isTrue 3000 = true := by kernel_rfl
theorem goes : Sh.goes (Sh.envOf Tryz.prog (Sh.orcTrue 4)) [] bx0 3 [a0, a1, a2, a3] Sh.isTrue 3000 = true := (goesK_eq _ _ _ _ _ _ _).trans goes0

theorem okInt {P : Program} {W : World} {r : Reach} {base : Nat} {v : Value} (hu : P.underlying 3 = some (.int .i64)) (h : Value.okWide P W r base 3 v) : ∃ n, v = .int .i64 n ∧ -9223372036854775808 ≤ n ∧ n ≤ 9223372036854775807 := by
  unfold Value.okWide at h
  simp only [hu] at h
  unfold Cell.okWide Cell.ok at h
  simp only [hu] at h
  cases v <;> simp at h
  obtain ⟨rfl, hk⟩ := h
  refine ⟨_, rfl, ?_⟩
  simp [IntKind.has, IntKind.min, IntKind.max, IntKind.signed, IntKind.bits] at hk
  omega
theorem ivOf_arg {vs : List Value} {j : Nat} {v : Value} (hj : vs[j]? = some v) (h9 : j < 9) {n : Int} (hv : v = .int .i64 n) : Sh.ivOf (Sh.nuOf vs) (1 + 100 * j) = n := by
  subst hv
  have h : Value.int .i64 n = Sh.nuOf vs (1 + 100 * j + 0) := Sh.nuOf_at (i := 0) hj (by omega) h9 rfl
  rw [Nat.add_zero] at h
  unfold Sh.ivOf
  rw [← h]

set_option maxRecDepth 100000 in
/-- The Go text returns true, and turns nothing that was there. -/
theorem walk (W : World) {base : Nat} (v0 v1 v2 v3 : Value) (hv0 : Value.okWide Tryz.prog W .any base 3 v0) (hv1 : Value.okWide Tryz.prog W .any base 3 v1) (hv2 : Value.okWide Tryz.prog W .any base 3 v2) (hv3 : Value.okWide Tryz.prog W .any base 3 v3) :
    Calls Tryz.prog 3 #[v0, v1, v2, v3] W fun e w' => e = .returned (.bool true) ∧ Below W.heap.size W w' := by
  letI : Sh.Syms := Sh.symsOf [v0, v1, v2, v3]
  have x0 : Sh.VR Sh.mu0 a0 v0 := Sh.symArg_sound arg0 hv0 fun i c hi hc => Sh.nuOf_at (vs := [v0, v1, v2, v3]) (j := 0) rfl (Nat.lt_of_lt_of_le hi (by decide)) (by omega) hc
  have i0 : -9223372036854775808 ≤ Sh.iv 1 ∧ Sh.iv 1 ≤ 9223372036854775807 := by
    obtain ⟨n, e, h1, h2⟩ := okInt u3 hv0
    have h : Sh.ivOf (Sh.nuOf [v0, v1, v2, v3]) (1 + 100 * 0) = n := ivOf_arg (vs := [v0, v1, v2, v3]) (j := 0) rfl (by omega) e
    have h' : Sh.iv 1 = n := h
    rw [h']
    exact ⟨h1, h2⟩
  have x1 : Sh.VR Sh.mu0 a1 v1 := Sh.symArg_sound arg1 hv1 fun i c hi hc => Sh.nuOf_at (vs := [v0, v1, v2, v3]) (j := 1) rfl (Nat.lt_of_lt_of_le hi (by decide)) (by omega) hc
  have i1 : -9223372036854775808 ≤ Sh.iv 101 ∧ Sh.iv 101 ≤ 9223372036854775807 := by
    obtain ⟨n, e, h1, h2⟩ := okInt u3 hv1
    have h : Sh.ivOf (Sh.nuOf [v0, v1, v2, v3]) (1 + 100 * 1) = n := ivOf_arg (vs := [v0, v1, v2, v3]) (j := 1) rfl (by omega) e
    have h' : Sh.iv 101 = n := h
    rw [h']
    exact ⟨h1, h2⟩
  have x2 : Sh.VR Sh.mu0 a2 v2 := Sh.symArg_sound arg2 hv2 fun i c hi hc => Sh.nuOf_at (vs := [v0, v1, v2, v3]) (j := 2) rfl (Nat.lt_of_lt_of_le hi (by decide)) (by omega) hc
  have i2 : -9223372036854775808 ≤ Sh.iv 201 ∧ Sh.iv 201 ≤ 9223372036854775807 := by
    obtain ⟨n, e, h1, h2⟩ := okInt u3 hv2
    have h : Sh.ivOf (Sh.nuOf [v0, v1, v2, v3]) (1 + 100 * 2) = n := ivOf_arg (vs := [v0, v1, v2, v3]) (j := 2) rfl (by omega) e
    have h' : Sh.iv 201 = n := h
    rw [h']
    exact ⟨h1, h2⟩
  have x3 : Sh.VR Sh.mu0 a3 v3 := Sh.symArg_sound arg3 hv3 fun i c hi hc => Sh.nuOf_at (vs := [v0, v1, v2, v3]) (j := 3) rfl (Nat.lt_of_lt_of_le hi (by decide)) (by omega) hc
  have i3 : -9223372036854775808 ≤ Sh.iv 301 ∧ Sh.iv 301 ≤ 9223372036854775807 := by
    obtain ⟨n, e, h1, h2⟩ := okInt u3 hv3
    have h : Sh.ivOf (Sh.nuOf [v0, v1, v2, v3]) (1 + 100 * 3) = n := ivOf_arg (vs := [v0, v1, v2, v3]) (j := 3) rfl (by omega) e
    have h' : Sh.iv 301 = n := h
    rw [h']
    exact ⟨h1, h2⟩
  have hb : Sh.BoxOK bx0 := by
    intro a lo hi h
    unfold bx0 at h
    simp only [Sh.boxOf] at h
    split at h
    · rename_i e; cases h; subst e; exact i0
    · split at h
      · rename_i e; cases h; subst e; exact i1
      · split at h
        · rename_i e; cases h; subst e; exact i2
        · split at h
          · rename_i e; cases h; subst e; exact i3
          · exact Sh.boxOK_nil a lo hi (by simpa only [Sh.boxOf] using h)
  exact Sh.goes_true (P := Tryz.prog) (E := Sh.envOf Tryz.prog (Sh.orcTrue 4)) (n := 3000) (Sh.envOf_ok all_ok mixed)
    (Sh.orcTrue_ok (w₀ := W) fun w _ => idleAwake.walk w) (Sh.GlobOK.nil W) hb (by simp only [Sh.VRs]; exact ⟨v0, [v1, v2, v3], rfl, x0, v1, [v2, v3], rfl, x1, v2, [v3], rfl, x2, v3, [], rfl, x3, rfl⟩) goes

set_option maxRecDepth 100000 in
theorem lifted (os : Os) (started : os.Started) (H : Type) (enc : TypeId × Value → H) :
    ReturnsInHanded {} Tryz.checked os 3 .any (fun w args => (Rows.connIdleSpec.pre enc Tryz.prog Tryz.f3 Rows.connIdleRow.domain false w args ∧ laidMetH Tryz.prog Rows.connIdleRow.laid w) ∧ sizedMet enc Tryz.prog Tryz.f3 (OpenSpec.ofChange Rows.connIdleSpec) false w args)
      (Rows.connIdleSpec.post enc Tryz.prog Tryz.f3 false true false false) := by
  refine returnsInHanded_of_change_and (C := Tryz.checked) (X := fun w _ => laidMetH Tryz.prog Rows.connIdleRow.laid w) (fun _ _ _ hh h => h.of_heap hh) own started (by kernel_rfl) Tryz.func3
    (ChangeSpec.witness_shaped (enc := enc) (C := Tryz.checked) (os := os) (X := fun w _ => laidMetH Tryz.prog Rows.connIdleRow.laid w) false (World.laidAll Tryz.prog os Rows.connIdleRow.laid) #[.int .i64 0, .int .i64 0, .int .i64 0, .int .i64 0] 8 (World.laidAll_os _ _ _)
      (World.shaped_of_ZipB (by kernel_rfl) (by kernel_rfl)) (by kernel_rfl) (by kernel_rfl) (by kernel_rfl)
      (by rw [MakeChecks.laidMetH_plain _ _ _ (by kernel_rfl)]; exact laidMet_laidAll _ (by kernel_rfl) (by kernel_rfl))) ?_
  intro W base args ds gs before hval0 hW hcnd _ hL _
  have hval : ∀ (j : Nat) t v, Tryz.f3.params[j]? = some t → args[j]? = some v → Value.okWide Tryz.prog W .any base t v := hval0
  have hW' := hW
  have hlt := hW.lt
  obtain ⟨p, q, hA0, hV, rfl, hfz, hnd⟩ := hW
  have hA : DataW.TrodAll enc Tryz.prog W 0 (fun _ => true) true Tryz.f3.params.toList args.toList ds p := hA0
  rw [Tryz.params3] at hA hval
  have hA1 := hA
  obtain ⟨v0, v1, v2, v3, d0, d1, d2, d3, p0, p1, p2, p3, rfl, rfl, -, h0, h1, h2, h3⟩ := trodAll_four hA1
  obtain ⟨rfl, rfl⟩ := trodVars_none hV
  have hv0 := hval 0 3 v0 rfl rfl
  have hv1 := hval 1 3 v1 rfl rfl
  have hv2 := hval 2 3 v2 rfl rfl
  have hv3 := hval 3 3 v3 rfl rfl
  clear hA0 hval0
  simp only [List.append_nil] at hW' hlt
  refine (walk W v0 v1 v2 v3 hv0 hv1 hv2 hv3).mono fun e W' ⟨he, hg⟩ => ?_
  subst he
  exact ⟨_, rfl, Sh.post_below (pa := p) (pv := []) hW' (fun _ _ _ => (trodAll_cons_mk (shut_bool Tryz.underlying4 _) trodAll_mk0))
    (fun sp hsp => Sh.trodAll_below (by kernel_rfl) hg (fun t ht => by
      have ht' : t ∈ [3, 3, 3, 3] := by rw [Tryz.params3] at ht; simpa using ht
      have hall : ([3, 3, 3, 3].all fun u => Tryz.prog.readableRec u && decide (u < Tryz.prog.types.size)) = true := by kernel_rfl
      have h2 : (Tryz.prog.readableRec t && decide (t < Tryz.prog.types.size)) = true := List.all_eq_true.1 hall t ht'
      exact ⟨(Bool.and_eq_true_iff.1 h2).1, of_decide_eq_true (Bool.and_eq_true_iff.1 h2).2⟩) hA hlt hsp)
    (fun _ _ => rfl) (by simp) hg (ok_one (by kernel_rfl) rfl (okWide_bool_mk Tryz.underlying4 _))⟩

theorem over : Rows.connIdleRow.holds Tryz.pinned (OpenSpec.ofChange Rows.connIdleSpec) :=
  OpenClaim.holds_of_wide 3 Tryz.f3 rfl rfl rfl rfl rfl rfl rfl ⟨rfl, rfl, rfl, rfl, rfl⟩ rfl rfl rfl rfl rfl (by kernel_rfl) Tryz.func3 (by kernel_rfl)
    (of_decide_eq_true (by kernel_rfl)) (by unfold Func.isWrapper; first | (rw [if_pos (by decide +kernel)]; kernel_rfl) | (rw [if_neg (by decide +kernel)]; exact ⟨rfl, rfl⟩))
    (fun os started H enc _ => lifted os started H enc)

/-- The statement. -/
theorem proved : Rows.ConnIdleCardSaid :=
  Claim7.holds_tied_plain_at .later [] [.data, .data, .data, .data, .sentinel, .sentinel, .pinned] true (true, "40564d065aeb6a310882f14091ccb790d52308a6471b31a993674fd04f521b7e") true over (fun _ h => by cases h) (by kernel_rfl) (fun _ h => by cases h) connIdle_row_tie rfl ⟨rfl, rfl⟩ (by kernel_rfl) rfl
    (fun f fn hf hfn => by
      obtain rfl : f = 3 := Option.some.inj ((show Tryz.prog.funcNamed "ostiary/ostiarylaw28.ConnIdle" = some 3 by kernel_rfl).symm.trans hf) |>.symm
      obtain rfl : fn = Tryz.f3 := (Option.some.inj (Tryz.func3.symm.trans hfn)).symm
      exact ⟨by kernel_rfl, fun j t ht => by
        rw [Tryz.params3] at ht
        have hm : t ∈ [3, 3, 3, 3] := by simpa using Array.mem_of_getElem? ht
        have hall : ([3, 3, 3, 3].all fun u => !Tryz.prog.wantsStandIn u) = true := by kernel_rfl
        exact (show Tryz.prog.wantsStandIn t = false by simpa using List.all_eq_true.1 hall t hm)⟩)
    (by kernel_rfl)
#print axioms proved
end Go.Proofs.YtgocdigdaaiagaaGreatDoor.connIdle
