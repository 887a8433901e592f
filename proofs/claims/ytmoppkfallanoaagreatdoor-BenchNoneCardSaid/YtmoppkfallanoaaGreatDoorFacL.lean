/-
  laidOutB of the program, its types taken by chunks.
-/
import Derived.Test.YtmoppkfallanoaaGreatDoorProg
import Derived.KernelRfl
import Derived.Stop.Joined
import Derived.SevenTiedAt
set_option linter.unusedVariables false
set_option maxRecDepth 100000
set_option Elab.async false
namespace Go.Proofs.YtmoppkfallanoaaGreatDoor.fac
open Go
theorem r0 : ((List.range' 0 60).all (rowFine Tryz.prog)) = true := by kernel_rfl
theorem r1 : ((List.range' 60 60).all (rowFine Tryz.prog)) = true := by kernel_rfl
theorem r2 : ((List.range' 120 60).all (rowFine Tryz.prog)) = true := by kernel_rfl
theorem r3 : ((List.range' 180 60).all (rowFine Tryz.prog)) = true := by kernel_rfl
theorem r4 : ((List.range' 240 60).all (rowFine Tryz.prog)) = true := by kernel_rfl
theorem r5 : ((List.range' 300 60).all (rowFine Tryz.prog)) = true := by kernel_rfl
theorem r6 : ((List.range' 360 60).all (rowFine Tryz.prog)) = true := by kernel_rfl
theorem r7 : ((List.range' 420 60).all (rowFine Tryz.prog)) = true := by kernel_rfl
theorem r8 : ((List.range' 480 60).all (rowFine Tryz.prog)) = true := by kernel_rfl
theorem r9 : ((List.range' 540 60).all (rowFine Tryz.prog)) = true := by kernel_rfl
theorem r10 : ((List.range' 600 60).all (rowFine Tryz.prog)) = true := by kernel_rfl
theorem r11 : ((List.range' 660 60).all (rowFine Tryz.prog)) = true := by kernel_rfl
theorem r12 : ((List.range' 720 60).all (rowFine Tryz.prog)) = true := by kernel_rfl
theorem r13 : ((List.range' 780 41).all (rowFine Tryz.prog)) = true := by kernel_rfl
theorem rng : List.range 821 = List.range' 0 60 ++ (List.range' 60 60 ++ (List.range' 120 60 ++ (List.range' 180 60 ++ (List.range' 240 60 ++ (List.range' 300 60 ++ (List.range' 360 60 ++ (List.range' 420 60 ++ (List.range' 480 60 ++ (List.range' 540 60 ++ (List.range' 600 60 ++ (List.range' 660 60 ++ (List.range' 720 60 ++ (List.range' 780 41))))))))))))) := by kernel_rfl
theorem sz : Tryz.prog.types.size = 821 := by kernel_rfl
theorem types : ((List.range Tryz.prog.types.size).all (rowFine Tryz.prog)) = true := by
  rw [sz, rng]; simp only [List.all_append, r0, r1, r2, r3, r4, r5, r6, r7, r8, r9, r10, r11, r12, r13, Bool.and_self]
theorem gl : Tryz.prog.globals.all (fun g => decide (g.type < Tryz.prog.types.size)) = true := by rw [sz]; kernel_rfl
theorem fn : Tryz.prog.funcs.all (fun f => f.params.all fun t => decide (t < Tryz.prog.types.size)) = true := by rw [sz]; kernel_rfl
theorem laid : laidOutB Tryz.prog = true := Bool.and_eq_true_iff.2 ⟨Bool.and_eq_true_iff.2 ⟨types, gl⟩, fn⟩
end Go.Proofs.YtmoppkfallanoaaGreatDoor.fac
