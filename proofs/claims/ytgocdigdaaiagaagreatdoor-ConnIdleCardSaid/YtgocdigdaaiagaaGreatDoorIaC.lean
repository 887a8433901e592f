/-
  The states at which the run of awake, which ConnIdle calls is cut: printed by a program of this proof.
-/
import Derived.Test.YtgocdigdaaiagaaGreatDoorSiG
import Derived.Test.YtgocdigdaaiagaaGreatDoorRows
set_option linter.unusedVariables false
set_option maxRecDepth 100000
namespace Go.Proofs.YtgocdigdaaiagaaGreatDoor.idleAwake
open Go.Sh
noncomputable def Ev : Sh.Env := Sh.envOf Tryz.prog Sh.noOrc
@[reducible] def N {α : Type} (l : Sh.T α) (v : Option α) (r : Sh.T α) : Sh.T α := .node l v r
@[reducible] def L {α : Type} : Sh.T α := .leaf
@[reducible] def I (n : Int) : Sh.SV := .int .i64 n
@[reducible] def U (n : Int) : Sh.SV := .int .u8 n
@[reducible] def B (b : Bool) : Sh.SV := .bool b
@[reducible] def S (l : List Nat) : Sh.SV := .string l
@[reducible] def P (b o : Nat) : Sh.SV := .ptr b o
def gl0 : List (Nat × List Sh.SV) := []
noncomputable def C (f : FuncId) (p : List Nat) : Code := Sh.codeAt Ev f p
noncomputable def O (f : FuncId) (p : List Nat) : Array Oper := Sh.opsAt Ev f p
noncomputable def st0 : Sh.St := ⟨⟨4, .leaf, ((Ev.fn 4).map (·.ntmps)).getD 0, [.code (C 4 [])], [], .run, .normal, none⟩, [], Sh.hpG gl0⟩
end Go.Proofs.YtgocdigdaaiagaaGreatDoor.idleAwake
