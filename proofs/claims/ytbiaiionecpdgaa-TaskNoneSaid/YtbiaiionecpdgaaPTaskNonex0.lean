-- PRINTED BY print.sh 35421559b90ae4d0a3588c463048766b98c2df88dd9212a6774a882060cdf62d: not written by this session
import Derived.Test.YtbiaiionecpdgaaProg
import Derived.Below
import Derived.Deep.Draws
import Derived.Deep.AppendLies
import Derived.Maps.AppendAt
import Derived.OwnWalk
import Derived.Laws.BytesArg
import Derived.Laws.MakeOwn
import Derived.Laws.OwnMore
import Derived.Deep.OwnRows
import Derived.Tactics
import Derived.Lib.ConvBytes
import Derived.Laws.Slices
import Derived.WalkKit
import Derived.KernelRfl
import Derived.RowKit3
import Derived.Deep.LoopGhost
import Derived.Deep.QuietTactic
import Derived.BigQuiet
import Derived.WideLaws
import Derived.Deep.DeepCutAuto
import Derived.Deep.CutBlock
import Derived.Deep.RegionHeld3
import Derived.Laws.Rows
import Derived.Lib.AppendStr
import Derived.ArgAppend
import Derived.Laws.IdiomCopy
import Derived.OrdersHeld
import Derived.Laws.BitsLemmas
import Derived.RowKit
import Derived.Test.YtbiaiionecpdgaaWWords
import Derived.Test.YtbiaiionecpdgaaWLast
import Derived.Test.YtbiaiionecpdgaaWTab
import Derived.Test.YtbiaiionecpdgaaWFour
import Derived.Test.YtbiaiionecpdgaaWQPut
import Derived.Test.YtbiaiionecpdgaaWApart
import Derived.Test.YtbiaiionecpdgaaWArr
import Derived.Test.YtbiaiionecpdgaaWZeros
import Derived.Test.YtbiaiionecpdgaaWFoot
import Derived.Test.YtbiaiionecpdgaaWKept
import Derived.Test.YtbiaiionecpdgaaWShare
import Derived.Test.YtbiaiionecpdgaaWN
import Derived.Test.YtbiaiionecpdgaaWFootNe
import Derived.Test.YtbiaiionecpdgaaWAt
import Derived.Test.YtbiaiionecpdgaaWEqStruct
import Derived.Test.YtbiaiionecpdgaaWRepsOne
import Derived.Test.YtbiaiionecpdgaaWInv
import Derived.Test.YtbiaiionecpdgaaWInvWords
import Derived.Test.YtbiaiionecpdgaaWGuard
import Derived.Test.YtbiaiionecpdgaaWNEv
import Derived.Test.YtbiaiionecpdgaaWMore
namespace Go.Proofs.Ytbiaiionecpdgaa.PTaskNone
open Go.RowKit Go.Proofs.YtbiaiionecpdgaaW.PrintWords Go.Proofs.YtbiaiionecpdgaaW.PrintLast Go.Proofs.YtbiaiionecpdgaaW.PrintMore
attribute [local go_sem] max2_int min2_int max_two min_two max_three min_three max_four min_four   -- for this text's walks alone
set_option linter.unusedVariables false
set_option linter.unusedSimpArgs false



def errW : Option Int → Value
  | none => .nilIface
  | some c => .iface 0 (.int .i64 c)
theorem errW_none : errW none = .nilIface := rfl
theorem errW_some (c : Int) : errW (some c) = .iface 0 (.int .i64 c) := rfl

theorem info3 : (Try.prog.info? 3).map (fun i => (i.zero, i.size, i.bytes)) = some (some (.int .i64 0), 1, 8) := by kernel_rfl
theorem info78 : (Try.prog.info? 78).map (fun i => (i.zero, i.size, i.bytes)) = some (some (.agg #[(.string ⟨#[]⟩), (.slice none 0 0)]), 2, 40) := by kernel_rfl
-- the values' own types
def rd_L2 (xs : List (List ByteArray)) (i : Int) : (List ByteArray) := xs.getD i.toNat ([] : List ByteArray)
theorem at_L2 {w : World} {A : Option Addr} {n : Nat} {xs : List (List ByteArray)} (h : Kd.C (Kd.slice 9 Kd.string) w A n xs) (i : Int) (h0 : 0 ≤ i) (h1 : i < n) : ∃ ad A0 c0, A = some ad ∧ w.cell? (ad.add i.toNat) = some (.slice A0 (rd_L2 xs i).length c0) ∧ (rd_L2 xs i).length ≤ c0 ∧ Kd.string.C w A0 (rd_L2 xs i).length (rd_L2 xs i) := by
  obtain ⟨ad, c, e, _, hK, hc0⟩ := Kd.C_get h ([] : List ByteArray) i h0 h1
  have hc : ∀ j u, c[j]? = some u → w.cell? (ad.add (i.toNat * 1 + j)) = some u := hc0
  obtain ⟨A0, c0, rfl, l0, g0⟩ := hK
  exact ⟨ad, A0, c0, e, by have hq := hc 0 _ rfl; rwa [Nat.mul_one, Nat.add_zero] at hq, l0, g0⟩

/-! #### struct type 34 -/
structure S34 where
  f0 : ByteArray
  f1 : Int
  f2 : Int
  f3 : Int
  f4 : (List ByteArray)
def z34 : S34 := ⟨(⟨#[]⟩ : ByteArray), (0 : Int), (0 : Int), (0 : Int), ([] : List ByteArray)⟩
def k34 : Kd S34 := Kd.iso (Kd.pair Kd.string (Kd.pair (Kd.int .i64) (Kd.pair (Kd.int .i64) (Kd.pair (Kd.int .i64) (Kd.slice 9 Kd.string))))) (fun x : S34 => (x.f0, x.f1, x.f2, x.f3, x.f4))
theorem k34_open {w : World} {x : S34} {cs : List Value} (h : k34.K w x cs) : ∃ A4 c4, cs = [.string x.f0, .int .i64 x.f1, .int .i64 x.f2, .int .i64 x.f3, .slice A4 x.f4.length c4] ∧ x.f4.length ≤ c4 ∧ Kd.string.C w A4 x.f4.length x.f4 := by
  obtain ⟨_, _, rfl, rfl, ⟨_, _, rfl, rfl, ⟨_, _, rfl, rfl, ⟨_, _, rfl, rfl, ⟨A4, c4, rfl, l4, g4⟩⟩⟩⟩⟩ := h
  exact ⟨A4, c4, rfl, l4, g4⟩
theorem k34_openM {w : World} {base : Nat} {ok : Nat → Prop} {x : S34} {cs : List Value} (h : k34.M w base ok x cs) : ∃ v4, cs = [.string x.f0, .int .i64 x.f1, .int .i64 x.f2, .int .i64 x.f3, v4] ∧ Kd.string.R 9 w base ok v4 x.f4 := by
  obtain ⟨_, _, rfl, rfl, ⟨_, _, rfl, rfl, ⟨_, _, rfl, rfl, ⟨_, _, rfl, rfl, ⟨v4, rfl, g4⟩⟩⟩⟩⟩ := h
  exact ⟨v4, rfl, g4⟩
theorem k34_mk (w : World) (x : S34) {A4 : Option Addr} {c4 : Nat} (l4 : x.f4.length ≤ c4) (g4 : Kd.string.C w A4 x.f4.length x.f4) : k34.K w x [.string x.f0, .int .i64 x.f1, .int .i64 x.f2, .int .i64 x.f3, .slice A4 x.f4.length c4] := ⟨[.string x.f0], [.int .i64 x.f1, .int .i64 x.f2, .int .i64 x.f3, .slice A4 x.f4.length c4], rfl, rfl, ⟨[.int .i64 x.f1], [.int .i64 x.f2, .int .i64 x.f3, .slice A4 x.f4.length c4], rfl, rfl, ⟨[.int .i64 x.f2], [.int .i64 x.f3, .slice A4 x.f4.length c4], rfl, rfl, ⟨[.int .i64 x.f3], [.slice A4 x.f4.length c4], rfl, rfl, ⟨A4, c4, rfl, l4, g4⟩⟩⟩⟩⟩
theorem k34_mkM (w : World) (base : Nat) (ok : Nat → Prop) (x : S34) {v4 : Value} (g4 : Kd.string.R 9 w base ok v4 x.f4) : k34.M w base ok x [.string x.f0, .int .i64 x.f1, .int .i64 x.f2, .int .i64 x.f3, v4] := ⟨[.string x.f0], [.int .i64 x.f1, .int .i64 x.f2, .int .i64 x.f3, v4], rfl, rfl, ⟨[.int .i64 x.f1], [.int .i64 x.f2, .int .i64 x.f3, v4], rfl, rfl, ⟨[.int .i64 x.f2], [.int .i64 x.f3, v4], rfl, rfl, ⟨[.int .i64 x.f3], [v4], rfl, rfl, ⟨v4, rfl, g4⟩⟩⟩⟩⟩
theorem k34_openF {W : World} {ok : Nat → Prop} {x : S34} {cs : List Value} (h : Kd.FK k34 W ok x cs) : ∃ A4 c4, cs = [.string x.f0, .int .i64 x.f1, .int .i64 x.f2, .int .i64 x.f3, .slice A4 x.f4.length c4] ∧ x.f4.length ≤ c4 ∧ Kd.F Kd.string W ok A4 x.f4.length x.f4 := by
  obtain ⟨A4, c4, rfl, l4, _⟩ := k34_open (Kd.FK_now h)
  exact ⟨A4, c4, rfl, l4, (fun W' hW => by obtain ⟨A4_, c4_, he, l4_, g4_⟩ := k34_open (h W' hW); injection (Option.some.inj (show some (Value.slice A4 x.f4.length c4) = some (Value.slice A4_ x.f4.length c4_) from congrArg (fun l => l[4]?) he)) with ha_ _ _; rw [ha_]; exact g4_)⟩
theorem k34_mkF (W : World) (ok : Nat → Prop) (x : S34) {A4 : Option Addr} {c4 : Nat} (l4 : x.f4.length ≤ c4) (g4 : Kd.F Kd.string W ok A4 x.f4.length x.f4) : Kd.FK k34 W ok x [.string x.f0, .int .i64 x.f1, .int .i64 x.f2, .int .i64 x.f3, .slice A4 x.f4.length c4] := fun W2 hW => k34_mk W2 x l4 (g4 W2 hW)
def rd_T34 (xs : List S34) (i : Int) : S34 := xs.getD i.toNat z34
theorem at_T34 {w : World} {A : Option Addr} {n : Nat} {xs : List S34} (h : Kd.C k34 w A n xs) (i : Int) (h0 : 0 ≤ i) (h1 : i < n) : ∃ ad A4 c4, A = some ad ∧ w.cell? (ad.add (i.toNat * 5)) = some (.string (rd_T34 xs i).f0) ∧ w.cell? ⟨(ad.add (i.toNat * 5)).block, (ad.add (i.toNat * 5)).off + 1, none⟩ = some (.int .i64 (rd_T34 xs i).f1) ∧ w.cell? ⟨(ad.add (i.toNat * 5)).block, (ad.add (i.toNat * 5)).off + 2, none⟩ = some (.int .i64 (rd_T34 xs i).f2) ∧ w.cell? ⟨(ad.add (i.toNat * 5)).block, (ad.add (i.toNat * 5)).off + 3, none⟩ = some (.int .i64 (rd_T34 xs i).f3) ∧ w.cell? ⟨(ad.add (i.toNat * 5)).block, (ad.add (i.toNat * 5)).off + 4, none⟩ = some (.slice A4 (rd_T34 xs i).f4.length c4) ∧ (rd_T34 xs i).f4.length ≤ c4 ∧ Kd.string.C w A4 (rd_T34 xs i).f4.length (rd_T34 xs i).f4 := by
  obtain ⟨ad, c, e, _, hK, hc0⟩ := Kd.C_get h z34 i h0 h1
  have hc : ∀ j u, c[j]? = some u → w.cell? (ad.add (i.toNat * 5 + j)) = some u := hc0
  obtain ⟨A4, c4, rfl, l4, g4⟩ := k34_open hK
  exact ⟨ad, A4, c4, e, hc 0 _ rfl, by rw [← add_field _ _ 1 (by omega)]; exact hc 1 _ rfl, by rw [← add_field _ _ 2 (by omega)]; exact hc 2 _ rfl, by rw [← add_field _ _ 3 (by omega)]; exact hc 3 _ rfl, by rw [← add_field _ _ 4 (by omega)]; exact hc 4 _ rfl, l4, g4⟩

def rd_L4 (xs : List (List Int)) (i : Int) : (List Int) := xs.getD i.toNat ([] : List Int)
theorem at_L4 {w : World} {A : Option Addr} {n : Nat} {xs : List (List Int)} (h : Kd.C (Kd.slice 3 (Kd.int .i64)) w A n xs) (i : Int) (h0 : 0 ≤ i) (h1 : i < n) : ∃ ad A0 c0, A = some ad ∧ w.cell? (ad.add i.toNat) = some (.slice A0 (rd_L4 xs i).length c0) ∧ (rd_L4 xs i).length ≤ c0 ∧ (Kd.int .i64).C w A0 (rd_L4 xs i).length (rd_L4 xs i) := by
  obtain ⟨ad, c, e, _, hK, hc0⟩ := Kd.C_get h ([] : List Int) i h0 h1
  have hc : ∀ j u, c[j]? = some u → w.cell? (ad.add (i.toNat * 1 + j)) = some u := hc0
  obtain ⟨A0, c0, rfl, l0, g0⟩ := hK
  exact ⟨ad, A0, c0, e, by have hq := hc 0 _ rfl; rwa [Nat.mul_one, Nat.add_zero] at hq, l0, g0⟩

/-! #### struct type 78 -/
structure S78 where
  f0 : ByteArray
  f1 : (List Int)
def z78 : S78 := ⟨(⟨#[]⟩ : ByteArray), ([] : List Int)⟩
def k78 : Kd S78 := Kd.iso (Kd.pair Kd.string (Kd.slice 3 (Kd.int .i64))) (fun x : S78 => (x.f0, x.f1))
theorem k78_open {w : World} {x : S78} {cs : List Value} (h : k78.K w x cs) : ∃ A1 c1, cs = [.string x.f0, .slice A1 x.f1.length c1] ∧ x.f1.length ≤ c1 ∧ (Kd.int .i64).C w A1 x.f1.length x.f1 := by
  obtain ⟨_, _, rfl, rfl, ⟨A1, c1, rfl, l1, g1⟩⟩ := h
  exact ⟨A1, c1, rfl, l1, g1⟩
theorem k78_openM {w : World} {base : Nat} {ok : Nat → Prop} {x : S78} {cs : List Value} (h : k78.M w base ok x cs) : ∃ v1, cs = [.string x.f0, v1] ∧ (Kd.int .i64).R 3 w base ok v1 x.f1 := by
  obtain ⟨_, _, rfl, rfl, ⟨v1, rfl, g1⟩⟩ := h
  exact ⟨v1, rfl, g1⟩
theorem k78_mk (w : World) (x : S78) {A1 : Option Addr} {c1 : Nat} (l1 : x.f1.length ≤ c1) (g1 : (Kd.int .i64).C w A1 x.f1.length x.f1) : k78.K w x [.string x.f0, .slice A1 x.f1.length c1] := ⟨[.string x.f0], [.slice A1 x.f1.length c1], rfl, rfl, ⟨A1, c1, rfl, l1, g1⟩⟩
theorem k78_mkM (w : World) (base : Nat) (ok : Nat → Prop) (x : S78) {v1 : Value} (g1 : (Kd.int .i64).R 3 w base ok v1 x.f1) : k78.M w base ok x [.string x.f0, v1] := ⟨[.string x.f0], [v1], rfl, rfl, ⟨v1, rfl, g1⟩⟩
theorem k78_openF {W : World} {ok : Nat → Prop} {x : S78} {cs : List Value} (h : Kd.FK k78 W ok x cs) : ∃ A1 c1, cs = [.string x.f0, .slice A1 x.f1.length c1] ∧ x.f1.length ≤ c1 ∧ Kd.F (Kd.int .i64) W ok A1 x.f1.length x.f1 := by
  obtain ⟨A1, c1, rfl, l1, _⟩ := k78_open (Kd.FK_now h)
  exact ⟨A1, c1, rfl, l1, (fun W' hW => by obtain ⟨A1_, c1_, he, l1_, g1_⟩ := k78_open (h W' hW); injection (Option.some.inj (show some (Value.slice A1 x.f1.length c1) = some (Value.slice A1_ x.f1.length c1_) from congrArg (fun l => l[1]?) he)) with ha_ _ _; rw [ha_]; exact g1_)⟩
theorem k78_mkF (W : World) (ok : Nat → Prop) (x : S78) {A1 : Option Addr} {c1 : Nat} (l1 : x.f1.length ≤ c1) (g1 : Kd.F (Kd.int .i64) W ok A1 x.f1.length x.f1) : Kd.FK k78 W ok x [.string x.f0, .slice A1 x.f1.length c1] := fun W2 hW => k78_mk W2 x l1 (g1 W2 hW)
def rd_T78 (xs : List S78) (i : Int) : S78 := xs.getD i.toNat z78
theorem at_T78 {w : World} {A : Option Addr} {n : Nat} {xs : List S78} (h : Kd.C k78 w A n xs) (i : Int) (h0 : 0 ≤ i) (h1 : i < n) : ∃ ad A1 c1, A = some ad ∧ w.cell? (ad.add (i.toNat * 2)) = some (.string (rd_T78 xs i).f0) ∧ w.cell? ⟨(ad.add (i.toNat * 2)).block, (ad.add (i.toNat * 2)).off + 1, none⟩ = some (.slice A1 (rd_T78 xs i).f1.length c1) ∧ (rd_T78 xs i).f1.length ≤ c1 ∧ (Kd.int .i64).C w A1 (rd_T78 xs i).f1.length (rd_T78 xs i).f1 := by
  obtain ⟨ad, c, e, _, hK, hc0⟩ := Kd.C_get h z78 i h0 h1
  have hc : ∀ j u, c[j]? = some u → w.cell? (ad.add (i.toNat * 2 + j)) = some u := hc0
  obtain ⟨A1, c1, rfl, l1, g1⟩ := k78_open hK
  exact ⟨ad, A1, c1, e, hc 0 _ rfl, by rw [← add_field _ _ 1 (by omega)]; exact hc 1 _ rfl, l1, g1⟩

/-! #### struct type 44 -/
structure S44 where
  f0 : Int
  f1 : S34
  f2 : Int
def z44 : S44 := ⟨(0 : Int), z34, (0 : Int)⟩
def k44 : Kd S44 := Kd.iso (Kd.pair (Kd.int .i64) (Kd.pair k34 (Kd.int .i64))) (fun x : S44 => (x.f0, x.f1, x.f2))
theorem k44_open {w : World} {x : S44} {cs : List Value} (h : k44.K w x cs) : ∃ A5 c5, cs = [.int .i64 x.f0, .string x.f1.f0, .int .i64 x.f1.f1, .int .i64 x.f1.f2, .int .i64 x.f1.f3, .slice A5 x.f1.f4.length c5, .int .i64 x.f2] ∧ x.f1.f4.length ≤ c5 ∧ Kd.string.C w A5 x.f1.f4.length x.f1.f4 := by
  obtain ⟨_, _, rfl, rfl, ⟨_, _, rfl, s1, rfl⟩⟩ := h
  obtain ⟨A5, c5, rfl, l5, g5⟩ := k34_open s1
  exact ⟨A5, c5, rfl, l5, g5⟩
theorem k44_openM {w : World} {base : Nat} {ok : Nat → Prop} {x : S44} {cs : List Value} (h : k44.M w base ok x cs) : ∃ v5, cs = [.int .i64 x.f0, .string x.f1.f0, .int .i64 x.f1.f1, .int .i64 x.f1.f2, .int .i64 x.f1.f3, v5, .int .i64 x.f2] ∧ Kd.string.R 9 w base ok v5 x.f1.f4 := by
  obtain ⟨_, _, rfl, rfl, ⟨_, _, rfl, s1, rfl⟩⟩ := h
  obtain ⟨v5, rfl, g5⟩ := k34_openM s1
  exact ⟨v5, rfl, g5⟩
theorem k44_mk (w : World) (x : S44) {A5 : Option Addr} {c5 : Nat} (l5 : x.f1.f4.length ≤ c5) (g5 : Kd.string.C w A5 x.f1.f4.length x.f1.f4) : k44.K w x [.int .i64 x.f0, .string x.f1.f0, .int .i64 x.f1.f1, .int .i64 x.f1.f2, .int .i64 x.f1.f3, .slice A5 x.f1.f4.length c5, .int .i64 x.f2] := ⟨[.int .i64 x.f0], [.string x.f1.f0, .int .i64 x.f1.f1, .int .i64 x.f1.f2, .int .i64 x.f1.f3, .slice A5 x.f1.f4.length c5, .int .i64 x.f2], rfl, rfl, ⟨[.string x.f1.f0, .int .i64 x.f1.f1, .int .i64 x.f1.f2, .int .i64 x.f1.f3, .slice A5 x.f1.f4.length c5], [.int .i64 x.f2], rfl, (k34_mk w x.f1 l5 g5), rfl⟩⟩
theorem k44_mkM (w : World) (base : Nat) (ok : Nat → Prop) (x : S44) {v5 : Value} (g5 : Kd.string.R 9 w base ok v5 x.f1.f4) : k44.M w base ok x [.int .i64 x.f0, .string x.f1.f0, .int .i64 x.f1.f1, .int .i64 x.f1.f2, .int .i64 x.f1.f3, v5, .int .i64 x.f2] := ⟨[.int .i64 x.f0], [.string x.f1.f0, .int .i64 x.f1.f1, .int .i64 x.f1.f2, .int .i64 x.f1.f3, v5, .int .i64 x.f2], rfl, rfl, ⟨[.string x.f1.f0, .int .i64 x.f1.f1, .int .i64 x.f1.f2, .int .i64 x.f1.f3, v5], [.int .i64 x.f2], rfl, (k34_mkM w base ok x.f1 g5), rfl⟩⟩
theorem k44_openF {W : World} {ok : Nat → Prop} {x : S44} {cs : List Value} (h : Kd.FK k44 W ok x cs) : ∃ A5 c5, cs = [.int .i64 x.f0, .string x.f1.f0, .int .i64 x.f1.f1, .int .i64 x.f1.f2, .int .i64 x.f1.f3, .slice A5 x.f1.f4.length c5, .int .i64 x.f2] ∧ x.f1.f4.length ≤ c5 ∧ Kd.F Kd.string W ok A5 x.f1.f4.length x.f1.f4 := by
  obtain ⟨A5, c5, rfl, l5, _⟩ := k44_open (Kd.FK_now h)
  exact ⟨A5, c5, rfl, l5, (fun W' hW => by obtain ⟨A5_, c5_, he, l5_, g5_⟩ := k44_open (h W' hW); injection (Option.some.inj (show some (Value.slice A5 x.f1.f4.length c5) = some (Value.slice A5_ x.f1.f4.length c5_) from congrArg (fun l => l[5]?) he)) with ha_ _ _; rw [ha_]; exact g5_)⟩
theorem k44_mkF (W : World) (ok : Nat → Prop) (x : S44) {A5 : Option Addr} {c5 : Nat} (l5 : x.f1.f4.length ≤ c5) (g5 : Kd.F Kd.string W ok A5 x.f1.f4.length x.f1.f4) : Kd.FK k44 W ok x [.int .i64 x.f0, .string x.f1.f0, .int .i64 x.f1.f1, .int .i64 x.f1.f2, .int .i64 x.f1.f3, .slice A5 x.f1.f4.length c5, .int .i64 x.f2] := fun W2 hW => k44_mk W2 x l5 (g5 W2 hW)
def rd_T44 (xs : List S44) (i : Int) : S44 := xs.getD i.toNat z44
theorem at_T44 {w : World} {A : Option Addr} {n : Nat} {xs : List S44} (h : Kd.C k44 w A n xs) (i : Int) (h0 : 0 ≤ i) (h1 : i < n) : ∃ ad A5 c5, A = some ad ∧ w.cell? (ad.add (i.toNat * 7)) = some (.int .i64 (rd_T44 xs i).f0) ∧ w.cell? ⟨(ad.add (i.toNat * 7)).block, (ad.add (i.toNat * 7)).off + 1, none⟩ = some (.string (rd_T44 xs i).f1.f0) ∧ w.cell? ⟨(ad.add (i.toNat * 7)).block, (ad.add (i.toNat * 7)).off + 2, none⟩ = some (.int .i64 (rd_T44 xs i).f1.f1) ∧ w.cell? ⟨(ad.add (i.toNat * 7)).block, (ad.add (i.toNat * 7)).off + 3, none⟩ = some (.int .i64 (rd_T44 xs i).f1.f2) ∧ w.cell? ⟨(ad.add (i.toNat * 7)).block, (ad.add (i.toNat * 7)).off + 4, none⟩ = some (.int .i64 (rd_T44 xs i).f1.f3) ∧ w.cell? ⟨(ad.add (i.toNat * 7)).block, (ad.add (i.toNat * 7)).off + 5, none⟩ = some (.slice A5 (rd_T44 xs i).f1.f4.length c5) ∧ w.cell? ⟨(ad.add (i.toNat * 7)).block, (ad.add (i.toNat * 7)).off + 6, none⟩ = some (.int .i64 (rd_T44 xs i).f2) ∧ (rd_T44 xs i).f1.f4.length ≤ c5 ∧ Kd.string.C w A5 (rd_T44 xs i).f1.f4.length (rd_T44 xs i).f1.f4 := by
  obtain ⟨ad, c, e, _, hK, hc0⟩ := Kd.C_get h z44 i h0 h1
  have hc : ∀ j u, c[j]? = some u → w.cell? (ad.add (i.toNat * 7 + j)) = some u := hc0
  obtain ⟨A5, c5, rfl, l5, g5⟩ := k44_open hK
  exact ⟨ad, A5, c5, e, hc 0 _ rfl, by rw [← add_field _ _ 1 (by omega)]; exact hc 1 _ rfl, by rw [← add_field _ _ 2 (by omega)]; exact hc 2 _ rfl, by rw [← add_field _ _ 3 (by omega)]; exact hc 3 _ rfl, by rw [← add_field _ _ 4 (by omega)]; exact hc 4 _ rfl, by rw [← add_field _ _ 5 (by omega)]; exact hc 5 _ rfl, by rw [← add_field _ _ 6 (by omega)]; exact hc 6 _ rfl, l5, g5⟩

def rd_L8 (xs : List (List S34)) (i : Int) : (List S34) := xs.getD i.toNat ([] : List S34)
theorem at_L8 {w : World} {A : Option Addr} {n : Nat} {xs : List (List S34)} (h : Kd.C (Kd.slice 34 k34) w A n xs) (i : Int) (h0 : 0 ≤ i) (h1 : i < n) : ∃ ad A0 c0, A = some ad ∧ w.cell? (ad.add i.toNat) = some (.slice A0 (rd_L8 xs i).length c0) ∧ (rd_L8 xs i).length ≤ c0 ∧ k34.C w A0 (rd_L8 xs i).length (rd_L8 xs i) := by
  obtain ⟨ad, c, e, _, hK, hc0⟩ := Kd.C_get h ([] : List S34) i h0 h1
  have hc : ∀ j u, c[j]? = some u → w.cell? (ad.add (i.toNat * 1 + j)) = some u := hc0
  obtain ⟨A0, c0, rfl, l0, g0⟩ := hK
  exact ⟨ad, A0, c0, e, by have hq := hc 0 _ rfl; rwa [Nat.mul_one, Nat.add_zero] at hq, l0, g0⟩

/-! #### struct type 37 -/
structure S37 where
  f0 : Int
  f1 : (List S34)
  f2 : ByteArray
  f3 : (List S34)
  f4 : ByteArray
  f5 : S34
  f6 : (List S34)
  f7 : Int
def z37 : S37 := ⟨(0 : Int), ([] : List S34), (⟨#[]⟩ : ByteArray), ([] : List S34), (⟨#[]⟩ : ByteArray), z34, ([] : List S34), (0 : Int)⟩
def k37 : Kd S37 := Kd.iso (Kd.pair (Kd.int .i64) (Kd.pair (Kd.slice 34 k34) (Kd.pair Kd.string (Kd.pair (Kd.slice 34 k34) (Kd.pair Kd.string (Kd.pair k34 (Kd.pair (Kd.slice 34 k34) (Kd.int .i64)))))))) (fun x : S37 => (x.f0, x.f1, x.f2, x.f3, x.f4, x.f5, x.f6, x.f7))
theorem k37_open {w : World} {x : S37} {cs : List Value} (h : k37.K w x cs) : ∃ A1 c1 A3 c3 A9 c9 A10 c10, cs = [.int .i64 x.f0, .slice A1 x.f1.length c1, .string x.f2, .slice A3 x.f3.length c3, .string x.f4, .string x.f5.f0, .int .i64 x.f5.f1, .int .i64 x.f5.f2, .int .i64 x.f5.f3, .slice A9 x.f5.f4.length c9, .slice A10 x.f6.length c10, .int .i64 x.f7] ∧ x.f1.length ≤ c1 ∧ k34.C w A1 x.f1.length x.f1 ∧ x.f3.length ≤ c3 ∧ k34.C w A3 x.f3.length x.f3 ∧ x.f5.f4.length ≤ c9 ∧ Kd.string.C w A9 x.f5.f4.length x.f5.f4 ∧ x.f6.length ≤ c10 ∧ k34.C w A10 x.f6.length x.f6 := by
  obtain ⟨_, _, rfl, rfl, ⟨_, _, rfl, ⟨A1, c1, rfl, l1, g1⟩, ⟨_, _, rfl, rfl, ⟨_, _, rfl, ⟨A3, c3, rfl, l3, g3⟩, ⟨_, _, rfl, rfl, ⟨_, _, rfl, s5, ⟨_, _, rfl, ⟨A10, c10, rfl, l10, g10⟩, rfl⟩⟩⟩⟩⟩⟩⟩ := h
  obtain ⟨A9, c9, rfl, l9, g9⟩ := k34_open s5
  exact ⟨A1, c1, A3, c3, A9, c9, A10, c10, rfl, l1, g1, l3, g3, l9, g9, l10, g10⟩
theorem k37_openM {w : World} {base : Nat} {ok : Nat → Prop} {x : S37} {cs : List Value} (h : k37.M w base ok x cs) : ∃ v1 v3 v9 v10, cs = [.int .i64 x.f0, v1, .string x.f2, v3, .string x.f4, .string x.f5.f0, .int .i64 x.f5.f1, .int .i64 x.f5.f2, .int .i64 x.f5.f3, v9, v10, .int .i64 x.f7] ∧ k34.R 34 w base ok v1 x.f1 ∧ k34.R 34 w base ok v3 x.f3 ∧ Kd.string.R 9 w base ok v9 x.f5.f4 ∧ k34.R 34 w base ok v10 x.f6 := by
  obtain ⟨_, _, rfl, rfl, ⟨_, _, rfl, ⟨v1, rfl, g1⟩, ⟨_, _, rfl, rfl, ⟨_, _, rfl, ⟨v3, rfl, g3⟩, ⟨_, _, rfl, rfl, ⟨_, _, rfl, s5, ⟨_, _, rfl, ⟨v10, rfl, g10⟩, rfl⟩⟩⟩⟩⟩⟩⟩ := h
  obtain ⟨v9, rfl, g9⟩ := k34_openM s5
  exact ⟨v1, v3, v9, v10, rfl, g1, g3, g9, g10⟩
theorem k37_mk (w : World) (x : S37) {A1 : Option Addr} {c1 : Nat} (l1 : x.f1.length ≤ c1) (g1 : k34.C w A1 x.f1.length x.f1) {A3 : Option Addr} {c3 : Nat} (l3 : x.f3.length ≤ c3) (g3 : k34.C w A3 x.f3.length x.f3) {A9 : Option Addr} {c9 : Nat} (l9 : x.f5.f4.length ≤ c9) (g9 : Kd.string.C w A9 x.f5.f4.length x.f5.f4) {A10 : Option Addr} {c10 : Nat} (l10 : x.f6.length ≤ c10) (g10 : k34.C w A10 x.f6.length x.f6) : k37.K w x [.int .i64 x.f0, .slice A1 x.f1.length c1, .string x.f2, .slice A3 x.f3.length c3, .string x.f4, .string x.f5.f0, .int .i64 x.f5.f1, .int .i64 x.f5.f2, .int .i64 x.f5.f3, .slice A9 x.f5.f4.length c9, .slice A10 x.f6.length c10, .int .i64 x.f7] := ⟨[.int .i64 x.f0], [.slice A1 x.f1.length c1, .string x.f2, .slice A3 x.f3.length c3, .string x.f4, .string x.f5.f0, .int .i64 x.f5.f1, .int .i64 x.f5.f2, .int .i64 x.f5.f3, .slice A9 x.f5.f4.length c9, .slice A10 x.f6.length c10, .int .i64 x.f7], rfl, rfl, ⟨[.slice A1 x.f1.length c1], [.string x.f2, .slice A3 x.f3.length c3, .string x.f4, .string x.f5.f0, .int .i64 x.f5.f1, .int .i64 x.f5.f2, .int .i64 x.f5.f3, .slice A9 x.f5.f4.length c9, .slice A10 x.f6.length c10, .int .i64 x.f7], rfl, ⟨A1, c1, rfl, l1, g1⟩, ⟨[.string x.f2], [.slice A3 x.f3.length c3, .string x.f4, .string x.f5.f0, .int .i64 x.f5.f1, .int .i64 x.f5.f2, .int .i64 x.f5.f3, .slice A9 x.f5.f4.length c9, .slice A10 x.f6.length c10, .int .i64 x.f7], rfl, rfl, ⟨[.slice A3 x.f3.length c3], [.string x.f4, .string x.f5.f0, .int .i64 x.f5.f1, .int .i64 x.f5.f2, .int .i64 x.f5.f3, .slice A9 x.f5.f4.length c9, .slice A10 x.f6.length c10, .int .i64 x.f7], rfl, ⟨A3, c3, rfl, l3, g3⟩, ⟨[.string x.f4], [.string x.f5.f0, .int .i64 x.f5.f1, .int .i64 x.f5.f2, .int .i64 x.f5.f3, .slice A9 x.f5.f4.length c9, .slice A10 x.f6.length c10, .int .i64 x.f7], rfl, rfl, ⟨[.string x.f5.f0, .int .i64 x.f5.f1, .int .i64 x.f5.f2, .int .i64 x.f5.f3, .slice A9 x.f5.f4.length c9], [.slice A10 x.f6.length c10, .int .i64 x.f7], rfl, (k34_mk w x.f5 l9 g9), ⟨[.slice A10 x.f6.length c10], [.int .i64 x.f7], rfl, ⟨A10, c10, rfl, l10, g10⟩, rfl⟩⟩⟩⟩⟩⟩⟩
theorem k37_mkM (w : World) (base : Nat) (ok : Nat → Prop) (x : S37) {v1 : Value} (g1 : k34.R 34 w base ok v1 x.f1) {v3 : Value} (g3 : k34.R 34 w base ok v3 x.f3) {v9 : Value} (g9 : Kd.string.R 9 w base ok v9 x.f5.f4) {v10 : Value} (g10 : k34.R 34 w base ok v10 x.f6) : k37.M w base ok x [.int .i64 x.f0, v1, .string x.f2, v3, .string x.f4, .string x.f5.f0, .int .i64 x.f5.f1, .int .i64 x.f5.f2, .int .i64 x.f5.f3, v9, v10, .int .i64 x.f7] := ⟨[.int .i64 x.f0], [v1, .string x.f2, v3, .string x.f4, .string x.f5.f0, .int .i64 x.f5.f1, .int .i64 x.f5.f2, .int .i64 x.f5.f3, v9, v10, .int .i64 x.f7], rfl, rfl, ⟨[v1], [.string x.f2, v3, .string x.f4, .string x.f5.f0, .int .i64 x.f5.f1, .int .i64 x.f5.f2, .int .i64 x.f5.f3, v9, v10, .int .i64 x.f7], rfl, ⟨v1, rfl, g1⟩, ⟨[.string x.f2], [v3, .string x.f4, .string x.f5.f0, .int .i64 x.f5.f1, .int .i64 x.f5.f2, .int .i64 x.f5.f3, v9, v10, .int .i64 x.f7], rfl, rfl, ⟨[v3], [.string x.f4, .string x.f5.f0, .int .i64 x.f5.f1, .int .i64 x.f5.f2, .int .i64 x.f5.f3, v9, v10, .int .i64 x.f7], rfl, ⟨v3, rfl, g3⟩, ⟨[.string x.f4], [.string x.f5.f0, .int .i64 x.f5.f1, .int .i64 x.f5.f2, .int .i64 x.f5.f3, v9, v10, .int .i64 x.f7], rfl, rfl, ⟨[.string x.f5.f0, .int .i64 x.f5.f1, .int .i64 x.f5.f2, .int .i64 x.f5.f3, v9], [v10, .int .i64 x.f7], rfl, (k34_mkM w base ok x.f5 g9), ⟨[v10], [.int .i64 x.f7], rfl, ⟨v10, rfl, g10⟩, rfl⟩⟩⟩⟩⟩⟩⟩
theorem k37_openF {W : World} {ok : Nat → Prop} {x : S37} {cs : List Value} (h : Kd.FK k37 W ok x cs) : ∃ A1 c1 A3 c3 A9 c9 A10 c10, cs = [.int .i64 x.f0, .slice A1 x.f1.length c1, .string x.f2, .slice A3 x.f3.length c3, .string x.f4, .string x.f5.f0, .int .i64 x.f5.f1, .int .i64 x.f5.f2, .int .i64 x.f5.f3, .slice A9 x.f5.f4.length c9, .slice A10 x.f6.length c10, .int .i64 x.f7] ∧ x.f1.length ≤ c1 ∧ Kd.F k34 W ok A1 x.f1.length x.f1 ∧ x.f3.length ≤ c3 ∧ Kd.F k34 W ok A3 x.f3.length x.f3 ∧ x.f5.f4.length ≤ c9 ∧ Kd.F Kd.string W ok A9 x.f5.f4.length x.f5.f4 ∧ x.f6.length ≤ c10 ∧ Kd.F k34 W ok A10 x.f6.length x.f6 := by
  obtain ⟨A1, c1, A3, c3, A9, c9, A10, c10, rfl, l1, _, l3, _, l9, _, l10, _⟩ := k37_open (Kd.FK_now h)
  exact ⟨A1, c1, A3, c3, A9, c9, A10, c10, rfl, l1, (fun W' hW => by obtain ⟨A1_, c1_, A3_, c3_, A9_, c9_, A10_, c10_, he, l1_, g1_, l3_, g3_, l9_, g9_, l10_, g10_⟩ := k37_open (h W' hW); injection (Option.some.inj (show some (Value.slice A1 x.f1.length c1) = some (Value.slice A1_ x.f1.length c1_) from congrArg (fun l => l[1]?) he)) with ha_ _ _; rw [ha_]; exact g1_), l3, (fun W' hW => by obtain ⟨A1_, c1_, A3_, c3_, A9_, c9_, A10_, c10_, he, l1_, g1_, l3_, g3_, l9_, g9_, l10_, g10_⟩ := k37_open (h W' hW); injection (Option.some.inj (show some (Value.slice A3 x.f3.length c3) = some (Value.slice A3_ x.f3.length c3_) from congrArg (fun l => l[3]?) he)) with ha_ _ _; rw [ha_]; exact g3_), l9, (fun W' hW => by obtain ⟨A1_, c1_, A3_, c3_, A9_, c9_, A10_, c10_, he, l1_, g1_, l3_, g3_, l9_, g9_, l10_, g10_⟩ := k37_open (h W' hW); injection (Option.some.inj (show some (Value.slice A9 x.f5.f4.length c9) = some (Value.slice A9_ x.f5.f4.length c9_) from congrArg (fun l => l[9]?) he)) with ha_ _ _; rw [ha_]; exact g9_), l10, (fun W' hW => by obtain ⟨A1_, c1_, A3_, c3_, A9_, c9_, A10_, c10_, he, l1_, g1_, l3_, g3_, l9_, g9_, l10_, g10_⟩ := k37_open (h W' hW); injection (Option.some.inj (show some (Value.slice A10 x.f6.length c10) = some (Value.slice A10_ x.f6.length c10_) from congrArg (fun l => l[10]?) he)) with ha_ _ _; rw [ha_]; exact g10_)⟩
theorem k37_mkF (W : World) (ok : Nat → Prop) (x : S37) {A1 : Option Addr} {c1 : Nat} (l1 : x.f1.length ≤ c1) (g1 : Kd.F k34 W ok A1 x.f1.length x.f1) {A3 : Option Addr} {c3 : Nat} (l3 : x.f3.length ≤ c3) (g3 : Kd.F k34 W ok A3 x.f3.length x.f3) {A9 : Option Addr} {c9 : Nat} (l9 : x.f5.f4.length ≤ c9) (g9 : Kd.F Kd.string W ok A9 x.f5.f4.length x.f5.f4) {A10 : Option Addr} {c10 : Nat} (l10 : x.f6.length ≤ c10) (g10 : Kd.F k34 W ok A10 x.f6.length x.f6) : Kd.FK k37 W ok x [.int .i64 x.f0, .slice A1 x.f1.length c1, .string x.f2, .slice A3 x.f3.length c3, .string x.f4, .string x.f5.f0, .int .i64 x.f5.f1, .int .i64 x.f5.f2, .int .i64 x.f5.f3, .slice A9 x.f5.f4.length c9, .slice A10 x.f6.length c10, .int .i64 x.f7] := fun W2 hW => k37_mk W2 x l1 (g1 W2 hW) l3 (g3 W2 hW) l9 (g9 W2 hW) l10 (g10 W2 hW)
def rd_T37 (xs : List S37) (i : Int) : S37 := xs.getD i.toNat z37
theorem at_T37 {w : World} {A : Option Addr} {n : Nat} {xs : List S37} (h : Kd.C k37 w A n xs) (i : Int) (h0 : 0 ≤ i) (h1 : i < n) : ∃ ad A1 c1 A3 c3 A9 c9 A10 c10, A = some ad ∧ w.cell? (ad.add (i.toNat * 12)) = some (.int .i64 (rd_T37 xs i).f0) ∧ w.cell? ⟨(ad.add (i.toNat * 12)).block, (ad.add (i.toNat * 12)).off + 1, none⟩ = some (.slice A1 (rd_T37 xs i).f1.length c1) ∧ w.cell? ⟨(ad.add (i.toNat * 12)).block, (ad.add (i.toNat * 12)).off + 2, none⟩ = some (.string (rd_T37 xs i).f2) ∧ w.cell? ⟨(ad.add (i.toNat * 12)).block, (ad.add (i.toNat * 12)).off + 3, none⟩ = some (.slice A3 (rd_T37 xs i).f3.length c3) ∧ w.cell? ⟨(ad.add (i.toNat * 12)).block, (ad.add (i.toNat * 12)).off + 4, none⟩ = some (.string (rd_T37 xs i).f4) ∧ w.cell? ⟨(ad.add (i.toNat * 12)).block, (ad.add (i.toNat * 12)).off + 5, none⟩ = some (.string (rd_T37 xs i).f5.f0) ∧ w.cell? ⟨(ad.add (i.toNat * 12)).block, (ad.add (i.toNat * 12)).off + 6, none⟩ = some (.int .i64 (rd_T37 xs i).f5.f1) ∧ w.cell? ⟨(ad.add (i.toNat * 12)).block, (ad.add (i.toNat * 12)).off + 7, none⟩ = some (.int .i64 (rd_T37 xs i).f5.f2) ∧ w.cell? ⟨(ad.add (i.toNat * 12)).block, (ad.add (i.toNat * 12)).off + 8, none⟩ = some (.int .i64 (rd_T37 xs i).f5.f3) ∧ w.cell? ⟨(ad.add (i.toNat * 12)).block, (ad.add (i.toNat * 12)).off + 9, none⟩ = some (.slice A9 (rd_T37 xs i).f5.f4.length c9) ∧ w.cell? ⟨(ad.add (i.toNat * 12)).block, (ad.add (i.toNat * 12)).off + 10, none⟩ = some (.slice A10 (rd_T37 xs i).f6.length c10) ∧ w.cell? ⟨(ad.add (i.toNat * 12)).block, (ad.add (i.toNat * 12)).off + 11, none⟩ = some (.int .i64 (rd_T37 xs i).f7) ∧ (rd_T37 xs i).f1.length ≤ c1 ∧ k34.C w A1 (rd_T37 xs i).f1.length (rd_T37 xs i).f1 ∧ (rd_T37 xs i).f3.length ≤ c3 ∧ k34.C w A3 (rd_T37 xs i).f3.length (rd_T37 xs i).f3 ∧ (rd_T37 xs i).f5.f4.length ≤ c9 ∧ Kd.string.C w A9 (rd_T37 xs i).f5.f4.length (rd_T37 xs i).f5.f4 ∧ (rd_T37 xs i).f6.length ≤ c10 ∧ k34.C w A10 (rd_T37 xs i).f6.length (rd_T37 xs i).f6 := by
  obtain ⟨ad, c, e, _, hK, hc0⟩ := Kd.C_get h z37 i h0 h1
  have hc : ∀ j u, c[j]? = some u → w.cell? (ad.add (i.toNat * 12 + j)) = some u := hc0
  obtain ⟨A1, c1, A3, c3, A9, c9, A10, c10, rfl, l1, g1, l3, g3, l9, g9, l10, g10⟩ := k37_open hK
  exact ⟨ad, A1, c1, A3, c3, A9, c9, A10, c10, e, hc 0 _ rfl, by rw [← add_field _ _ 1 (by omega)]; exact hc 1 _ rfl, by rw [← add_field _ _ 2 (by omega)]; exact hc 2 _ rfl, by rw [← add_field _ _ 3 (by omega)]; exact hc 3 _ rfl, by rw [← add_field _ _ 4 (by omega)]; exact hc 4 _ rfl, by rw [← add_field _ _ 5 (by omega)]; exact hc 5 _ rfl, by rw [← add_field _ _ 6 (by omega)]; exact hc 6 _ rfl, by rw [← add_field _ _ 7 (by omega)]; exact hc 7 _ rfl, by rw [← add_field _ _ 8 (by omega)]; exact hc 8 _ rfl, by rw [← add_field _ _ 9 (by omega)]; exact hc 9 _ rfl, by rw [← add_field _ _ 10 (by omega)]; exact hc 10 _ rfl, by rw [← add_field _ _ 11 (by omega)]; exact hc 11 _ rfl, l1, g1, l3, g3, l9, g9, l10, g10⟩

/-! #### struct type 66 -/
structure S66 where
  f0 : Int
  f1 : Int
  f2 : Bool
  f3 : S44
  f4 : S37
def z66 : S66 := ⟨(0 : Int), (0 : Int), false, z44, z37⟩
def k66 : Kd S66 := Kd.iso (Kd.pair (Kd.int .i64) (Kd.pair (Kd.int .i64) (Kd.pair Kd.bool (Kd.pair k44 k37)))) (fun x : S66 => (x.f0, x.f1, x.f2, x.f3, x.f4))
theorem k66_open {w : World} {x : S66} {cs : List Value} (h : k66.K w x cs) : ∃ A8 c8 A11 c11 A13 c13 A19 c19 A20 c20, cs = [.int .i64 x.f0, .int .i64 x.f1, .bool x.f2, .int .i64 x.f3.f0, .string x.f3.f1.f0, .int .i64 x.f3.f1.f1, .int .i64 x.f3.f1.f2, .int .i64 x.f3.f1.f3, .slice A8 x.f3.f1.f4.length c8, .int .i64 x.f3.f2, .int .i64 x.f4.f0, .slice A11 x.f4.f1.length c11, .string x.f4.f2, .slice A13 x.f4.f3.length c13, .string x.f4.f4, .string x.f4.f5.f0, .int .i64 x.f4.f5.f1, .int .i64 x.f4.f5.f2, .int .i64 x.f4.f5.f3, .slice A19 x.f4.f5.f4.length c19, .slice A20 x.f4.f6.length c20, .int .i64 x.f4.f7] ∧ x.f3.f1.f4.length ≤ c8 ∧ Kd.string.C w A8 x.f3.f1.f4.length x.f3.f1.f4 ∧ x.f4.f1.length ≤ c11 ∧ k34.C w A11 x.f4.f1.length x.f4.f1 ∧ x.f4.f3.length ≤ c13 ∧ k34.C w A13 x.f4.f3.length x.f4.f3 ∧ x.f4.f5.f4.length ≤ c19 ∧ Kd.string.C w A19 x.f4.f5.f4.length x.f4.f5.f4 ∧ x.f4.f6.length ≤ c20 ∧ k34.C w A20 x.f4.f6.length x.f4.f6 := by
  obtain ⟨_, _, rfl, rfl, ⟨_, _, rfl, rfl, ⟨_, _, rfl, rfl, ⟨_, _, rfl, s3, s10⟩⟩⟩⟩ := h
  obtain ⟨A8, c8, rfl, l8, g8⟩ := k44_open s3
  obtain ⟨A11, c11, A13, c13, A19, c19, A20, c20, rfl, l11, g11, l13, g13, l19, g19, l20, g20⟩ := k37_open s10
  exact ⟨A8, c8, A11, c11, A13, c13, A19, c19, A20, c20, rfl, l8, g8, l11, g11, l13, g13, l19, g19, l20, g20⟩
theorem k66_openM {w : World} {base : Nat} {ok : Nat → Prop} {x : S66} {cs : List Value} (h : k66.M w base ok x cs) : ∃ v8 v11 v13 v19 v20, cs = [.int .i64 x.f0, .int .i64 x.f1, .bool x.f2, .int .i64 x.f3.f0, .string x.f3.f1.f0, .int .i64 x.f3.f1.f1, .int .i64 x.f3.f1.f2, .int .i64 x.f3.f1.f3, v8, .int .i64 x.f3.f2, .int .i64 x.f4.f0, v11, .string x.f4.f2, v13, .string x.f4.f4, .string x.f4.f5.f0, .int .i64 x.f4.f5.f1, .int .i64 x.f4.f5.f2, .int .i64 x.f4.f5.f3, v19, v20, .int .i64 x.f4.f7] ∧ Kd.string.R 9 w base ok v8 x.f3.f1.f4 ∧ k34.R 34 w base ok v11 x.f4.f1 ∧ k34.R 34 w base ok v13 x.f4.f3 ∧ Kd.string.R 9 w base ok v19 x.f4.f5.f4 ∧ k34.R 34 w base ok v20 x.f4.f6 := by
  obtain ⟨_, _, rfl, rfl, ⟨_, _, rfl, rfl, ⟨_, _, rfl, rfl, ⟨_, _, rfl, s3, s10⟩⟩⟩⟩ := h
  obtain ⟨v8, rfl, g8⟩ := k44_openM s3
  obtain ⟨v11, v13, v19, v20, rfl, g11, g13, g19, g20⟩ := k37_openM s10
  exact ⟨v8, v11, v13, v19, v20, rfl, g8, g11, g13, g19, g20⟩
theorem k66_mk (w : World) (x : S66) {A8 : Option Addr} {c8 : Nat} (l8 : x.f3.f1.f4.length ≤ c8) (g8 : Kd.string.C w A8 x.f3.f1.f4.length x.f3.f1.f4) {A11 : Option Addr} {c11 : Nat} (l11 : x.f4.f1.length ≤ c11) (g11 : k34.C w A11 x.f4.f1.length x.f4.f1) {A13 : Option Addr} {c13 : Nat} (l13 : x.f4.f3.length ≤ c13) (g13 : k34.C w A13 x.f4.f3.length x.f4.f3) {A19 : Option Addr} {c19 : Nat} (l19 : x.f4.f5.f4.length ≤ c19) (g19 : Kd.string.C w A19 x.f4.f5.f4.length x.f4.f5.f4) {A20 : Option Addr} {c20 : Nat} (l20 : x.f4.f6.length ≤ c20) (g20 : k34.C w A20 x.f4.f6.length x.f4.f6) : k66.K w x [.int .i64 x.f0, .int .i64 x.f1, .bool x.f2, .int .i64 x.f3.f0, .string x.f3.f1.f0, .int .i64 x.f3.f1.f1, .int .i64 x.f3.f1.f2, .int .i64 x.f3.f1.f3, .slice A8 x.f3.f1.f4.length c8, .int .i64 x.f3.f2, .int .i64 x.f4.f0, .slice A11 x.f4.f1.length c11, .string x.f4.f2, .slice A13 x.f4.f3.length c13, .string x.f4.f4, .string x.f4.f5.f0, .int .i64 x.f4.f5.f1, .int .i64 x.f4.f5.f2, .int .i64 x.f4.f5.f3, .slice A19 x.f4.f5.f4.length c19, .slice A20 x.f4.f6.length c20, .int .i64 x.f4.f7] := ⟨[.int .i64 x.f0], [.int .i64 x.f1, .bool x.f2, .int .i64 x.f3.f0, .string x.f3.f1.f0, .int .i64 x.f3.f1.f1, .int .i64 x.f3.f1.f2, .int .i64 x.f3.f1.f3, .slice A8 x.f3.f1.f4.length c8, .int .i64 x.f3.f2, .int .i64 x.f4.f0, .slice A11 x.f4.f1.length c11, .string x.f4.f2, .slice A13 x.f4.f3.length c13, .string x.f4.f4, .string x.f4.f5.f0, .int .i64 x.f4.f5.f1, .int .i64 x.f4.f5.f2, .int .i64 x.f4.f5.f3, .slice A19 x.f4.f5.f4.length c19, .slice A20 x.f4.f6.length c20, .int .i64 x.f4.f7], rfl, rfl, ⟨[.int .i64 x.f1], [.bool x.f2, .int .i64 x.f3.f0, .string x.f3.f1.f0, .int .i64 x.f3.f1.f1, .int .i64 x.f3.f1.f2, .int .i64 x.f3.f1.f3, .slice A8 x.f3.f1.f4.length c8, .int .i64 x.f3.f2, .int .i64 x.f4.f0, .slice A11 x.f4.f1.length c11, .string x.f4.f2, .slice A13 x.f4.f3.length c13, .string x.f4.f4, .string x.f4.f5.f0, .int .i64 x.f4.f5.f1, .int .i64 x.f4.f5.f2, .int .i64 x.f4.f5.f3, .slice A19 x.f4.f5.f4.length c19, .slice A20 x.f4.f6.length c20, .int .i64 x.f4.f7], rfl, rfl, ⟨[.bool x.f2], [.int .i64 x.f3.f0, .string x.f3.f1.f0, .int .i64 x.f3.f1.f1, .int .i64 x.f3.f1.f2, .int .i64 x.f3.f1.f3, .slice A8 x.f3.f1.f4.length c8, .int .i64 x.f3.f2, .int .i64 x.f4.f0, .slice A11 x.f4.f1.length c11, .string x.f4.f2, .slice A13 x.f4.f3.length c13, .string x.f4.f4, .string x.f4.f5.f0, .int .i64 x.f4.f5.f1, .int .i64 x.f4.f5.f2, .int .i64 x.f4.f5.f3, .slice A19 x.f4.f5.f4.length c19, .slice A20 x.f4.f6.length c20, .int .i64 x.f4.f7], rfl, rfl, ⟨[.int .i64 x.f3.f0, .string x.f3.f1.f0, .int .i64 x.f3.f1.f1, .int .i64 x.f3.f1.f2, .int .i64 x.f3.f1.f3, .slice A8 x.f3.f1.f4.length c8, .int .i64 x.f3.f2], [.int .i64 x.f4.f0, .slice A11 x.f4.f1.length c11, .string x.f4.f2, .slice A13 x.f4.f3.length c13, .string x.f4.f4, .string x.f4.f5.f0, .int .i64 x.f4.f5.f1, .int .i64 x.f4.f5.f2, .int .i64 x.f4.f5.f3, .slice A19 x.f4.f5.f4.length c19, .slice A20 x.f4.f6.length c20, .int .i64 x.f4.f7], rfl, (k44_mk w x.f3 l8 g8), (k37_mk w x.f4 l11 g11 l13 g13 l19 g19 l20 g20)⟩⟩⟩⟩
theorem k66_mkM (w : World) (base : Nat) (ok : Nat → Prop) (x : S66) {v8 : Value} (g8 : Kd.string.R 9 w base ok v8 x.f3.f1.f4) {v11 : Value} (g11 : k34.R 34 w base ok v11 x.f4.f1) {v13 : Value} (g13 : k34.R 34 w base ok v13 x.f4.f3) {v19 : Value} (g19 : Kd.string.R 9 w base ok v19 x.f4.f5.f4) {v20 : Value} (g20 : k34.R 34 w base ok v20 x.f4.f6) : k66.M w base ok x [.int .i64 x.f0, .int .i64 x.f1, .bool x.f2, .int .i64 x.f3.f0, .string x.f3.f1.f0, .int .i64 x.f3.f1.f1, .int .i64 x.f3.f1.f2, .int .i64 x.f3.f1.f3, v8, .int .i64 x.f3.f2, .int .i64 x.f4.f0, v11, .string x.f4.f2, v13, .string x.f4.f4, .string x.f4.f5.f0, .int .i64 x.f4.f5.f1, .int .i64 x.f4.f5.f2, .int .i64 x.f4.f5.f3, v19, v20, .int .i64 x.f4.f7] := ⟨[.int .i64 x.f0], [.int .i64 x.f1, .bool x.f2, .int .i64 x.f3.f0, .string x.f3.f1.f0, .int .i64 x.f3.f1.f1, .int .i64 x.f3.f1.f2, .int .i64 x.f3.f1.f3, v8, .int .i64 x.f3.f2, .int .i64 x.f4.f0, v11, .string x.f4.f2, v13, .string x.f4.f4, .string x.f4.f5.f0, .int .i64 x.f4.f5.f1, .int .i64 x.f4.f5.f2, .int .i64 x.f4.f5.f3, v19, v20, .int .i64 x.f4.f7], rfl, rfl, ⟨[.int .i64 x.f1], [.bool x.f2, .int .i64 x.f3.f0, .string x.f3.f1.f0, .int .i64 x.f3.f1.f1, .int .i64 x.f3.f1.f2, .int .i64 x.f3.f1.f3, v8, .int .i64 x.f3.f2, .int .i64 x.f4.f0, v11, .string x.f4.f2, v13, .string x.f4.f4, .string x.f4.f5.f0, .int .i64 x.f4.f5.f1, .int .i64 x.f4.f5.f2, .int .i64 x.f4.f5.f3, v19, v20, .int .i64 x.f4.f7], rfl, rfl, ⟨[.bool x.f2], [.int .i64 x.f3.f0, .string x.f3.f1.f0, .int .i64 x.f3.f1.f1, .int .i64 x.f3.f1.f2, .int .i64 x.f3.f1.f3, v8, .int .i64 x.f3.f2, .int .i64 x.f4.f0, v11, .string x.f4.f2, v13, .string x.f4.f4, .string x.f4.f5.f0, .int .i64 x.f4.f5.f1, .int .i64 x.f4.f5.f2, .int .i64 x.f4.f5.f3, v19, v20, .int .i64 x.f4.f7], rfl, rfl, ⟨[.int .i64 x.f3.f0, .string x.f3.f1.f0, .int .i64 x.f3.f1.f1, .int .i64 x.f3.f1.f2, .int .i64 x.f3.f1.f3, v8, .int .i64 x.f3.f2], [.int .i64 x.f4.f0, v11, .string x.f4.f2, v13, .string x.f4.f4, .string x.f4.f5.f0, .int .i64 x.f4.f5.f1, .int .i64 x.f4.f5.f2, .int .i64 x.f4.f5.f3, v19, v20, .int .i64 x.f4.f7], rfl, (k44_mkM w base ok x.f3 g8), (k37_mkM w base ok x.f4 g11 g13 g19 g20)⟩⟩⟩⟩
theorem k66_openF {W : World} {ok : Nat → Prop} {x : S66} {cs : List Value} (h : Kd.FK k66 W ok x cs) : ∃ A8 c8 A11 c11 A13 c13 A19 c19 A20 c20, cs = [.int .i64 x.f0, .int .i64 x.f1, .bool x.f2, .int .i64 x.f3.f0, .string x.f3.f1.f0, .int .i64 x.f3.f1.f1, .int .i64 x.f3.f1.f2, .int .i64 x.f3.f1.f3, .slice A8 x.f3.f1.f4.length c8, .int .i64 x.f3.f2, .int .i64 x.f4.f0, .slice A11 x.f4.f1.length c11, .string x.f4.f2, .slice A13 x.f4.f3.length c13, .string x.f4.f4, .string x.f4.f5.f0, .int .i64 x.f4.f5.f1, .int .i64 x.f4.f5.f2, .int .i64 x.f4.f5.f3, .slice A19 x.f4.f5.f4.length c19, .slice A20 x.f4.f6.length c20, .int .i64 x.f4.f7] ∧ x.f3.f1.f4.length ≤ c8 ∧ Kd.F Kd.string W ok A8 x.f3.f1.f4.length x.f3.f1.f4 ∧ x.f4.f1.length ≤ c11 ∧ Kd.F k34 W ok A11 x.f4.f1.length x.f4.f1 ∧ x.f4.f3.length ≤ c13 ∧ Kd.F k34 W ok A13 x.f4.f3.length x.f4.f3 ∧ x.f4.f5.f4.length ≤ c19 ∧ Kd.F Kd.string W ok A19 x.f4.f5.f4.length x.f4.f5.f4 ∧ x.f4.f6.length ≤ c20 ∧ Kd.F k34 W ok A20 x.f4.f6.length x.f4.f6 := by
  obtain ⟨A8, c8, A11, c11, A13, c13, A19, c19, A20, c20, rfl, l8, _, l11, _, l13, _, l19, _, l20, _⟩ := k66_open (Kd.FK_now h)
  exact ⟨A8, c8, A11, c11, A13, c13, A19, c19, A20, c20, rfl, l8, (fun W' hW => by obtain ⟨A8_, c8_, A11_, c11_, A13_, c13_, A19_, c19_, A20_, c20_, he, l8_, g8_, l11_, g11_, l13_, g13_, l19_, g19_, l20_, g20_⟩ := k66_open (h W' hW); injection (Option.some.inj (show some (Value.slice A8 x.f3.f1.f4.length c8) = some (Value.slice A8_ x.f3.f1.f4.length c8_) from congrArg (fun l => l[8]?) he)) with ha_ _ _; rw [ha_]; exact g8_), l11, (fun W' hW => by obtain ⟨A8_, c8_, A11_, c11_, A13_, c13_, A19_, c19_, A20_, c20_, he, l8_, g8_, l11_, g11_, l13_, g13_, l19_, g19_, l20_, g20_⟩ := k66_open (h W' hW); injection (Option.some.inj (show some (Value.slice A11 x.f4.f1.length c11) = some (Value.slice A11_ x.f4.f1.length c11_) from congrArg (fun l => l[11]?) he)) with ha_ _ _; rw [ha_]; exact g11_), l13, (fun W' hW => by obtain ⟨A8_, c8_, A11_, c11_, A13_, c13_, A19_, c19_, A20_, c20_, he, l8_, g8_, l11_, g11_, l13_, g13_, l19_, g19_, l20_, g20_⟩ := k66_open (h W' hW); injection (Option.some.inj (show some (Value.slice A13 x.f4.f3.length c13) = some (Value.slice A13_ x.f4.f3.length c13_) from congrArg (fun l => l[13]?) he)) with ha_ _ _; rw [ha_]; exact g13_), l19, (fun W' hW => by obtain ⟨A8_, c8_, A11_, c11_, A13_, c13_, A19_, c19_, A20_, c20_, he, l8_, g8_, l11_, g11_, l13_, g13_, l19_, g19_, l20_, g20_⟩ := k66_open (h W' hW); injection (Option.some.inj (show some (Value.slice A19 x.f4.f5.f4.length c19) = some (Value.slice A19_ x.f4.f5.f4.length c19_) from congrArg (fun l => l[19]?) he)) with ha_ _ _; rw [ha_]; exact g19_), l20, (fun W' hW => by obtain ⟨A8_, c8_, A11_, c11_, A13_, c13_, A19_, c19_, A20_, c20_, he, l8_, g8_, l11_, g11_, l13_, g13_, l19_, g19_, l20_, g20_⟩ := k66_open (h W' hW); injection (Option.some.inj (show some (Value.slice A20 x.f4.f6.length c20) = some (Value.slice A20_ x.f4.f6.length c20_) from congrArg (fun l => l[20]?) he)) with ha_ _ _; rw [ha_]; exact g20_)⟩
theorem k66_mkF (W : World) (ok : Nat → Prop) (x : S66) {A8 : Option Addr} {c8 : Nat} (l8 : x.f3.f1.f4.length ≤ c8) (g8 : Kd.F Kd.string W ok A8 x.f3.f1.f4.length x.f3.f1.f4) {A11 : Option Addr} {c11 : Nat} (l11 : x.f4.f1.length ≤ c11) (g11 : Kd.F k34 W ok A11 x.f4.f1.length x.f4.f1) {A13 : Option Addr} {c13 : Nat} (l13 : x.f4.f3.length ≤ c13) (g13 : Kd.F k34 W ok A13 x.f4.f3.length x.f4.f3) {A19 : Option Addr} {c19 : Nat} (l19 : x.f4.f5.f4.length ≤ c19) (g19 : Kd.F Kd.string W ok A19 x.f4.f5.f4.length x.f4.f5.f4) {A20 : Option Addr} {c20 : Nat} (l20 : x.f4.f6.length ≤ c20) (g20 : Kd.F k34 W ok A20 x.f4.f6.length x.f4.f6) : Kd.FK k66 W ok x [.int .i64 x.f0, .int .i64 x.f1, .bool x.f2, .int .i64 x.f3.f0, .string x.f3.f1.f0, .int .i64 x.f3.f1.f1, .int .i64 x.f3.f1.f2, .int .i64 x.f3.f1.f3, .slice A8 x.f3.f1.f4.length c8, .int .i64 x.f3.f2, .int .i64 x.f4.f0, .slice A11 x.f4.f1.length c11, .string x.f4.f2, .slice A13 x.f4.f3.length c13, .string x.f4.f4, .string x.f4.f5.f0, .int .i64 x.f4.f5.f1, .int .i64 x.f4.f5.f2, .int .i64 x.f4.f5.f3, .slice A19 x.f4.f5.f4.length c19, .slice A20 x.f4.f6.length c20, .int .i64 x.f4.f7] := fun W2 hW => k66_mk W2 x l8 (g8 W2 hW) l11 (g11 W2 hW) l13 (g13 W2 hW) l19 (g19 W2 hW) l20 (g20 W2 hW)
def rd_T66 (xs : List S66) (i : Int) : S66 := xs.getD i.toNat z66
theorem at_T66 {w : World} {A : Option Addr} {n : Nat} {xs : List S66} (h : Kd.C k66 w A n xs) (i : Int) (h0 : 0 ≤ i) (h1 : i < n) : ∃ ad A8 c8 A11 c11 A13 c13 A19 c19 A20 c20, A = some ad ∧ w.cell? (ad.add (i.toNat * 22)) = some (.int .i64 (rd_T66 xs i).f0) ∧ w.cell? ⟨(ad.add (i.toNat * 22)).block, (ad.add (i.toNat * 22)).off + 1, none⟩ = some (.int .i64 (rd_T66 xs i).f1) ∧ w.cell? ⟨(ad.add (i.toNat * 22)).block, (ad.add (i.toNat * 22)).off + 2, none⟩ = some (.bool (rd_T66 xs i).f2) ∧ w.cell? ⟨(ad.add (i.toNat * 22)).block, (ad.add (i.toNat * 22)).off + 3, none⟩ = some (.int .i64 (rd_T66 xs i).f3.f0) ∧ w.cell? ⟨(ad.add (i.toNat * 22)).block, (ad.add (i.toNat * 22)).off + 4, none⟩ = some (.string (rd_T66 xs i).f3.f1.f0) ∧ w.cell? ⟨(ad.add (i.toNat * 22)).block, (ad.add (i.toNat * 22)).off + 5, none⟩ = some (.int .i64 (rd_T66 xs i).f3.f1.f1) ∧ w.cell? ⟨(ad.add (i.toNat * 22)).block, (ad.add (i.toNat * 22)).off + 6, none⟩ = some (.int .i64 (rd_T66 xs i).f3.f1.f2) ∧ w.cell? ⟨(ad.add (i.toNat * 22)).block, (ad.add (i.toNat * 22)).off + 7, none⟩ = some (.int .i64 (rd_T66 xs i).f3.f1.f3) ∧ w.cell? ⟨(ad.add (i.toNat * 22)).block, (ad.add (i.toNat * 22)).off + 8, none⟩ = some (.slice A8 (rd_T66 xs i).f3.f1.f4.length c8) ∧ w.cell? ⟨(ad.add (i.toNat * 22)).block, (ad.add (i.toNat * 22)).off + 9, none⟩ = some (.int .i64 (rd_T66 xs i).f3.f2) ∧ w.cell? ⟨(ad.add (i.toNat * 22)).block, (ad.add (i.toNat * 22)).off + 10, none⟩ = some (.int .i64 (rd_T66 xs i).f4.f0) ∧ w.cell? ⟨(ad.add (i.toNat * 22)).block, (ad.add (i.toNat * 22)).off + 11, none⟩ = some (.slice A11 (rd_T66 xs i).f4.f1.length c11) ∧ w.cell? ⟨(ad.add (i.toNat * 22)).block, (ad.add (i.toNat * 22)).off + 12, none⟩ = some (.string (rd_T66 xs i).f4.f2) ∧ w.cell? ⟨(ad.add (i.toNat * 22)).block, (ad.add (i.toNat * 22)).off + 13, none⟩ = some (.slice A13 (rd_T66 xs i).f4.f3.length c13) ∧ w.cell? ⟨(ad.add (i.toNat * 22)).block, (ad.add (i.toNat * 22)).off + 14, none⟩ = some (.string (rd_T66 xs i).f4.f4) ∧ w.cell? ⟨(ad.add (i.toNat * 22)).block, (ad.add (i.toNat * 22)).off + 15, none⟩ = some (.string (rd_T66 xs i).f4.f5.f0) ∧ w.cell? ⟨(ad.add (i.toNat * 22)).block, (ad.add (i.toNat * 22)).off + 16, none⟩ = some (.int .i64 (rd_T66 xs i).f4.f5.f1) ∧ w.cell? ⟨(ad.add (i.toNat * 22)).block, (ad.add (i.toNat * 22)).off + 17, none⟩ = some (.int .i64 (rd_T66 xs i).f4.f5.f2) ∧ w.cell? ⟨(ad.add (i.toNat * 22)).block, (ad.add (i.toNat * 22)).off + 18, none⟩ = some (.int .i64 (rd_T66 xs i).f4.f5.f3) ∧ w.cell? ⟨(ad.add (i.toNat * 22)).block, (ad.add (i.toNat * 22)).off + 19, none⟩ = some (.slice A19 (rd_T66 xs i).f4.f5.f4.length c19) ∧ w.cell? ⟨(ad.add (i.toNat * 22)).block, (ad.add (i.toNat * 22)).off + 20, none⟩ = some (.slice A20 (rd_T66 xs i).f4.f6.length c20) ∧ w.cell? ⟨(ad.add (i.toNat * 22)).block, (ad.add (i.toNat * 22)).off + 21, none⟩ = some (.int .i64 (rd_T66 xs i).f4.f7) ∧ (rd_T66 xs i).f3.f1.f4.length ≤ c8 ∧ Kd.string.C w A8 (rd_T66 xs i).f3.f1.f4.length (rd_T66 xs i).f3.f1.f4 ∧ (rd_T66 xs i).f4.f1.length ≤ c11 ∧ k34.C w A11 (rd_T66 xs i).f4.f1.length (rd_T66 xs i).f4.f1 ∧ (rd_T66 xs i).f4.f3.length ≤ c13 ∧ k34.C w A13 (rd_T66 xs i).f4.f3.length (rd_T66 xs i).f4.f3 ∧ (rd_T66 xs i).f4.f5.f4.length ≤ c19 ∧ Kd.string.C w A19 (rd_T66 xs i).f4.f5.f4.length (rd_T66 xs i).f4.f5.f4 ∧ (rd_T66 xs i).f4.f6.length ≤ c20 ∧ k34.C w A20 (rd_T66 xs i).f4.f6.length (rd_T66 xs i).f4.f6 := by
  obtain ⟨ad, c, e, _, hK, hc0⟩ := Kd.C_get h z66 i h0 h1
  have hc : ∀ j u, c[j]? = some u → w.cell? (ad.add (i.toNat * 22 + j)) = some u := hc0
  obtain ⟨A8, c8, A11, c11, A13, c13, A19, c19, A20, c20, rfl, l8, g8, l11, g11, l13, g13, l19, g19, l20, g20⟩ := k66_open hK
  exact ⟨ad, A8, c8, A11, c11, A13, c13, A19, c19, A20, c20, e, hc 0 _ rfl, by rw [← add_field _ _ 1 (by omega)]; exact hc 1 _ rfl, by rw [← add_field _ _ 2 (by omega)]; exact hc 2 _ rfl, by rw [← add_field _ _ 3 (by omega)]; exact hc 3 _ rfl, by rw [← add_field _ _ 4 (by omega)]; exact hc 4 _ rfl, by rw [← add_field _ _ 5 (by omega)]; exact hc 5 _ rfl, by rw [← add_field _ _ 6 (by omega)]; exact hc 6 _ rfl, by rw [← add_field _ _ 7 (by omega)]; exact hc 7 _ rfl, by rw [← add_field _ _ 8 (by omega)]; exact hc 8 _ rfl, by rw [← add_field _ _ 9 (by omega)]; exact hc 9 _ rfl, by rw [← add_field _ _ 10 (by omega)]; exact hc 10 _ rfl, by rw [← add_field _ _ 11 (by omega)]; exact hc 11 _ rfl, by rw [← add_field _ _ 12 (by omega)]; exact hc 12 _ rfl, by rw [← add_field _ _ 13 (by omega)]; exact hc 13 _ rfl, by rw [← add_field _ _ 14 (by omega)]; exact hc 14 _ rfl, by rw [← add_field _ _ 15 (by omega)]; exact hc 15 _ rfl, by rw [← add_field _ _ 16 (by omega)]; exact hc 16 _ rfl, by rw [← add_field _ _ 17 (by omega)]; exact hc 17 _ rfl, by rw [← add_field _ _ 18 (by omega)]; exact hc 18 _ rfl, by rw [← add_field _ _ 19 (by omega)]; exact hc 19 _ rfl, by rw [← add_field _ _ 20 (by omega)]; exact hc 20 _ rfl, by rw [← add_field _ _ 21 (by omega)]; exact hc 21 _ rfl, l8, g8, l11, g11, l13, g13, l19, g19, l20, g20⟩

end Go.Proofs.Ytbiaiionecpdgaa.PTaskNone
