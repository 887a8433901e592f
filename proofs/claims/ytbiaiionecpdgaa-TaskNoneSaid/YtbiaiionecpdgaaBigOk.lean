/-
  The guards of the laws on tasks: of any set and any verdict that can be read as data, BigSet and BigVerdict return a bool, and turn nothing.
-/
import Derived.Test.YtbiaiionecpdgaaBig
import Derived.Lib.LaidTab
import Derived.ChangeShapes
set_option linter.unusedVariables false
set_option linter.unusedSimpArgs false
namespace Go.Proofs.Ytbiaiionecpdgaa.big
open Go.RowKit Go.ChangeShapes Go.Proofs.YtbiaiionecpdgaaW.PrintWords Go.Proofs.YtbiaiionecpdgaaW.PrintLast Go.Proofs.YtbiaiionecpdgaaW.PrintMore Go.Proofs.Ytbiaiionecpdgaa.PTaskNone

/-! ### they end -/
theorem bigSet_ends (x1 : Int) (a : ByteArray) (b c e : Int) (l : List ByteArray) (hl : l.length ≤ 9223372036854775807) : ∀ (d i k : Nat), i + d = l.length → d < k → ∃ r, ostiarykit_BigSet.l0 k x1 (i : Int) a b c e l = some r := by
  intro d
  induction d with
  | zero =>
    intro i k hi hk
    obtain ⟨k, rfl⟩ : ∃ m, k = m + 1 := ⟨k - 1, by omega⟩
    simp only [ostiarykit_BigSet.l0]
    rw [if_neg (by omega)]
    split <;> exact ⟨_, rfl⟩
  | succ d ih =>
    intro i k hi hk
    obtain ⟨k, rfl⟩ : ∃ m, k = m + 1 := ⟨k - 1, by omega⟩
    simp only [ostiarykit_BigSet.l0]
    rw [if_pos (by omega), if_pos (by omega)]
    split
    · exact ⟨_, rfl⟩
    · have hw : wrap64 ((i : Int) + 1) = ((i + 1 : Nat) : Int) := by unfold wrap64; omega
      rw [hw]
      exact ih (i + 1) k (by omega) (by omega)

theorem bigSet_f (x1 : Int) (a : ByteArray) (b c e : Int) (l : List ByteArray) (hl : l.length ≤ 9223372036854775807) {k : Nat} (hk : l.length < k) : ∃ r, ostiarykit_BigSet.f k a b c e l x1 = some r :=
  bigSet_ends x1 a b c e l hl l.length 0 k (by omega) hk

def most (l : List S34) : Nat := (l.map fun x => x.f4.length).sum
theorem most_mem : ∀ {l : List S34} {x : S34}, x ∈ l → x.f4.length ≤ most l
  | y :: l, x, h => by
    rcases List.mem_cons.1 h with rfl | h
    · simp [most]
    · have := most_mem h
      unfold most at this ⊢
      simp only [List.map_cons, List.sum_cons]; omega
theorem rd_fits {l : List S34} (h : ∀ x ∈ l, x.f4.length ≤ 9223372036854775807) (i : Int) : (rd_T34 l i).f4.length ≤ 9223372036854775807 ∧ (rd_T34 l i).f4.length ≤ most l := by
  unfold rd_T34
  rw [List.getD_eq_getElem?_getD]
  cases hx : l[i.toNat]? with
  | none => simp [z34]
  | some x => exact ⟨h x (List.mem_of_getElem? hx), most_mem (List.mem_of_getElem? hx)⟩

theorem verdict_l1 (x1 : Int) (a : Int) (l1 : List S34) (s2 : ByteArray) (l3 : List S34) (s4 s5 : ByteArray) (i6 i7 i8 : Int) (l9 : List ByteArray) (l10 : List S34) (i11 : Int) (hl : l3.length ≤ 9223372036854775807) (h3 : ∀ x ∈ l3, x.f4.length ≤ 9223372036854775807) :
    ∀ (d i k : Nat), i + d = l3.length → d + most l3 + 1 < k → ∃ r, ostiarykit_BigVerdict.l1 k x1 (i : Int) a l1 s2 l3 s4 s5 i6 i7 i8 l9 l10 i11 = some r := by
  intro d
  induction d with
  | zero =>
    intro i k hi hk
    obtain ⟨k, rfl⟩ : ∃ m, k = m + 1 := ⟨k - 1, by omega⟩
    simp only [ostiarykit_BigVerdict.l1]
    rw [if_neg (by omega)]
    exact ⟨_, rfl⟩
  | succ d ih =>
    intro i k hi hk
    obtain ⟨k, rfl⟩ : ∃ m, k = m + 1 := ⟨k - 1, by omega⟩
    simp only [ostiarykit_BigVerdict.l1]
    rw [if_pos (by omega), if_pos (by omega)]
    obtain ⟨f1, f2⟩ := rd_fits h3 (i : Int)
    obtain ⟨r, hr⟩ := bigSet_f x1 (rd_T34 l3 i).f0 (rd_T34 l3 i).f1 (rd_T34 l3 i).f2 (rd_T34 l3 i).f3 (rd_T34 l3 i).f4 f1 (k := k) (by omega)
    rw [hr]
    simp only [Option.bind_some]
    split
    · exact ⟨_, rfl⟩
    · have hw : wrap64 ((i : Int) + 1) = ((i + 1 : Nat) : Int) := by unfold wrap64; omega
      rw [hw]
      exact ih (i + 1) k (by omega) (by omega)

theorem verdict_l0 (x1 : Int) (a : Int) (l1 : List S34) (s2 : ByteArray) (l3 : List S34) (s4 s5 : ByteArray) (i6 i7 i8 : Int) (l9 : List ByteArray) (l10 : List S34) (i11 : Int) (hl1 : l1.length ≤ 9223372036854775807) (h1 : ∀ x ∈ l1, x.f4.length ≤ 9223372036854775807)
    (hl : l3.length ≤ 9223372036854775807) (h3 : ∀ x ∈ l3, x.f4.length ≤ 9223372036854775807) :
    ∀ (d i k : Nat), i + d = l1.length → d + most l1 + l3.length + most l3 + 2 < k → ∃ r, ostiarykit_BigVerdict.l0 k x1 (i : Int) a l1 s2 l3 s4 s5 i6 i7 i8 l9 l10 i11 = some r := by
  intro d
  induction d with
  | zero =>
    intro i k hi hk
    obtain ⟨k, rfl⟩ : ∃ m, k = m + 1 := ⟨k - 1, by omega⟩
    simp only [ostiarykit_BigVerdict.l0]
    rw [if_neg (by omega)]
    exact verdict_l1 x1 a l1 s2 l3 s4 s5 i6 i7 i8 l9 l10 i11 hl h3 l3.length 0 k (by omega) (by omega)
  | succ d ih =>
    intro i k hi hk
    obtain ⟨k, rfl⟩ : ∃ m, k = m + 1 := ⟨k - 1, by omega⟩
    simp only [ostiarykit_BigVerdict.l0]
    rw [if_pos (by omega), if_pos (by omega)]
    obtain ⟨f1, f2⟩ := rd_fits h1 (i : Int)
    obtain ⟨r, hr⟩ := bigSet_f x1 (rd_T34 l1 i).f0 (rd_T34 l1 i).f1 (rd_T34 l1 i).f2 (rd_T34 l1 i).f3 (rd_T34 l1 i).f4 f1 (k := k) (by omega)
    rw [hr]
    simp only [Option.bind_some]
    split
    · exact ⟨_, rfl⟩
    · have hw : wrap64 ((i : Int) + 1) = ((i + 1 : Nat) : Int) := by unfold wrap64; omega
      rw [hw]
      exact ih (i + 1) k (by omega) (by omega)

theorem verdict_f (x1 : Int) (a : Int) (l1 : List S34) (s2 : ByteArray) (l3 : List S34) (s4 s5 : ByteArray) (i6 i7 i8 : Int) (l9 : List ByteArray) (l10 : List S34) (i11 : Int) (hl1 : l1.length ≤ 9223372036854775807) (h1 : ∀ x ∈ l1, x.f4.length ≤ 9223372036854775807)
    (hl : l3.length ≤ 9223372036854775807) (h3 : ∀ x ∈ l3, x.f4.length ≤ 9223372036854775807) (h9 : l9.length ≤ 9223372036854775807) : ∃ k r, ostiarykit_BigVerdict.f k a l1 s2 l3 s4 s5 i6 i7 i8 l9 l10 i11 x1 = some r := by
  refine ⟨l9.length + l1.length + most l1 + l3.length + most l3 + 5, ?_⟩
  have j : ∀ b, ∃ r, ostiarykit_BigVerdict.j0 (l9.length + l1.length + most l1 + l3.length + most l3 + 5) x1 b a l1 s2 l3 s4 s5 i6 i7 i8 l9 l10 i11 = some r := by
    intro b
    simp only [ostiarykit_BigVerdict.j0]
    split
    · exact ⟨_, rfl⟩
    · exact verdict_l0 x1 a l1 s2 l3 s4 s5 i6 i7 i8 l9 l10 i11 hl1 h1 hl h3 l1.length 0 _ (by omega) (by omega)
  unfold ostiarykit_BigVerdict.f
  obtain ⟨r, hr⟩ := bigSet_f x1 s5 i6 i7 i8 l9 h9 (k := l9.length + l1.length + most l1 + l3.length + most l3 + 5) (by omega)
  rw [hr]
  simp only [Option.bind_some]
  (repeat' split) <;> exact j _

/-! ### what can be read -/
section
variable {H : Type} {enc : TypeId × Value → H} {P : Program} {W : World} {base : Nat} {sp : Nat → Bool} {hd : Bool}
/-- Cells that read as some datum of a type. -/
def Rd (enc : TypeId × Value → H) (P : Program) (W : World) (base : Nat) (sp : Nat → Bool) (hd : Bool) (t : TypeId) (cs : List Value) : Prop := ∃ fuel x, DataW.trod enc P W base sp hd fuel t cs = some x

theorem rd_string {t : TypeId} {cs : List Value} (hu : P.underlying t = some .string) (h : Rd enc P W base sp hd t cs) : ∃ s, cs = [.string s] := by
  obtain ⟨fuel, x, h⟩ := h
  cases fuel with
  | zero => simp [DataW.trod] at h
  | succ fuel =>
    simp only [DataW.trod, hu] at h
    split at h <;> first | exact ⟨_, rfl⟩ | simp_all
theorem rd_int {t : TypeId} {k : IntKind} {cs : List Value} (hu : P.underlying t = some (.int k)) (h : Rd enc P W base sp hd t cs) : ∃ n, cs = [.int k n] := by
  obtain ⟨fuel, x, h⟩ := h
  cases fuel with
  | zero => simp [DataW.trod] at h
  | succ fuel =>
    simp only [DataW.trod, hu] at h
    split at h <;> first
      | (split at h
         · rename_i hk; exact ⟨_, by rw [hk.1]⟩
         · cases h)
      | simp_all
theorem rd_fields {t : TypeId} {fs : Array Field} {cs : List Value} (hu : P.underlying t = some (.struct fs)) (h : Rd enc P W base sp hd t cs) : cs.length = P.cellsOf t ∧ ∀ (i : Nat) f, fs.toList[i]? = some f → Rd enc P W base sp hd f.type ((cs.drop f.offset).take (P.cellsOf f.type)) := by
  obtain ⟨fuel, x, h⟩ := h
  cases fuel with
  | zero => simp [DataW.trod] at h
  | succ fuel =>
    simp only [DataW.trod, hu] at h
    split at h
    · rename_i hl
      refine ⟨hl, fun i f hf => ?_⟩
      obtain ⟨xs, hm, _⟩ := Option.map_eq_some_iff.1 h
      obtain ⟨b, _, hb⟩ := Lib.mapM_at hm i f hf
      exact ⟨fuel, b, hb⟩
    · cases h
theorem rd_slice {t e : TypeId} {cs : List Value} (hu : P.underlying t = some (.slice e)) (h : Rd enc P W base sp hd t cs) : cs = [.slice none 0 0] ∨ ∃ a len cap, cs = [.slice (some a) len cap] ∧ len ≤ cap ∧ cap ≤ maxLen ∧
    ∀ i, i < len → ∃ c, W.cells? base (a.add (i * P.cellsOf e)) (P.cellsOf e) = some c ∧ Rd enc P W base sp hd e c := by
  obtain ⟨fuel, x, h⟩ := h
  cases fuel with
  | zero => simp [DataW.trod] at h
  | succ fuel =>
    simp only [DataW.trod, hu] at h
    split at h <;> first
      | exact .inl rfl
      | (rename_i e' a len cap heq
         cases heq
         split at h
         · rename_i hc
           right
           refine ⟨a, len, cap, rfl, hc.2.1, hc.2.2, fun i hi => ?_⟩
           obtain ⟨elems, hm, _⟩ := Option.bind_eq_some_iff.1 h
           obtain ⟨b, _, hb⟩ := Lib.mapM_at hm i i (by simp [hi])
           obtain ⟨c, hc1, hc2⟩ := Option.bind_eq_some_iff.1 hb
           exact ⟨c, hc1, fuel, b, hc2⟩
         · cases h)
      | simp_all
end

/-- Cells at an address, one by one. -/
theorem cells_at {W : World} {base : Nat} {a : Addr} {n : Nat} {c : List Value} (h : W.cells? base a n = some c) : c.length = n ∧ ∀ i u, c[i]? = some u → W.cell? (a.add i) = some u := by
  unfold World.cells? at h
  split at h
  · have hl := Lib.mapM_length h
    rw [List.length_range] at hl
    refine ⟨hl, fun i u hu => ?_⟩
    have hi : i < n := by
      rcases Nat.lt_or_ge i c.length with h1 | h1
      · omega
      · simp [List.getElem?_eq_none h1] at hu
    obtain ⟨b, hb, hc⟩ := Lib.mapM_at h i i (by simp [hi])
    rw [hu] at hb
    cases hb
    exact hc
  · cases h

theorem list_of {α : Type} {Q : Nat → α → Prop} : ∀ n, (∀ i, i < n → ∃ y, Q i y) → ∃ l : List α, l.length = n ∧ ∀ i y, l[i]? = some y → Q i y
  | 0, _ => ⟨[], rfl, fun i y h => by simp at h⟩
  | n + 1, h => by
    obtain ⟨l, hl, hq⟩ := list_of n fun i hi => h i (by omega)
    obtain ⟨y, hy⟩ := h n (by omega)
    refine ⟨l ++ [y], by simp [hl], fun i z hz => ?_⟩
    rcases Nat.lt_or_ge i n with hi | hi
    · rw [List.getElem?_append_left (by omega)] at hz
      exact hq i z hz
    · rw [List.getElem?_append_right (by omega)] at hz
      have hi0 : i - l.length = 0 := by
        rcases Nat.eq_zero_or_pos (i - l.length) with h0 | h0
        · exact h0
        · rw [List.getElem?_eq_none (by simp; omega)] at hz; cases hz
      rw [hi0] at hz
      cases hz
      have : i = n := by omega
      subst this; exact hy

/-- A slice that reads holds a list of what its elements hold. -/
theorem row_of {α : Type} {H : Type} {enc : TypeId × Value → H} {P : Program} {W : World} {base : Nat} {sp : Nat → Bool} {hd : Bool} {t e : TypeId} {cs : List Value} (d : Kd α) (hu : P.underlying t = some (.slice e)) (hsz : P.cellsOf e = d.sz)
    (hel : ∀ c, Rd enc P W base sp hd e c → ∃ x, d.K W x c) (h : Rd enc P W base sp hd t cs) : ∃ A n, ∃ l : List α, cs = [.slice A l.length n] ∧ l.length ≤ n ∧ d.C W A l.length l := by
  rcases rd_slice hu h with rfl | ⟨a, len, cap, rfl, h1, h2, h3⟩
  · exact ⟨none, 0, [], rfl, Nat.le_refl _, rfl, by simp, fun h => absurd h (Nat.lt_irrefl _)⟩
  · obtain ⟨l, hl, hq⟩ := list_of (Q := fun i y => ∃ c : List Value, c.length = d.sz ∧ d.K W y c ∧ ∀ j u, c[j]? = some u → W.cell? (a.add (i * d.sz + j)) = some u) len (by
      intro i hi
      obtain ⟨c, hc1, hc2⟩ := h3 i hi
      obtain ⟨y, hy⟩ := hel c hc2
      obtain ⟨hl, hcell⟩ := cells_at hc1
      refine ⟨y, c, by rw [hl, hsz], hy, fun j u hu => ?_⟩
      have := hcell j u hu
      rwa [hsz, add_add] at this)
    refine ⟨some a, cap, l, by rw [hl], by omega, ?_⟩
    exact ⟨rfl, by rw [hl]; unfold maxLen at h2; omega, fun _ => ⟨a, rfl, hq⟩⟩

/-! ### sets and verdicts -/
section
variable {H : Type} {enc : TypeId × Value → H} {W : World} {base : Nat} {sp : Nat → Bool} {hd : Bool}
theorem u3 : Try.prog.underlying 3 = some (.int .i64) := by kernel_rfl
theorem u9 : Try.prog.underlying 9 = some .string := by kernel_rfl
theorem u32 : Try.prog.underlying 32 = some (.slice 9) := by kernel_rfl
theorem u35 : Try.prog.underlying 35 = some (.slice 34) := by kernel_rfl
theorem c3 : Try.prog.cellsOf 3 = 1 := by kernel_rfl
theorem c9 : Try.prog.cellsOf 9 = 1 := by kernel_rfl
theorem c32 : Try.prog.cellsOf 32 = 1 := by kernel_rfl
theorem c35 : Try.prog.cellsOf 35 = 1 := by kernel_rfl
theorem c34 : Try.prog.cellsOf 34 = 5 := by kernel_rfl
theorem c37 : Try.prog.cellsOf 37 = 12 := by kernel_rfl

theorem texts_of {cs : List Value} (h : Rd enc Try.prog W base sp hd 32 cs) : ∃ A n, ∃ l : List ByteArray, cs = [.slice A l.length n] ∧ l.length ≤ n ∧ Kd.string.C W A l.length l :=
  row_of Kd.string u32 c9 (fun c hc => by obtain ⟨s, rfl⟩ := rd_string u9 hc; exact ⟨s, rfl⟩) h

set_option maxRecDepth 100000 in
theorem set_of {cs : List Value} (h : Rd enc Try.prog W base sp hd 34 cs) : ∃ s i j k A n, ∃ l : List ByteArray, cs = [.string s, .int .i64 i, .int .i64 j, .int .i64 k, .slice A l.length n] ∧ l.length ≤ n ∧ Kd.string.C W A l.length l := by
  obtain ⟨hl, hf⟩ := rd_fields Try.underlying34 h
  rw [c34] at hl
  have f0 := hf 0 _ rfl
  have f1 := hf 1 _ rfl
  have f2 := hf 2 _ rfl
  have f3 := hf 3 _ rfl
  have f4 := hf 4 _ rfl
  simp only [c3, c9, c32] at f0 f1 f2 f3 f4
  obtain ⟨s, e0⟩ := rd_string u9 f0
  obtain ⟨i, e1⟩ := rd_int u3 f1
  obtain ⟨j, e2⟩ := rd_int u3 f2
  obtain ⟨k, e3⟩ := rd_int u3 f3
  obtain ⟨A, n, l, e4, h1, h2⟩ := texts_of f4
  refine ⟨s, i, j, k, A, n, l, ?_, h1, h2⟩
  match cs, hl with
  | [x0, x1, x2, x3, x4], _ =>
    simp at e0 e1 e2 e3 e4
    rw [e0, e1, e2, e3, e4]

theorem sets_of {cs : List Value} (h : Rd enc Try.prog W base sp hd 35 cs) : ∃ A n, ∃ l : List S34, cs = [.slice A l.length n] ∧ l.length ≤ n ∧ Kd.C k34 W A l.length l :=
  row_of k34 u35 c34 (fun c hc => by
    obtain ⟨s, i, j, k, A, n, l, rfl, h1, h2⟩ := set_of hc
    exact ⟨⟨s, i, j, k, l⟩, k34_mk W ⟨s, i, j, k, l⟩ h1 h2⟩) h

theorem sets_fit {W : World} {A : Option Addr} {n : Nat} {l : List S34} (h : Kd.C k34 W A n l) : ∀ x ∈ l, x.f4.length ≤ 9223372036854775807 := by
  intro x hx
  obtain ⟨i, hi⟩ := List.mem_iff_getElem?.1 hx
  have hn : 0 < n := by
    have := h.1
    rcases Nat.lt_or_ge i l.length with h1 | h1
    · omega
    · simp [List.getElem?_eq_none h1] at hi
  obtain ⟨ad, _, hq⟩ := h.2.2 hn
  obtain ⟨c, _, hK, _⟩ := hq i x hi
  obtain ⟨A4, c4, _, _, h4⟩ := k34_open hK
  exact h4.2.1

/-- A set that reads: BigSet returns a bool. -/
theorem bigSet_any {cs : List Value} (h : Rd enc Try.prog W base sp hd 34 cs) (x1 : Int) (w : World) (hb : Below W.heap.size W w) : Calls Try.prog 48 #[.agg cs.toArray, .int .i64 x1] w fun e w' => ∃ r, e = .returned (.bool r) ∧ Below w.heap.size w w' := by
  obtain ⟨s, i, j, k, A, n, l, rfl, h1, h2⟩ := set_of h
  have h2' := Kd.C_below h2 hb
  obtain ⟨r, hr⟩ := bigSet_f x1 s i j k l h2.2.1 (Nat.lt_succ_self _)
  exact (ostiarykit_BigSet.calls _ s i j k A n l x1 r w h2' h1 hr).mono fun e w' hh => ⟨r, hh⟩

set_option maxRecDepth 100000 in
/-- A verdict that reads: BigVerdict returns a bool. -/
theorem bigVerdict_any {cs : List Value} (h : Rd enc Try.prog W base sp hd 37 cs) (x1 : Int) (w : World) (hb : Below W.heap.size W w) : Calls Try.prog 47 #[.agg cs.toArray, .int .i64 x1] w fun e w' => ∃ r, e = .returned (.bool r) ∧ Below w.heap.size w w' := by
  obtain ⟨hl, hf⟩ := rd_fields Try.underlying37 h
  rw [c37] at hl
  have f0 := hf 0 _ rfl
  have f1 := hf 1 _ rfl
  have f2 := hf 2 _ rfl
  have f3 := hf 3 _ rfl
  have f4 := hf 4 _ rfl
  have f5 := hf 5 _ rfl
  have f6 := hf 6 _ rfl
  have f7 := hf 7 _ rfl
  simp only [c3, c9, c35, c34] at f0 f1 f2 f3 f4 f5 f6 f7
  obtain ⟨a0, e0⟩ := rd_int u3 f0
  obtain ⟨A1, n1, l1, e1, m1, k1⟩ := sets_of f1
  obtain ⟨s2, e2⟩ := rd_string u9 f2
  obtain ⟨A3, n3, l3, e3, m3, k3⟩ := sets_of f3
  obtain ⟨s4, e4⟩ := rd_string u9 f4
  obtain ⟨s5, i6, i7, i8, A9, n9, l9, e5, m9, k9⟩ := set_of f5
  obtain ⟨A10, n10, l10, e6, m10, k10⟩ := sets_of f6
  obtain ⟨i11, e7⟩ := rd_int u3 f7
  match cs, hl with
  | [x0, x1', x2, x3, x4, x5, x6, x7, x8, x9, x10, x11], _ =>
    simp at e0 e1 e2 e3 e4 e5 e6 e7
    obtain ⟨e50, e51, e52, e53, e54⟩ := e5
    rw [e0, e1, e2, e3, e4, e50, e51, e52, e53, e54, e6, e7]
    obtain ⟨k, r, hr⟩ := verdict_f x1 a0 l1 s2 l3 s4 s5 i6 i7 i8 l9 l10 i11 k1.2.1 (sets_fit k1) k3.2.1 (sets_fit k3) k9.2.1
    exact (ostiarykit_BigVerdict.calls k a0 A1 n1 l1 s2 A3 n3 l3 s4 s5 i6 i7 i8 A9 n9 l9 A10 n10 l10 i11 x1 r w (Kd.C_below k1 hb) m1 (Kd.C_below k3 hb) m3 (Kd.C_below k9 hb) m9 (Kd.C_below k10 hb) m10 hr).mono fun e w' hh => ⟨r, hh⟩
end
end Go.Proofs.Ytbiaiionecpdgaa.big
