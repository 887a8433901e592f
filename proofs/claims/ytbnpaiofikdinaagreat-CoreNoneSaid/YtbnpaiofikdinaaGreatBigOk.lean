/-
  The guard of the laws on the core: of any message that can be read as data, BigMessage returns a bool, and turns nothing.
-/
import Derived.Test.YtbnpaiofikdinaaGreatBig
import Derived.Lib.LaidTab
import Derived.ChangeShapes
set_option linter.unusedVariables false
set_option linter.unusedSimpArgs false
namespace Go.Proofs.YtbnpaiofikdinaaGreat.big
open Go.RowKit Go.ChangeShapes Go.Proofs.YtbnpaiofikdinaaGreatW.PrintWords Go.Proofs.YtbnpaiofikdinaaGreatW.PrintLast Go.Proofs.YtbnpaiofikdinaaGreatW.PrintMore Go.Proofs.YtbnpaiofikdinaaGreat.PCoreNone

/-! ### they end -/
theorem bigRecs_ends (x1 : Int) (l : List S36) (hl : l.length ≤ 9223372036854775807) : ∀ (d i k : Nat), i + d = l.length → d < k → ∃ r, ostiarykit_BigRecs.l0 k l x1 (i : Int) = some r := by
  intro d
  induction d with
  | zero =>
    intro i k hi hk
    obtain ⟨k, rfl⟩ : ∃ m, k = m + 1 := ⟨k - 1, by omega⟩
    simp only [ostiarykit_BigRecs.l0]
    rw [if_neg (by omega)]
    exact ⟨_, rfl⟩
  | succ d ih =>
    intro i k hi hk
    obtain ⟨k, rfl⟩ : ∃ m, k = m + 1 := ⟨k - 1, by omega⟩
    simp only [ostiarykit_BigRecs.l0]
    rw [if_pos (by omega), if_pos (by omega)]
    split
    · exact ⟨_, rfl⟩
    · split
      · exact ⟨_, rfl⟩
      · have hw : wrap64 ((i : Int) + 1) = ((i + 1 : Nat) : Int) := by unfold wrap64; omega
        rw [hw]
        exact ih (i + 1) k (by omega) (by omega)

theorem bigRecs_f (x1 : Int) (l : List S36) (hl : l.length ≤ 9223372036854775807) {k : Nat} (hk : l.length < k) : ∃ r, ostiarykit_BigRecs.f k l x1 = some r :=
  bigRecs_ends x1 l hl l.length 0 k (by omega) hk

theorem message_l0 (x2 a0 a1 : Int) (l2 : List S47) (l3 l4 l5 : List S36) (h2 : l2.length ≤ 9223372036854775807) (h3 : l3.length ≤ 9223372036854775807) (h4 : l4.length ≤ 9223372036854775807) (h5 : l5.length ≤ 9223372036854775807) :
    ∀ (d i k : Nat), i + d = l2.length → d + l3.length + l4.length + l5.length + 1 < k → ∃ r, ostiarykit_BigMessage.l0 k x2 (i : Int) a0 a1 l2 l3 l4 l5 = some r := by
  intro d
  induction d with
  | zero =>
    intro i k hi hk
    obtain ⟨k, rfl⟩ : ∃ m, k = m + 1 := ⟨k - 1, by omega⟩
    simp only [ostiarykit_BigMessage.l0]
    rw [if_neg (by omega)]
    obtain ⟨r3, e3⟩ := bigRecs_f x2 l3 h3 (k := k) (by omega)
    obtain ⟨r4, e4⟩ := bigRecs_f x2 l4 h4 (k := k) (by omega)
    obtain ⟨r5, e5⟩ := bigRecs_f x2 l5 h5 (k := k) (by omega)
    rw [e3, e4, e5]
    simp only [Option.bind_some]
    (repeat' split) <;> exact ⟨_, rfl⟩
  | succ d ih =>
    intro i k hi hk
    obtain ⟨k, rfl⟩ : ∃ m, k = m + 1 := ⟨k - 1, by omega⟩
    simp only [ostiarykit_BigMessage.l0]
    rw [if_pos (by omega), if_pos (by omega)]
    split
    · exact ⟨_, rfl⟩
    · have hw : wrap64 ((i : Int) + 1) = ((i + 1 : Nat) : Int) := by unfold wrap64; omega
      rw [hw]
      exact ih (i + 1) k (by omega) (by omega)

theorem message_f (x1 x2 a0 a1 : Int) (l2 : List S47) (l3 l4 l5 : List S36) (h2 : l2.length ≤ 9223372036854775807) (h3 : l3.length ≤ 9223372036854775807) (h4 : l4.length ≤ 9223372036854775807) (h5 : l5.length ≤ 9223372036854775807) :
    ∃ k r, ostiarykit_BigMessage.f k a0 a1 l2 l3 l4 l5 x1 x2 = some r := by
  refine ⟨l2.length + l3.length + l4.length + l5.length + 2, ?_⟩
  unfold ostiarykit_BigMessage.f
  split
  · exact ⟨_, rfl⟩
  · exact message_l0 x2 a0 a1 l2 l3 l4 l5 h2 h3 h4 h5 l2.length 0 _ (by omega) (by omega)

/-! ### what can be read -/
section
variable {H : Type} {enc : TypeId × Value → H} {P : Program} {W : World} {base : Nat} {sp : Nat → Bool} {hd : Bool}
/-- Cells that read as some datum of a type. -/
def Rd (enc : TypeId × Value → H) (P : Program) (W : World) (base : Nat) (sp : Nat → Bool) (hd : Bool) (t : TypeId) (cs : List Value) : Prop := ∃ fuel x, DataW.trod enc P W base sp hd fuel t cs = some x

theorem rd_string {t : TypeId} {cs : List Value} (hu : P.underlying t = some .string) (h : Rd enc P W base sp hd t cs) : ∃ s, cs = [.string s] := by
  obtain ⟨fuel, x, h⟩ := h
  cases fuel with
  | zero => simp [DataW.trod] at h
  | succ fuel =>
    simp only [DataW.trod, hu] at h
    split at h <;> first | exact ⟨_, rfl⟩ | simp_all
theorem rd_int {t : TypeId} {k : IntKind} {cs : List Value} (hu : P.underlying t = some (.int k)) (h : Rd enc P W base sp hd t cs) : ∃ n, cs = [.int k n] := by
  obtain ⟨fuel, x, h⟩ := h
  cases fuel with
  | zero => simp [DataW.trod] at h
  | succ fuel =>
    simp only [DataW.trod, hu] at h
    split at h <;> first
      | (split at h
         · rename_i hk; exact ⟨_, by rw [hk.1]⟩
         · cases h)
      | simp_all
theorem rd_fields {t : TypeId} {fs : Array Field} {cs : List Value} (hu : P.underlying t = some (.struct fs)) (h : Rd enc P W base sp hd t cs) : cs.length = P.cellsOf t ∧ ∀ (i : Nat) f, fs.toList[i]? = some f → Rd enc P W base sp hd f.type ((cs.drop f.offset).take (P.cellsOf f.type)) := by
  obtain ⟨fuel, x, h⟩ := h
  cases fuel with
  | zero => simp [DataW.trod] at h
  | succ fuel =>
    simp only [DataW.trod, hu] at h
    split at h
    · rename_i hl
      refine ⟨hl, fun i f hf => ?_⟩
      obtain ⟨xs, hm, _⟩ := Option.map_eq_some_iff.1 h
      obtain ⟨b, _, hb⟩ := Lib.mapM_at hm i f hf
      exact ⟨fuel, b, hb⟩
    · cases h
theorem rd_slice {t e : TypeId} {cs : List Value} (hu : P.underlying t = some (.slice e)) (h : Rd enc P W base sp hd t cs) : cs = [.slice none 0 0] ∨ ∃ a len cap, cs = [.slice (some a) len cap] ∧ len ≤ cap ∧ cap ≤ maxLen ∧
    ∀ i, i < len → ∃ c, W.cells? base (a.add (i * P.cellsOf e)) (P.cellsOf e) = some c ∧ Rd enc P W base sp hd e c := by
  obtain ⟨fuel, x, h⟩ := h
  cases fuel with
  | zero => simp [DataW.trod] at h
  | succ fuel =>
    simp only [DataW.trod, hu] at h
    split at h <;> first
      | exact .inl rfl
      | (rename_i e' a len cap heq
         cases heq
         split at h
         · rename_i hc
           right
           refine ⟨a, len, cap, rfl, hc.2.1, hc.2.2, fun i hi => ?_⟩
           obtain ⟨elems, hm, _⟩ := Option.bind_eq_some_iff.1 h
           obtain ⟨b, _, hb⟩ := Lib.mapM_at hm i i (by simp [hi])
           obtain ⟨c, hc1, hc2⟩ := Option.bind_eq_some_iff.1 hb
           exact ⟨c, hc1, fuel, b, hc2⟩
         · cases h)
      | simp_all
end

/-- Cells at an address, one by one. -/
theorem cells_at {W : World} {base : Nat} {a : Addr} {n : Nat} {c : List Value} (h : W.cells? base a n = some c) : c.length = n ∧ ∀ i u, c[i]? = some u → W.cell? (a.add i) = some u := by
  unfold World.cells? at h
  split at h
  · have hl := Lib.mapM_length h
    rw [List.length_range] at hl
    refine ⟨hl, fun i u hu => ?_⟩
    have hi : i < n := by
      rcases Nat.lt_or_ge i c.length with h1 | h1
      · omega
      · simp [List.getElem?_eq_none h1] at hu
    obtain ⟨b, hb, hc⟩ := Lib.mapM_at h i i (by simp [hi])
    rw [hu] at hb
    cases hb
    exact hc
  · cases h

theorem list_of {α : Type} {Q : Nat → α → Prop} : ∀ n, (∀ i, i < n → ∃ y, Q i y) → ∃ l : List α, l.length = n ∧ ∀ i y, l[i]? = some y → Q i y
  | 0, _ => ⟨[], rfl, fun i y h => by simp at h⟩
  | n + 1, h => by
    obtain ⟨l, hl, hq⟩ := list_of n fun i hi => h i (by omega)
    obtain ⟨y, hy⟩ := h n (by omega)
    refine ⟨l ++ [y], by simp [hl], fun i z hz => ?_⟩
    rcases Nat.lt_or_ge i n with hi | hi
    · rw [List.getElem?_append_left (by omega)] at hz
      exact hq i z hz
    · rw [List.getElem?_append_right (by omega)] at hz
      have hi0 : i - l.length = 0 := by
        rcases Nat.eq_zero_or_pos (i - l.length) with h0 | h0
        · exact h0
        · rw [List.getElem?_eq_none (by simp; omega)] at hz; cases hz
      rw [hi0] at hz
      cases hz
      have : i = n := by omega
      subst this; exact hy

/-- A slice that reads holds a list of what its elements hold. -/
theorem row_of {α : Type} {H : Type} {enc : TypeId × Value → H} {P : Program} {W : World} {base : Nat} {sp : Nat → Bool} {hd : Bool} {t e : TypeId} {cs : List Value} (d : Kd α) (hu : P.underlying t = some (.slice e)) (hsz : P.cellsOf e = d.sz)
    (hel : ∀ c, Rd enc P W base sp hd e c → ∃ x, d.K W x c) (h : Rd enc P W base sp hd t cs) : ∃ A n, ∃ l : List α, cs = [.slice A l.length n] ∧ l.length ≤ n ∧ d.C W A l.length l := by
  rcases rd_slice hu h with rfl | ⟨a, len, cap, rfl, h1, h2, h3⟩
  · exact ⟨none, 0, [], rfl, Nat.le_refl _, rfl, by simp, fun h => absurd h (Nat.lt_irrefl _)⟩
  · obtain ⟨l, hl, hq⟩ := list_of (Q := fun i y => ∃ c : List Value, c.length = d.sz ∧ d.K W y c ∧ ∀ j u, c[j]? = some u → W.cell? (a.add (i * d.sz + j)) = some u) len (by
      intro i hi
      obtain ⟨c, hc1, hc2⟩ := h3 i hi
      obtain ⟨y, hy⟩ := hel c hc2
      obtain ⟨hl, hcell⟩ := cells_at hc1
      refine ⟨y, c, by rw [hl, hsz], hy, fun j u hu => ?_⟩
      have := hcell j u hu
      rwa [hsz, add_add] at this)
    refine ⟨some a, cap, l, by rw [hl], by omega, ?_⟩
    exact ⟨rfl, by rw [hl]; unfold maxLen at h2; omega, fun _ => ⟨a, rfl, hq⟩⟩

/-! ### messages -/
section
variable {H : Type} {enc : TypeId × Value → H} {W : World} {base : Nat} {sp : Nat → Bool} {hd : Bool}
theorem u3 : Tryz.prog.underlying 3 = some (.int .i64) := by kernel_rfl
theorem u9 : Tryz.prog.underlying 9 = some .string := by kernel_rfl
theorem u38 : Tryz.prog.underlying 38 = some (.slice 36) := by kernel_rfl
theorem u39 : Tryz.prog.underlying 39 = some (.slice 47) := by kernel_rfl
theorem c3 : Tryz.prog.cellsOf 3 = 1 := by kernel_rfl
theorem c9 : Tryz.prog.cellsOf 9 = 1 := by kernel_rfl
theorem c38 : Tryz.prog.cellsOf 38 = 1 := by kernel_rfl
theorem c39 : Tryz.prog.cellsOf 39 = 1 := by kernel_rfl
theorem c36 : Tryz.prog.cellsOf 36 = 5 := by kernel_rfl
theorem c47 : Tryz.prog.cellsOf 47 = 3 := by kernel_rfl
theorem c41 : Tryz.prog.cellsOf 41 = 6 := by kernel_rfl

set_option maxRecDepth 100000 in
theorem rec_of {cs : List Value} (h : Rd enc Tryz.prog W base sp hd 36 cs) : ∃ s i j k t, cs = [.string s, .int .i64 i, .int .i64 j, .int .i64 k, .string t] := by
  obtain ⟨hl, hf⟩ := rd_fields Tryz.underlying36 h
  rw [c36] at hl
  have f0 := hf 0 _ rfl
  have f1 := hf 1 _ rfl
  have f2 := hf 2 _ rfl
  have f3 := hf 3 _ rfl
  have f4 := hf 4 _ rfl
  simp only [c3, c9] at f0 f1 f2 f3 f4
  obtain ⟨s, e0⟩ := rd_string u9 f0
  obtain ⟨i, e1⟩ := rd_int u3 f1
  obtain ⟨j, e2⟩ := rd_int u3 f2
  obtain ⟨k, e3⟩ := rd_int u3 f3
  obtain ⟨t, e4⟩ := rd_string u9 f4
  refine ⟨s, i, j, k, t, ?_⟩
  match cs, hl with
  | [x0, x1, x2, x3, x4], _ =>
    simp at e0 e1 e2 e3 e4
    rw [e0, e1, e2, e3, e4]

set_option maxRecDepth 100000 in
theorem question_of {cs : List Value} (h : Rd enc Tryz.prog W base sp hd 47 cs) : ∃ s i j, cs = [.string s, .int .i64 i, .int .i64 j] := by
  obtain ⟨hl, hf⟩ := rd_fields Tryz.underlying47 h
  rw [c47] at hl
  have f0 := hf 0 _ rfl
  have f1 := hf 1 _ rfl
  have f2 := hf 2 _ rfl
  simp only [c3, c9] at f0 f1 f2
  obtain ⟨s, e0⟩ := rd_string u9 f0
  obtain ⟨i, e1⟩ := rd_int u3 f1
  obtain ⟨j, e2⟩ := rd_int u3 f2
  refine ⟨s, i, j, ?_⟩
  match cs, hl with
  | [x0, x1, x2], _ =>
    simp at e0 e1 e2
    rw [e0, e1, e2]

theorem recs_of {cs : List Value} (h : Rd enc Tryz.prog W base sp hd 38 cs) : ∃ A n, ∃ l : List S36, cs = [.slice A l.length n] ∧ l.length ≤ n ∧ Kd.C k36 W A l.length l :=
  row_of k36 u38 c36 (fun c hc => by
    obtain ⟨s, i, j, k, t, rfl⟩ := rec_of hc
    exact ⟨⟨s, i, j, k, t⟩, k36_mk W ⟨s, i, j, k, t⟩⟩) h
theorem questions_of {cs : List Value} (h : Rd enc Tryz.prog W base sp hd 39 cs) : ∃ A n, ∃ l : List S47, cs = [.slice A l.length n] ∧ l.length ≤ n ∧ Kd.C k47 W A l.length l :=
  row_of k47 u39 c47 (fun c hc => by
    obtain ⟨s, i, j, rfl⟩ := question_of hc
    exact ⟨⟨s, i, j⟩, k47_mk W ⟨s, i, j⟩⟩) h

set_option maxRecDepth 100000 in
/-- A message that reads: BigMessage returns a bool. -/
theorem bigMessage_any {cs : List Value} (h : Rd enc Tryz.prog W base sp hd 41 cs) (x1 x2 : Int) (w : World) (hb : Below W.heap.size W w) : Calls Tryz.prog 47 #[.agg cs.toArray, .int .i64 x1, .int .i64 x2] w fun e w' => ∃ r, e = .returned (.bool r) ∧ Below w.heap.size w w' := by
  obtain ⟨hl, hf⟩ := rd_fields Tryz.underlying41 h
  rw [c41] at hl
  have f0 := hf 0 _ rfl
  have f1 := hf 1 _ rfl
  have f2 := hf 2 _ rfl
  have f3 := hf 3 _ rfl
  have f4 := hf 4 _ rfl
  have f5 := hf 5 _ rfl
  simp only [c3, c38, c39] at f0 f1 f2 f3 f4 f5
  obtain ⟨a0, e0⟩ := rd_int u3 f0
  obtain ⟨a1, e1⟩ := rd_int u3 f1
  obtain ⟨A2, n2, l2, e2, m2, k2⟩ := questions_of f2
  obtain ⟨A3, n3, l3, e3, m3, k3⟩ := recs_of f3
  obtain ⟨A4, n4, l4, e4, m4, k4⟩ := recs_of f4
  obtain ⟨A5, n5, l5, e5, m5, k5⟩ := recs_of f5
  match cs, hl with
  | [y0, y1, y2, y3, y4, y5], _ =>
    simp at e0 e1 e2 e3 e4 e5
    rw [e0, e1, e2, e3, e4, e5]
    obtain ⟨k, r, hr⟩ := message_f x1 x2 a0 a1 l2 l3 l4 l5 k2.2.1 k3.2.1 k4.2.1 k5.2.1
    exact (ostiarykit_BigMessage.calls k a0 a1 A2 n2 l2 A3 n3 l3 A4 n4 l4 A5 n5 l5 x1 x2 r w (Kd.C_below k2 hb) m2 (Kd.C_below k3 hb) m3 (Kd.C_below k4 hb) m4 (Kd.C_below k5 hb) m5 hr).mono fun e w' hh => ⟨r, hh⟩
end
end Go.Proofs.YtbnpaiofikdinaaGreat.big
