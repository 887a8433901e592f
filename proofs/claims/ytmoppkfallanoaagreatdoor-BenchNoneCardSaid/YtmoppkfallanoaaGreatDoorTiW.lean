/-
  The witness of the rows that list variables: each listed datum is laid, the type of the errors found by its name once.
-/
import Derived.Test.YtmoppkfallanoaaGreatDoorRows
import Derived.KernelRfl
import Derived.Lay
import Derived.LaidLaws
set_option linter.unusedVariables false
set_option maxRecDepth 100000
namespace Go.Sh
/-- No type but the one numbered e is named b; none is named a star and b. -/
def nameless (b : String) (m e : Nat) : Nat → List TypeInfo → Bool
  | _, [] => true
  | k, i :: r =>
    (match i.desc with
     | .named n _ => n != "*" ++ b && (k == e || n != b)
     | .bool | .int _ | .float _ | .string => i.str != "*" ++ b && (k == e || i.str != b)
     | .pointer x => decide (x < m)
     | _ => true) && nameless b m e (k + 1) r
/-- The first pointer to the type numbered e. -/
def firstPtr (e : Nat) : Nat → List TypeInfo → Option Nat
  | _, [] => none
  | k, i :: r =>
    match i.desc with
    | .pointer x => if x = e then some k else firstPtr e (k + 1) r
    | _ => firstPtr e (k + 1) r

theorem star_inj {a b : String} (h : "*" ++ a = "*" ++ b) : a = b := by
  have h2 := congrArg String.toList h
  rw [String.toList_append, String.toList_append] at h2
  exact String.toList_inj.1 (List.append_cancel_left h2)

theorem strOf {s x : String} (h : (if s.isEmpty = true then (none : Option String) else some s) = some x) : s = x := by
  split at h
  · cases h
  · simpa using h

theorem nameless_at {b : String} {m e : Nat} : ∀ (l : List TypeInfo) (k j : Nat) (i : TypeInfo), nameless b m e k l = true → l[j]? = some i →
    (match i.desc with
     | .named n _ => n != "*" ++ b && (k + j == e || n != b)
     | .bool | .int _ | .float _ | .string => i.str != "*" ++ b && (k + j == e || i.str != b)
     | .pointer x => decide (x < m)
     | _ => true) = true
  | [], _, _, _, _, h => by simp at h
  | x :: l, k, 0, i, h, hi => by
    simp only [nameless, Bool.and_eq_true] at h
    simp only [List.getElem?_cons_zero, Option.some.injEq] at hi
    subst hi
    exact h.1
  | x :: l, k, j + 1, i, h, hi => by
    simp only [nameless, Bool.and_eq_true] at h
    have := nameless_at l (k + 1) j i h.2 (by simpa using hi)
    rw [show k + (j + 1) = k + 1 + j by omega]
    exact this

theorem firstPtr_lt {e : Nat} : ∀ (l : List TypeInfo) (k u : Nat), firstPtr e k l = some u → k ≤ u
  | [], _, _, h => by cases h
  | i :: r, k, u, h => by
    simp only [firstPtr] at h
    split at h
    · split at h
      · cases h; exact Nat.le_refl _
      · have := firstPtr_lt r _ _ h; omega
    · have := firstPtr_lt r _ _ h; omega
theorem firstPtr_none {e : Nat} : ∀ (l : List TypeInfo) (k u j : Nat) (i : TypeInfo), firstPtr e k l = some u → k + j < u → l[j]? = some i → i.desc ≠ .pointer e
  | [], _, _, _, _, _, _, h => by simp at h
  | x :: l, k, u, 0, i, h, hlt, hi => by
    simp only [List.getElem?_cons_zero, Option.some.injEq] at hi
    subst hi
    intro hd
    simp only [firstPtr, hd, if_true, Option.some.injEq] at h
    omega
  | x :: l, k, u, j + 1, i, h, hlt, hi => by
    have hi' : l[j]? = some i := by simpa using hi
    simp only [firstPtr] at h
    split at h
    · split at h
      · cases h; omega
      · exact firstPtr_none l (k + 1) u j i h (by omega) hi'
    · exact firstPtr_none l (k + 1) u j i h (by omega) hi'

/-- Has a star no place at a text's head? -/
def noStar (b : String) : Bool := b.toList.head? != "*".toList.head?

theorem noStar_sound {b x : String} (h : noStar b = true) : "*" ++ x ≠ b := by
  rintro rfl
  unfold noStar at h
  rw [String.toList_append] at h
  simp at h

theorem name_ne {P : Program} {b : String} {e u : Nat} (hb : noStar b = true) (h1 : nameless b P.types.size e 0 P.types.toList = true) (hu : u < P.types.size) {i : TypeInfo} (hi : P.info? u = some i) (h2 : i.desc ≠ .pointer e) : P.typeName? 3 u ≠ some ("*" ++ b) := by
  intro h
  have info : ∀ {v j}, v < P.types.size → P.info? v = some j → P.types.toList[v]? = some j := fun {v j} hl hv => by
    rw [Array.getElem?_toList]
    unfold Tables.info? at hv
    rw [if_pos hl] at hv
    exact hv
  have at1 := nameless_at _ 0 u i h1 (info hu hi)
  unfold Program.typeName? at h
  rw [hi] at h
  simp only at h
  split at h
  · rename_i n _ hd
    rw [hd] at at1
    split at h
    · simp only [Option.some.injEq] at h
      subst h
      simp at at1
    · cases h
  · rename_i x hd
    rw [hd] at at1
    have hxl : x < P.types.size := of_decide_eq_true at1
    rw [Option.map_eq_some_iff] at h
    obtain ⟨y, hx, hs⟩ := h
    have hy := star_inj hs
    subst hy
    unfold Program.typeName? at hx
    split at hx
    · rename_i j hj
      have at2 := nameless_at _ 0 x j h1 (info hxl hj)
      have hxe : (0 + x == e) = false := by
        rw [beq_eq_false_iff_ne]
        intro hh
        apply h2
        rw [hd, ← hh, Nat.zero_add]
      split at hx
      · rename_i n _ hd2
        rw [hd2] at at2
        split at hx
        · simp only [Option.some.injEq] at hx
          subst hx
          simp only [hxe, Bool.false_or, Bool.and_eq_true] at at2
          simp at at2
        · cases hx
      · rw [Option.map_eq_some_iff] at hx
        obtain ⟨z, _, hz⟩ := hx
        exact noStar_sound hb hz
      all_goals (first | (rename_i hd2; rw [hd2] at at2; have e2 := strOf hx; subst e2; simp only [hxe, Bool.false_or, Bool.and_eq_true] at at2; simp at at2; done) | cases hx)
    · cases hx
  all_goals (first | (rename_i hd; rw [hd] at at1; have e2 := strOf h; rw [e2] at at1; simp at at1; done) | cases h)

theorem find_first {p : Nat → Bool} : ∀ (n u : Nat), u < n → p u = true → (∀ j, j < u → p j = false) → (List.range n).find? p = some u := by
  intro n u hlt hu hl
  rw [List.find?_eq_some_iff_append]
  refine ⟨hu, List.range u, (List.range' (u + 1) (n - u - 1)), ?_, fun a ha => by rw [hl a (List.mem_range.1 ha)]; rfl⟩
  apply List.ext_getElem
  · rw [List.length_append, List.length_cons, List.length_range, List.length_range, List.length_range']; omega
  · intro i h1 h2
    rw [List.length_range] at h1
    rw [List.getElem_append]
    split
    · simp
    · rename_i hh
      rw [List.length_range] at hh
      rw [List.getElem_cons]
      split
      · rename_i h3
        rw [List.length_range] at h3
        rw [List.getElem_range]; omega
      · rename_i h3
        rw [List.getElem_range, List.getElem_range', List.length_range]
        rw [List.length_range] at h3
        omega

/-- The number of the type that is named a star and b. -/
theorem find_name {P : Program} {b nm : String} {e u : Nat} (hn : nm = "*" ++ b) (hb : noStar b = true) (h1 : nameless b P.types.size e 0 P.types.toList = true) (h2 : firstPtr e 0 P.types.toList = some u)
    (hu : (P.typeName? 3 u == some nm) = true) (hlt : u < P.types.size) : (List.range P.types.size).find? (fun u => P.typeName? 3 u == some nm) = some u := by
  subst hn
  refine find_first _ u hlt hu fun j hj => ?_
  rw [beq_eq_false_iff_ne]
  have hlt' : j < P.types.size := by omega
  have hg : P.types[j]? = some (P.types[j]) := Array.getElem?_eq_getElem hlt'
  have hi : P.info? j = some (P.types[j]) := by unfold Tables.info?; rw [if_pos hlt']; exact hg
  exact name_ne hb h1 hlt' hi (firstPtr_none _ 0 u j _ h2 (by omega) (by rw [Array.getElem?_toList]; exact hg))
end Go.Sh
namespace Go.Sh
theorem lay_iface {P : Program} {t n u : Nat} {m : _} {name : String} {d : DataW Unit} (ht : P.underlying t = some (.interface m)) (hf : (List.range P.types.size).find? (fun u => P.typeName? 3 u == some name) = some u)
    (hx : (d.lay P u n).isSome = true) (hv : (Lay.pack P u ((d.lay P u n).getD ([], [])).1).isSome = true) :
    (DataW.iface name d).lay P t n = some ([.iface u ((Lay.pack P u ((d.lay P u n).getD ([], [])).1).getD .nilIface)], ((d.lay P u n).getD ([], [])).2) := by
  conv => lhs; unfold DataW.lay
  rw [ht, hf]
  simp only
  cases h : d.lay P u n with
  | none => rw [h] at hx; cases hx
  | some x =>
    rw [h] at hv
    simp only [Option.getD_some] at hv
    cases h2 : Lay.pack P u x.1 with
    | none => rw [h2] at hv; cases hv
    | some v => simp only [Option.getD_some, h2]
theorem isIface {d : Option TypeDesc} (h : (match d with | some (.interface _) => true | _ => false) = true) : ∃ m, d = some (.interface m) := by
  split at h
  · exact ⟨_, rfl⟩
  · cases h
def lay1 (w : World) (y : List (Nat × List Value) × List Obj) : World := { w with heap := ⟨Lay.setRows w.heap.toList y.1 ++ y.2⟩ }
theorem layVars_eq {P : Program} {w : World} {l : List (String × DataW Unit)} {y : List (Nat × List Value) × List Obj} (h : Lay.layList P w.heap.size l = some y) : w.layVars P l = lay1 w y := by
  unfold World.layVars
  rw [h]
  rfl
theorem layFits_eq {P : Program} {w : World} {l : List (String × DataW Unit)} {y : List (Nat × List Value) × List Obj} (h : Lay.layList P w.heap.size l = some y) (h1 : decide (y.1.map (·.1)).Nodup = true)
    (h2 : (y.1.all fun r => Lay.isRow w.heap.toList[r.1]?) = true) : w.layFits P l [] = true := by
  unfold World.layFits
  rw [h]
  simp only [h1, List.contains_nil, Bool.not_false, Bool.and_true, h2, List.all_nil]
theorem layIfaces_eq {P : Program} {w w' : World} {l : List (String × DataW Unit)} {y : List (Nat × List Value) × List Obj} (h : Lay.layList P w.heap.size l = some y) (h1 : (y.1.all fun r => r.2.all (Lay.okV P w')) = true)
    (h2 : y.2.all (Lay.okO P w') = true) : w.layIfaces P l w' = true := by
  unfold World.layIfaces
  rw [h]
  simp only [h1, h2, Bool.and_true]
theorem lay_some {P : Program} {t n : Nat} {d : DataW Unit} (h : (d.lay P t n).isSome = true) : d.lay P t n = some ((d.lay P t n).getD ([], [])) := by
  cases h2 : d.lay P t n with
  | none => rw [h2] at h; cases h
  | some x => rfl
theorem lcons {P : Program} {n n' g t : Nat} {name : String} {d : DataW Unit} {r : List (String × DataW Unit)} {y : List Value × List Obj} {z : List (Nat × List Value) × List Obj} (hg : P.globalNamed name = some g)
    (ht : (P.globals[g]?).map (·.type) = some t) (hy : d.lay P t n = some y) (hn : n + y.2.length = n') (hz : Lay.layList P n' r = some z) : Lay.layList P n ((name, d) :: r) = some ((g, y.1) :: z.1, y.2 ++ z.2) := by
  rw [Option.map_eq_some_iff] at ht
  obtain ⟨gl, h1, rfl⟩ := ht
  subst hn
  conv => lhs; unfold Lay.layList
  rw [hg]
  simp only
  rw [h1]
  simp only
  rw [hy]
  simp only
  rw [hz]
end Go.Sh
namespace Go.Proofs.YtmoppkfallanoaaGreatDoor.wit
open Go
abbrev L : List (String × DataW Unit) := [("unicode/utf8.first", Rows.laid_unicode_utf8_first), ("unicode/utf8.acceptRanges", Rows.laid_unicode_utf8_acceptRanges), ("strconv.ErrSyntax", Rows.laid_strconv_ErrSyntax), ("strconv.ErrRange", Rows.laid_strconv_ErrRange), ("internal/strconv.uint64pow10", Rows.laid_internal_strconv_uint64pow10), ("math/bits.deBruijn32tab", Rows.laid_math_bits_deBruijn32tab), ("math/bits.deBruijn64tab", Rows.laid_math_bits_deBruijn64tab)]
theorem e0 : Sh.noStar "errors.errorString" = true := by kernel_rfl
theorem e1 : Sh.nameless "errors.errorString" Tryz.prog.types.size 742 0 Tryz.prog.types.toList = true := by kernel_rfl
theorem e2 : Sh.firstPtr 742 0 Tryz.prog.types.toList = some 740 := by kernel_rfl
theorem e3 : (Tryz.prog.typeName? 3 740 == some "*errors.errorString") = true := by kernel_rfl
theorem find : (List.range Tryz.prog.types.size).find? (fun u => Tryz.prog.typeName? 3 u == some "*errors.errorString") = some 740 :=
  Sh.find_name (b := "errors.errorString") (e := 742) (by kernel_rfl) e0 e1 e2 e3 (by decide +kernel)
noncomputable def y0 : List Value × List Obj := ((Rows.laid_unicode_utf8_first : DataW Unit).lay Tryz.prog 563 17).getD ([], [])
theorem l0 : (Rows.laid_unicode_utf8_first : DataW Unit).lay Tryz.prog 563 17 = some y0 := Sh.lay_some (by kernel_rfl)
theorem g0 : Tryz.prog.globalNamed "unicode/utf8.first" = some 2 := by kernel_rfl
theorem t0 : ((Tryz.prog.globals)[2]?).map (·.type) = some 563 := by kernel_rfl
theorem n0 : 17 + y0.2.length = 17 := by kernel_rfl
noncomputable def y1 : List Value × List Obj := ((Rows.laid_unicode_utf8_acceptRanges : DataW Unit).lay Tryz.prog 678 17).getD ([], [])
theorem l1 : (Rows.laid_unicode_utf8_acceptRanges : DataW Unit).lay Tryz.prog 678 17 = some y1 := Sh.lay_some (by kernel_rfl)
theorem g1 : Tryz.prog.globalNamed "unicode/utf8.acceptRanges" = some 3 := by kernel_rfl
theorem t1 : ((Tryz.prog.globals)[3]?).map (·.type) = some 678 := by kernel_rfl
theorem n1 : 17 + y1.2.length = 17 := by kernel_rfl
noncomputable def d2 : DataW Unit := match (Rows.laid_strconv_ErrSyntax : DataW Unit) with | .iface _ d => d | _ => .nil
noncomputable def y2 : List Value × List Obj := ([.iface 740 ((Lay.pack Tryz.prog 740 (((d2).lay Tryz.prog 740 17).getD ([], [])).1).getD .nilIface)], (((d2).lay Tryz.prog 740 17).getD ([], [])).2)
theorem und2 : ∃ m, Tryz.prog.underlying 527 = some (.interface m) := Sh.isIface (by kernel_rfl)
theorem l2 : (Rows.laid_strconv_ErrSyntax : DataW Unit).lay Tryz.prog 527 17 = some y2 := by
  obtain ⟨m, hm⟩ := und2
  exact Sh.lay_iface (name := "*errors.errorString") (d := d2) hm find (by kernel_rfl) (by kernel_rfl)
theorem g2 : Tryz.prog.globalNamed "strconv.ErrSyntax" = some 4 := by kernel_rfl
theorem t2 : ((Tryz.prog.globals)[4]?).map (·.type) = some 527 := by kernel_rfl
theorem n2 : 17 + y2.2.length = 18 := by kernel_rfl
noncomputable def d3 : DataW Unit := match (Rows.laid_strconv_ErrRange : DataW Unit) with | .iface _ d => d | _ => .nil
noncomputable def y3 : List Value × List Obj := ([.iface 740 ((Lay.pack Tryz.prog 740 (((d3).lay Tryz.prog 740 18).getD ([], [])).1).getD .nilIface)], (((d3).lay Tryz.prog 740 18).getD ([], [])).2)
theorem und3 : ∃ m, Tryz.prog.underlying 527 = some (.interface m) := Sh.isIface (by kernel_rfl)
theorem l3 : (Rows.laid_strconv_ErrRange : DataW Unit).lay Tryz.prog 527 18 = some y3 := by
  obtain ⟨m, hm⟩ := und3
  exact Sh.lay_iface (name := "*errors.errorString") (d := d3) hm find (by kernel_rfl) (by kernel_rfl)
theorem g3 : Tryz.prog.globalNamed "strconv.ErrRange" = some 5 := by kernel_rfl
theorem t3 : ((Tryz.prog.globals)[5]?).map (·.type) = some 527 := by kernel_rfl
theorem n3 : 18 + y3.2.length = 19 := by kernel_rfl
noncomputable def y4 : List Value × List Obj := ((Rows.laid_internal_strconv_uint64pow10 : DataW Unit).lay Tryz.prog 734 19).getD ([], [])
theorem l4 : (Rows.laid_internal_strconv_uint64pow10 : DataW Unit).lay Tryz.prog 734 19 = some y4 := Sh.lay_some (by kernel_rfl)
theorem g4 : Tryz.prog.globalNamed "internal/strconv.uint64pow10" = some 6 := by kernel_rfl
theorem t4 : ((Tryz.prog.globals)[6]?).map (·.type) = some 734 := by kernel_rfl
theorem n4 : 19 + y4.2.length = 19 := by kernel_rfl
noncomputable def y5 : List Value × List Obj := ((Rows.laid_math_bits_deBruijn32tab : DataW Unit).lay Tryz.prog 751 19).getD ([], [])
theorem l5 : (Rows.laid_math_bits_deBruijn32tab : DataW Unit).lay Tryz.prog 751 19 = some y5 := Sh.lay_some (by kernel_rfl)
theorem g5 : Tryz.prog.globalNamed "math/bits.deBruijn32tab" = some 9 := by kernel_rfl
theorem t5 : ((Tryz.prog.globals)[9]?).map (·.type) = some 751 := by kernel_rfl
theorem n5 : 19 + y5.2.length = 19 := by kernel_rfl
noncomputable def y6 : List Value × List Obj := ((Rows.laid_math_bits_deBruijn64tab : DataW Unit).lay Tryz.prog 752 19).getD ([], [])
theorem l6 : (Rows.laid_math_bits_deBruijn64tab : DataW Unit).lay Tryz.prog 752 19 = some y6 := Sh.lay_some (by kernel_rfl)
theorem g6 : Tryz.prog.globalNamed "math/bits.deBruijn64tab" = some 10 := by kernel_rfl
theorem t6 : ((Tryz.prog.globals)[10]?).map (·.type) = some 752 := by kernel_rfl
theorem n6 : 19 + y6.2.length = 19 := by kernel_rfl
noncomputable def Y7 : List (Nat × List Value) × List Obj := ([], [])
theorem yl7 : Lay.layList Tryz.prog 19 [] = some Y7 := rfl
noncomputable def Y6 : List (Nat × List Value) × List Obj := ((10, y6.1) :: Y7.1, y6.2 ++ Y7.2)
theorem yl6 : Lay.layList Tryz.prog 19 ([("math/bits.deBruijn64tab", Rows.laid_math_bits_deBruijn64tab)] : List (String × DataW Unit)) = some Y6 := Sh.lcons g6 t6 l6 n6 yl7
noncomputable def Y5 : List (Nat × List Value) × List Obj := ((9, y5.1) :: Y6.1, y5.2 ++ Y6.2)
theorem yl5 : Lay.layList Tryz.prog 19 ([("math/bits.deBruijn32tab", Rows.laid_math_bits_deBruijn32tab), ("math/bits.deBruijn64tab", Rows.laid_math_bits_deBruijn64tab)] : List (String × DataW Unit)) = some Y5 := Sh.lcons g5 t5 l5 n5 yl6
noncomputable def Y4 : List (Nat × List Value) × List Obj := ((6, y4.1) :: Y5.1, y4.2 ++ Y5.2)
theorem yl4 : Lay.layList Tryz.prog 19 ([("internal/strconv.uint64pow10", Rows.laid_internal_strconv_uint64pow10), ("math/bits.deBruijn32tab", Rows.laid_math_bits_deBruijn32tab), ("math/bits.deBruijn64tab", Rows.laid_math_bits_deBruijn64tab)] : List (String × DataW Unit)) = some Y4 := Sh.lcons g4 t4 l4 n4 yl5
noncomputable def Y3 : List (Nat × List Value) × List Obj := ((5, y3.1) :: Y4.1, y3.2 ++ Y4.2)
theorem yl3 : Lay.layList Tryz.prog 18 ([("strconv.ErrRange", Rows.laid_strconv_ErrRange), ("internal/strconv.uint64pow10", Rows.laid_internal_strconv_uint64pow10), ("math/bits.deBruijn32tab", Rows.laid_math_bits_deBruijn32tab), ("math/bits.deBruijn64tab", Rows.laid_math_bits_deBruijn64tab)] : List (String × DataW Unit)) = some Y3 := Sh.lcons g3 t3 l3 n3 yl4
noncomputable def Y2 : List (Nat × List Value) × List Obj := ((4, y2.1) :: Y3.1, y2.2 ++ Y3.2)
theorem yl2 : Lay.layList Tryz.prog 17 ([("strconv.ErrSyntax", Rows.laid_strconv_ErrSyntax), ("strconv.ErrRange", Rows.laid_strconv_ErrRange), ("internal/strconv.uint64pow10", Rows.laid_internal_strconv_uint64pow10), ("math/bits.deBruijn32tab", Rows.laid_math_bits_deBruijn32tab), ("math/bits.deBruijn64tab", Rows.laid_math_bits_deBruijn64tab)] : List (String × DataW Unit)) = some Y2 := Sh.lcons g2 t2 l2 n2 yl3
noncomputable def Y1 : List (Nat × List Value) × List Obj := ((3, y1.1) :: Y2.1, y1.2 ++ Y2.2)
theorem yl1 : Lay.layList Tryz.prog 17 ([("unicode/utf8.acceptRanges", Rows.laid_unicode_utf8_acceptRanges), ("strconv.ErrSyntax", Rows.laid_strconv_ErrSyntax), ("strconv.ErrRange", Rows.laid_strconv_ErrRange), ("internal/strconv.uint64pow10", Rows.laid_internal_strconv_uint64pow10), ("math/bits.deBruijn32tab", Rows.laid_math_bits_deBruijn32tab), ("math/bits.deBruijn64tab", Rows.laid_math_bits_deBruijn64tab)] : List (String × DataW Unit)) = some Y1 := Sh.lcons g1 t1 l1 n1 yl2
noncomputable def Y0 : List (Nat × List Value) × List Obj := ((2, y0.1) :: Y1.1, y0.2 ++ Y1.2)
theorem yl0 : Lay.layList Tryz.prog 17 ([("unicode/utf8.first", Rows.laid_unicode_utf8_first), ("unicode/utf8.acceptRanges", Rows.laid_unicode_utf8_acceptRanges), ("strconv.ErrSyntax", Rows.laid_strconv_ErrSyntax), ("strconv.ErrRange", Rows.laid_strconv_ErrRange), ("internal/strconv.uint64pow10", Rows.laid_internal_strconv_uint64pow10), ("math/bits.deBruijn32tab", Rows.laid_math_bits_deBruijn32tab), ("math/bits.deBruijn64tab", Rows.laid_math_bits_deBruijn64tab)] : List (String × DataW Unit)) = some Y0 := Sh.lcons g0 t0 l0 n0 yl1
theorem size (os : Os) : (World.holding Tryz.prog os ⟨#[], #[], []⟩).heap.size = 17 := by kernel_rfl
theorem yl (os : Os) : Lay.layList Tryz.prog (World.holding Tryz.prog os ⟨#[], #[], []⟩).heap.size L = some Y0 := by rw [size]; exact yl0
/-- The world that is laid. -/
noncomputable def w0 (os : Os) : World := Sh.lay1 (World.holding Tryz.prog os ⟨#[], #[], []⟩) Y0
theorem w0_eq (os : Os) : World.laidAll Tryz.prog os L = w0 os := Sh.layVars_eq (yl os)
theorem w0_os (os : Os) : (w0 os).os = os := by rw [← w0_eq]; exact World.laidAll_os _ _ _
theorem fits1 : decide (Y0.1.map (·.1)).Nodup = true := by kernel_rfl
theorem fits2 (os : Os) : (Y0.1.all fun r => Lay.isRow (World.holding Tryz.prog os ⟨#[], #[], []⟩).heap.toList[r.1]?) = true := by kernel_rfl
theorem fits (os : Os) : (World.holding Tryz.prog os ⟨#[], #[], []⟩).layFits Tryz.prog L [] = true := Sh.layFits_eq (yl os) fits1 (fits2 os)
theorem ifaces1 (os : Os) : (Y0.1.all fun r => r.2.all (Lay.okV Tryz.prog (w0 os))) = true := by kernel_rfl
theorem ifaces2 (os : Os) : Y0.2.all (Lay.okO Tryz.prog (w0 os)) = true := by kernel_rfl
theorem ifaces (os : Os) : (World.holding Tryz.prog os ⟨#[], #[], []⟩).layIfaces Tryz.prog L (w0 os) = true := Sh.layIfaces_eq (yl os) (ifaces1 os) (ifaces2 os)
theorem met (os : Os) (args : Array Value) : laidMet Tryz.prog L ((w0 os).forCall (fun _ _ => 0) ⟨#[], args, []⟩).memory := by
  have h := laidMet_laidAll (P := Tryz.prog) (os := os) (laid := L) args (fits os) (by rw [w0_eq]; exact ifaces os)
  rw [w0_eq] at h
  exact h
end Go.Proofs.YtmoppkfallanoaaGreatDoor.wit
