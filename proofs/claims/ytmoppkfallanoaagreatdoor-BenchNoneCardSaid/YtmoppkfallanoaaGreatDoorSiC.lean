/-
  A machine of one goroutine that can be reckoned in the kernel, and the proof that the model does what it does: part SiC.
-/
import Derived.Test.YtmoppkfallanoaaGreatDoorSiB
import Derived.Lib.UnsafeStr
import Derived.Lib.MakeNoZero
import Derived.Laws.Pointers
set_option linter.unusedSimpArgs false
set_option linter.unusedVariables false
set_option linter.unusedSectionVars false
namespace Go.Sh
open Go.RowKit
variable [Syms]
section
variable {P : Program} {E : Env} {w w₀ : World} {μ : Mu} {h : Hp}

/-- A slice that grew into an array of its own. -/
theorem grown_fresh {hd : Hp} (Rd : Rel μ hd w₀ w) (Gd : Grow μ h μ hd) {size need nc : Nat} {old new : List SV} {ro rn rest : Array Value} {elem : TypeId} {res : Result Value}
    (ho : VRs μ old ro.toList) (hn : VRs μ new rn.toList) (hol : (old ++ new).length = need * size) (hnc : need ≤ nc) (hrest : rest.size = (nc - need) * size)
    (hres : res = .ok (.slice (some ⟨w.heap.size, 0, none⟩) need nc) ((World.at w (w.drawn + 1)).alloc (.cells (ro ++ rn ++ rest) elem))) (tg : Option TypeId) (htg : ∀ t, tg = some t → t = elem) : ValR μ h w₀ (grownS tg size old new need hd) res := by
  unfold grownS
  split
  · have hv := VRs.append ho hn
    have hl := hv.length
    have htot : (ro ++ rn ++ rest).size = nc * size := by
      simp only [Array.size_append]
      have h1 : ro.size + rn.size = need * size := by rw [← hol, hl]; simp
      rw [h1, hrest, ← Nat.add_mul]
      congr 1
      omega
    have R2 : Rel μ hd w₀ (World.at w (w.drawn + 1)) := Rel.at (R := Rd) _
    have hobj : ObjR (μ.set hd.nx ⟨w.heap.size, 0, nc * size⟩) ⟨w.heap.size, 0, nc * size⟩ (.cells (old ++ new) true) (some (.cells (ro ++ rn ++ rest) elem)) := by
      refine ⟨_, _, _, rfl, htot, ?_, ?_, (fun e => by cases e), .inl rfl⟩
      · rw [hol]
        simp only [Nat.zero_add]
        exact Nat.mul_le_mul_right _ hnc
      · simp only [List.drop_zero, Array.toList_append]
        rw [hl, List.take_left' rfl]
        exact hv.mono (Mu.le_set Rd.fresh)
    obtain ⟨R3, G3⟩ := Rel.alloc (n := nc * size) R2 (o := .cells (old ++ new) true) (ro := .cells (ro ++ rn ++ rest) elem) hobj
    have hv3 : VR (μ.set hd.nx ⟨w.heap.size, 0, nc * size⟩) (.slice hd.nx 0 need (.atLeast need size)) (.slice (some ⟨w.heap.size, 0, none⟩) need nc) := by
      simp only [VR]
      refine ⟨_, _, _, by simp only [Mu.set, if_true]; rfl, rfl, .inr rfl, ⟨hnc, ?_⟩, hnc⟩
      simp
    cases tg with
    | none => exact ⟨_, _, _, hres, R3, Gd.trans G3, hv3⟩
    | some t =>
      obtain rfl := htg t rfl
      obtain ⟨R4, G4⟩ := R3.tag (b := hd.nx) (t := t) (l := ⟨w.heap.size, 0, nc * size⟩) (by simp only [Mu.set, if_true]; rfl) ⟨_, _, heap_alloc_new' (World.at w (w.drawn + 1)) _⟩
      exact ⟨_, _, _, hres, R4, (Gd.trans G3).trans G4, hv3⟩
  · trivial

theorem grownTy_spec {h : Hp} {b : Nat} {elem t : TypeId} (e : grownTy h b elem = some t) : t = elem ∧ h.ty.get b = some t := by
  unfold grownTy at e
  split at e
  · rename_i t' ht
    split at e
    · rename_i ee; cases e; exact ⟨rfl, by rw [ht, ee]⟩
    · cases e
  · cases e

theorem src_at (R : Rel μ h w₀ w) {size n : Nat} {x : SV} {vx : Value} {new : List SV} (e : srcS size x n h = some new) (hx : VR μ x vx) (hn : ∀ m, lenOfS x = some m → n ≤ m) (k : Nat) :
    ∃ a : Array Value, (Builtin.firstCells size n vx).run P w = .ok a w ∧ (Builtin.firstCells size n vx).run P (World.at w k) = .ok a (World.at w k) ∧ VRs μ new a.toList ∧ new.length = n * size := by
  obtain ⟨a, e1, hv, hl⟩ := src_sound (P := P) R e hx hn
  obtain ⟨a', e2, hv', hl'⟩ := src_sound (P := P) (Rel.at (R := R) k) e hx hn
  have : a' = a := by
    -- the same cells are read
    unfold srcS at e
    split at e
    · rename_i s
      simp only [VR] at hx; obtain ⟨b, rfl, rfl⟩ := hx
      simp only [Builtin.firstCells, Sem.run_pure, Result.ok.injEq, and_true] at e1 e2
      rw [← e1, ← e2]
    · simp only [VR] at hx; subst hx
      simp only [Builtin.firstCells, Sem.run_pure, Result.ok.injEq, and_true] at e1 e2
      rw [← e1, ← e2]
    · rename_i b o len cap
      simp only [VR] at hx; obtain ⟨l, ad, c, hb, rfl, ha, hcap, hlen⟩ := hx
      split at e
      · rename_i h0
        simp only [Builtin.firstCells, Nat.mul_comm, loadCells] at e1 e2
        rw [Nat.mul_comm] at h0
        rw [h0] at e1 e2
        simp only [loadCellsFrom, Sem.run_pure, Result.ok.injEq, and_true] at e1 e2
        rw [← e1, ← e2]
      · rename_i h0
        split at e
        · rename_i cs m hc
          obtain ⟨rc, e', fz, hr, hk⟩ := R.cells hb hc
          have hl3 := (sub_eq e).2.1
          have hlen' := (hk.sub e).length
          rw [hl3] at hlen'
          have hne : c ≠ 0 := by
            have h1 := hn _ rfl
            intro hc0
            have : n = 0 := by omega
            rw [this] at h0; simp at h0
          rw [ha.resolve_left hne] at e1 e2
          simp only [Builtin.firstCells] at e1 e2
          rw [run_loadList hr hlen'.symm] at e1
          have hr2 : (World.at w k).heap[l.r]? = some (.cells rc e' fz) := hr
          rw [run_loadList hr2 hlen'.symm] at e2
          cases e1; cases e2; rfl
        · cases e
    · cases e
  subst this
  exact ⟨a', e1, e2, hv, hl⟩

theorem cells?_isSome {b : Nat} {x : List SV × Bool} (hc : h.cells? b = some x) : (h.t.get b).isSome = true := by
  unfold Hp.cells? at hc
  split at hc
  · rename_i hg; simp [hg]
  · cases hc

theorem added_sound (R : Rel μ h w₀ w) {i : TypeInfo} {elem : TypeId} {z : Value} {zeros : Bool} {x : SV} {vx : Value} {new : List SV} {n : Nat} (hi : E.info elem = some i) (hz : i.zero = some z) (hzs : z.cells.size = i.size)
    (e : addedS zeros i.size i.bytes (E.zero elem) x h = some (new, n)) (hx : VR μ x vx) : ∃ rn : Array Value, AddR P i z zeros vx n rn w ∧ VRs μ new rn.toList ∧ new.length = n * i.size := by
  unfold addedS at e
  cases zeros with
  | true =>
    simp only [if_true] at e
    split at e
    · rename_i k l sz hsz
      split at e
      · rename_i hc
        obtain ⟨h0, h1, h2, hk, hl⟩ := hc
        cases e
        simp only [VR] at hx; subst hx
        have hsz' : sz = ofValue z := by
          simp only [Env.zero, hi, Option.bind_some, hz, Option.map_some, Option.some.injEq] at hsz
          exact hsz.symm
        have hvr : VR μ sz z := by rw [hsz']; exact VR.ofValue μ z
        have hzc := VR.cells hk hvr
        have hrep := rep_sound hzc l.toNat
        rw [hl] at hrep
        refine ⟨if l.toNat * i.size = 0 then #[] else Builtin.zeroCells z.cells l.toNat, .inr ⟨rfl, k, l, rfl, h0, h1, h2, rfl, rfl⟩, ?_, by rw [rep_length, hl]⟩
        split
        · rename_i h00
          rw [h00] at hrep
          simpa using hrep
        · unfold Builtin.zeroCells
          rw [hzs]
          rw [← hl] at hrep ⊢
          have hzl := hzc.length
          simp only [Array.length_toList] at hzl
          simpa [hzl] using hrep
      · cases e
    · cases e
  | false =>
    simp only [Bool.false_eq_true, if_false] at e
    split at e
    · rename_i m hm
      cases hs : srcS i.size x m h with
      | none => simp [hs] at e
      | some nw =>
        simp only [hs, Option.map_some, Option.some.injEq, Prod.mk.injEq] at e
        obtain ⟨rfl, rfl⟩ := e
        obtain ⟨rn, e1, e2, hv, hl⟩ := src_at (P := P) R hs hx (fun k hk => by rw [hm] at hk; cases hk; exact Nat.le_refl _) (w.drawn + 1)
        exact ⟨rn, .inl ⟨rfl, lenOf_sound hm hx, e1, e2⟩, hv, hl⟩
    · cases e

set_option maxHeartbeats 1000000 in
theorem append_sound (O : EnvOK P E) (R : Rel μ h w₀ w) (argTypes : Array TypeId) (ty : TypeId) {args : List SV} {vargs : Array Value} (ha : VRs μ args vargs.toList) :
    ValR μ h w₀ (appendS E argTypes args h) ((Builtin.append_ argTypes ty vargs).run P w) := by
  unfold appendS
  split
  · rename_i st xt s x h0 h1
    obtain ⟨vs, vx, hva, hs, hx⟩ : ∃ vs vx, vargs = #[vs, vx] ∧ VR μ s vs ∧ VR μ x vx := by
      simp only [VRs] at ha
      obtain ⟨vs, r, e1, hs, vx, r', e2, hx, e3⟩ := ha
      exact ⟨vs, vx, by rw [e2, e3] at e1; exact Array.toList_inj.1 (by simpa using e1), hs, hx⟩
    subst hva
    split
    · rename_i elem xd hst hxt
      split
      · rename_i i hi
        simp only
        split
        · rename_i z new n hz hadd
          split
          · trivial
          · rename_i hzs
            · have A : AppT P argTypes elem i z (isIntD xd) := ⟨⟨st, xt, xd, h0, h1, O.und _ _ hst, O.und _ _ hxt, rfl⟩, O.info _ _ hi, hz, Classical.not_not.1 hzs⟩
              have hzs' := Classical.not_not.1 hzs
              obtain ⟨rn, hAdd, hvn, hln⟩ := added_sound R hi hz hzs' hadd hx
              split
              · -- onto nil
                simp only [VR] at hs; subst hs
                have hrun := A.run (w := w) ty none 0 0 n vx rn hAdd
                split
                · rename_i hn0
                  subst hn0
                  rw [hrun.1 (by omega)]
                  exact ValR.same R (by simp [VR])
                · split
                  · rename_i hn0 hsz
                    obtain ⟨nc, hnc, hres⟩ := hrun.2 #[] (by omega) (by omega) (by simpa using hsz.1) (by simp [Builtin.firstCells])
                    simp only [Nat.zero_add] at hnc hres
                    exact grown_fresh R (Grow.refl μ h) (ro := #[]) (rn := rn) (by simp [VRs]) hvn (by simpa using hln) hnc (zeroCells_size _ _ |>.trans (by rw [hzs'])) hres (some elem) (fun t e => by cases e; rfl)
                  · trivial
              · -- onto a slice
                rename_i b o len cap
                have hs' := hs
                simp only [VR] at hs
                obtain ⟨l, a, c, hb, rfl, had, hcap, hlen⟩ := hs
                have hrun := A.run (w := w) ty (some a) len c n vx rn hAdd
                split
                · trivial
                · rename_i hsz
                  have hplace : len + n ≤ c → ValR μ h w₀ (if n * i.size = 0 then .val (.slice b o (len + n) cap) h else
                      match storeCellsS h b (o + len * i.size) new with
                      | some h' => .val (.slice b o (len + n) cap) h'
                      | none => .fail "append in place") ((Builtin.append_ argTypes ty #[.slice (some a) len c, vx]).run P w) := by
                    intro hle
                    rw [hrun.1 hle]
                    have hvr : ∀ μ' : Mu, μ.le μ' → VR μ' (.slice b o (len + n) cap) (.slice (some a) (len + n) c) := fun μ' hm => by
                      simp only [VR]; exact ⟨l, a, c, hm _ _ hb, rfl, had, hcap, hle⟩
                    split
                    · rename_i hz0
                      have : rn.toList = [] := List.eq_nil_of_length_eq_zero (by rw [← hvn.length, hln]; exact hz0)
                      simp only [this, storeCells, Sem.run_pure, Result.andThen_ok]
                      exact ValR.same R (hvr μ (Mu.le.refl μ))
                    · rename_i hz0
                      split
                      · rename_i h' hst'
                        have hne : c ≠ 0 := by
                          intro hc0
                          have : n = 0 := by omega
                          rw [this] at hz0; simp at hz0
                        obtain ⟨w', e', R', G'⟩ := run_stores (P := P) R hb hst' hvn
                        simp only [had.resolve_left hne, add_none]
                        rw [show l.δ + o + len * i.size = l.δ + (o + len * i.size) by omega, e']
                        simp only [Result.andThen_ok]
                        have := hvr μ (Mu.le.refl μ)
                        rw [had.resolve_left hne] at this
                        exact ⟨_, _, μ, rfl, R', G', this⟩
                      · trivial
                  have hold : ∀ old, srcS i.size (.slice b o len cap) len h = some old → ∃ ro : Array Value, (Builtin.firstCells i.size len (.slice (some a) len c)).run P w = .ok ro w ∧
                      (Builtin.firstCells i.size len (.slice (some a) len c)).run P (World.at w (w.drawn + 1)) = .ok ro (World.at w (w.drawn + 1)) ∧ VRs μ old ro.toList ∧ old.length = len * i.size := fun old ho =>
                    src_at (P := P) R ho hs' (fun m hm => by simp only [lenOfS, Option.some.injEq] at hm; omega) (w.drawn + 1)
                  split
                  · -- the room is known
                    rename_i c'
                    simp only [CapR] at hcap; subst hcap
                    split
                    · rename_i hle; exact hplace hle
                    · rename_i hle
                      split
                      · rename_i old ho
                        obtain ⟨ro, eo, eo2, hvo, hlo'⟩ := hold old ho
                        obtain ⟨nc, hnc, hres⟩ := hrun.2 ro (by omega) (by omega) (by omega) eo2
                        exact grown_fresh R (Grow.refl μ h) hvo hvn (by rw [List.length_append, hlo', hln, Nat.add_mul]) hnc (zeroCells_size _ _ |>.trans (by rw [hzs'])) hres (some elem) (fun t e => by cases e; rfl)
                      · trivial
                  · -- it is not
                    rename_i c' es
                    simp only [CapR] at hcap
                    split
                    · rename_i hle; exact hplace (by omega)
                    · rename_i hle
                      split
                      · trivial
                      · rename_i hes
                        have hes' : es = i.size := Classical.not_not.1 fun hn => hes (.inl hn)
                        have hlive : ∃ cs m, h.cells? b = some (cs, m) := by
                          cases hh : h.cells? b with
                          | none => exact absurd (.inr (by rw [hh]; rfl)) hes
                          | some x => exact ⟨x.1, x.2, rfl⟩
                        subst hes'
                        split
                        · rename_i old ho
                          obtain ⟨ro, eo, eo2, hvo, hlo'⟩ := hold old ho
                          have hall : (old ++ new).length = (len + n) * i.size := by rw [List.length_append, hlo', hln, Nat.add_mul]
                          obtain ⟨Rd, Gd⟩ := R.drop hb
                          by_cases hroom : len + n ≤ c
                          · -- it lies where it lay
                            rw [hrun.1 hroom]
                            unfold grownS
                            split
                            · rename_i hone
                              simp only [Bool.and_eq_true] at hone
                              have hne : c ≠ 0 := by omega
                              have haddr := had.resolve_left hne
                              subst haddr
                              · obtain ⟨cs, m, hcs⟩ := hlive
                                obtain ⟨rc, e', fz, hr, hk⟩ := R.cells hb hcs
                                have hsize := hk.size
                                have hmul : (len + n) * i.size ≤ c * i.size := Nat.mul_le_mul_right _ hroom
                                have hrnl : rn.toList.length = n * i.size := by rw [← hvn.length, hln]
                                have hrol : ro.toList.length = len * i.size := by rw [← hvo.length, hlo']
                                rw [Nat.add_mul] at hmul
                                have hst' := run_storeList (P := P) rn.toList 0 (l.δ + o + len * i.size) rc w hr (by rw [hrnl]; omega) (VRs.all_one hone.2 hvn) (by rw [hsize]; exact hk.free)
                                simp only [add_none, Nat.add_zero] at hst' ⊢
                                rw [hst']
                                simp only [Result.andThen_ok]
                                have hobj : ObjR (μ.set h.nx ⟨l.r, l.δ + o, l.n⟩) ⟨l.r, l.δ + o, l.n⟩ (.cells (old ++ new) true) (some (.cells (spliceA rc (l.δ + o + len * i.size) rn.toList) e' fz)) := by
                                  refine ⟨_, _, _, rfl, ?_, ?_, ?_, (fun e => by cases e), hk.free⟩
                                  · simp only [spliceA]
                                    rw [List.size_toArray]
                                    simp only [List.length_append, List.length_take, List.length_drop, Array.length_toList]
                                    simp only [Array.length_toList] at hrnl
                                    omega
                                  · rw [hall, Nat.add_mul]; simp only; omega
                                  · have hcell : ro.toList = (rc.toList.drop (l.δ + o)).take (len * i.size) := by
                                      by_cases hz0 : len * i.size = 0
                                      · rw [hz0, List.take_zero]; exact List.eq_nil_of_length_eq_zero (by rw [hrol, hz0])
                                      · simp only [Builtin.firstCells] at eo
                                        have hlen2 : ((rc.toList.drop (l.δ + o)).take (len * i.size)).length = len * i.size := by
                                          simp only [List.length_take, List.length_drop, Array.length_toList]; omega
                                        rw [run_loadList hr hlen2] at eo
                                        simp only [Result.ok.injEq, and_true] at eo
                                        rw [← eo]
                                    have e1 : ((spliceA rc (l.δ + o + len * i.size) rn.toList).toList.drop (l.δ + o)).take (old ++ new).length = ro.toList ++ rn.toList := by
                                      rw [hall, hcell]
                                      simp only [spliceA]
                                      rw [List.append_assoc, List.drop_append_of_le_length (by simp; omega), List.drop_take, ← List.append_assoc, List.take_left']
                                      · congr 2; omega
                                      · simp only [List.length_append, List.length_take, List.length_drop, Array.length_toList] at hrnl ⊢
                                        rw [Nat.add_mul]
                                        omega
                                    rw [e1]
                                    exact (VRs.append hvo hvn).mono (Mu.le_set R.fresh)
                                obtain ⟨R3, G3⟩ := R.regrow hb (cells?_isSome hcs) hobj
                                have hv3 : VR (μ.set h.nx ⟨l.r, l.δ + o, l.n⟩) (.slice (h.drop b).nx 0 (len + n) (.atLeast (len + n) i.size)) (.slice (some ⟨l.r, l.δ + o, none⟩) (len + n) c) := by
                                  simp only [VR]
                                  exact ⟨⟨l.r, l.δ + o, l.n⟩, _, c, by simp only [Hp.drop, Mu.set, if_true], rfl, .inr rfl, ⟨hroom, by simpa using hcap.2⟩, hroom⟩
                                cases htg : grownTy h b elem with
                                | none => exact ⟨_, _, _, rfl, R3, G3, hv3⟩
                                | some t =>
                                  obtain ⟨rfl, hty⟩ := grownTy_spec htg
                                  obtain ⟨rc', fz', hr'⟩ := R.ty _ _ _ _ _ hb hty (by
                                    unfold Hp.cells? at hcs
                                    split at hcs
                                    · rename_i c' m' hg; cases hcs; exact hg
                                    · cases hcs)
                                  rw [hr] at hr'; cases hr'
                                  obtain ⟨R4, G4⟩ := R3.tag (b := h.nx) (l := ⟨l.r, l.δ + o, l.n⟩) (by simp only [Mu.set, if_true]) ⟨_, _, wput_same (R.base _ _ hb).2⟩
                                  exact ⟨_, _, _, rfl, R4, G3.trans G4, hv3⟩
                            · trivial
                          · obtain ⟨nc, hnc, hres⟩ := hrun.2 ro (by omega) (by omega) (by omega) eo2
                            exact grown_fresh Rd Gd hvo hvn hall hnc (zeroCells_size _ _ |>.trans (by rw [hzs'])) hres (grownTy h b elem) (fun t e => (grownTy_spec e).1)
                        · trivial
              · trivial
        · trivial
      · trivial
    · trivial
  · trivial
end
end Go.Sh

namespace Go.Sh
open Go.RowKit
variable [Syms]
section
variable {P : Program} {E : Env} {w w₀ : World} {μ : Mu} {h : Hp}

theorem VRs.two {a b : SV} {v : Array Value} (k : VRs μ [a, b] v.toList) : ∃ x y, v = #[x, y] ∧ VR μ a x ∧ VR μ b y := by
  simp only [VRs] at k
  obtain ⟨x, r, e1, hx, y, r', e2, hy, e3⟩ := k
  exact ⟨x, y, by rw [e2, e3] at e1; exact Array.toList_inj.1 (by simpa using e1), hx, hy⟩

theorem VRs.single {a : SV} {v : Array Value} (k : VRs μ [a] v.toList) : ∃ x, v = #[x] ∧ VR μ a x := by
  simp only [VRs] at k
  obtain ⟨x, r, e1, hx, e2⟩ := k
  exact ⟨x, by rw [e2] at e1; exact Array.toList_inj.1 (by simpa using e1), hx⟩

theorem len_sound (O : EnvOK P E) (R : Rel μ h w₀ w) (argTypes : Array TypeId) (ty : TypeId) {args : List SV} {vargs : Array Value} (ha : VRs μ args vargs.toList) :
    ValR μ h w₀ (lenS E argTypes args h) ((Builtin.len_ argTypes ty vargs).run P w) := by
  unfold lenS
  split
  · rename_i t x h0
    obtain ⟨v, rfl, hv⟩ := ha.single
    split
    · rename_i s hu
      simp only [VR] at hv; obtain ⟨b, rfl, rfl⟩ := hv
      simp only [Builtin.len_, h0, List.getElem?_toArray, List.getElem?_cons_zero, Sem.run_bind, O.runUnd hu, Result.andThen_ok, Sem.run_pure, bytesOf_length]
      exact ValR.same R (by simp [VR, goInt])
    · rename_i _ hu
      simp only [VR] at hv; obtain ⟨_, b, rfl⟩ := hv
      simp only [Builtin.len_, h0, List.getElem?_toArray, List.getElem?_cons_zero, Sem.run_bind, O.runUnd hu, Result.andThen_ok, Sem.run_pure]
      exact ValR.same R (by simp only [VR, Unk.has, goInt]; exact ⟨Or.inl trivial, _, rfl⟩)
    · rename_i _ _ hu
      simp only [VR] at hv; obtain ⟨_, a, l, c, rfl⟩ := hv
      simp only [Builtin.len_, h0, List.getElem?_toArray, List.getElem?_cons_zero, Sem.run_bind, O.runUnd hu, Result.andThen_ok, Sem.run_pure]
      exact ValR.same R (by simp only [VR, Unk.has, goInt]; exact ⟨Or.inl trivial, _, rfl⟩)
    · rename_i n e hu
      have : (Builtin.len_ argTypes ty #[v]).run P w = .ok (goInt n) w := by
        simp only [Builtin.len_, h0, List.getElem?_toArray, List.getElem?_cons_zero, Sem.run_bind, O.runUnd hu, Result.andThen_ok]
        cases v <;> rfl
      rw [this]
      exact ValR.same R (by simp [VR, goInt])
    · rename_i e _ _ n _ hu
      simp only [VR] at hv; obtain ⟨l, a, c, _, rfl, _⟩ := hv
      simp only [Builtin.len_, h0, List.getElem?_toArray, List.getElem?_cons_zero, Sem.run_bind, O.runUnd hu, Result.andThen_ok, Sem.run_pure]
      exact ValR.same R (by simp [VR, goInt])
    · rename_i e hu
      simp only [VR] at hv; subst hv
      simp only [Builtin.len_, h0, List.getElem?_toArray, List.getElem?_cons_zero, Sem.run_bind, O.runUnd hu, Result.andThen_ok, Sem.run_pure]
      exact ValR.same R (by simp [VR, goInt])
    · rename_i k e hu
      simp only [VR] at hv; subst hv
      simp only [Builtin.len_, h0, List.getElem?_toArray, List.getElem?_cons_zero, Sem.run_bind, O.runUnd hu, Result.andThen_ok, Sem.run_pure]
      exact ValR.same R (by simp [VR, goInt])
    · rename_i k e r hu
      simp only [VR] at hv; obtain ⟨l, hl, rfl⟩ := hv
      split
      · rename_i es clock hg
        obtain ⟨res, hres, hes⟩ := R.obj _ _ _ hl hg
        have hlen : es.length = res.size := by
          have : ∀ (a : List (SV × SV × Nat)) (b : List MapEntry), EntsR μ a b → a.length = b.length := by
            intro a
            induction a with
            | nil => intro b k; simp only [EntsR] at k; simp [k]
            | cons x a ih => intro b k; simp only [EntsR] at k; obtain ⟨y, ys, rfl, _, k⟩ := k; simp [ih _ k]
          simpa using this _ _ hes
        simp only [Builtin.len_, h0, List.getElem?_toArray, List.getElem?_cons_zero, Sem.run_bind, O.runUnd hu, Result.andThen_ok, Sem.run_pure, getObj, Sem.run, hres]
        exact ValR.same R (by simp [VR, goInt, hlen])
      · trivial
    · trivial
  · trivial

theorem cap_sound (O : EnvOK P E) (R : Rel μ h w₀ w) (argTypes : Array TypeId) (ty : TypeId) {args : List SV} {vargs : Array Value} (ha : VRs μ args vargs.toList) :
    ValR μ h w₀ (capS E argTypes args h) ((Builtin.cap_ argTypes ty vargs).run P w) := by
  unfold capS
  split
  · rename_i t x h0
    obtain ⟨v, rfl, hv⟩ := ha.single
    split
    · rename_i n e hu
      have : (Builtin.cap_ argTypes ty #[v]).run P w = .ok (goInt n) w := by
        simp only [Builtin.cap_, h0, List.getElem?_toArray, List.getElem?_cons_zero, Sem.run_bind, O.runUnd hu, Result.andThen_ok]
        cases v <;> rfl
      rw [this]
      exact ValR.same R (by simp [VR, goInt])
    · rename_i e _ _ _ n hu
      simp only [VR] at hv; obtain ⟨l, a, c, _, rfl, _, hc, _⟩ := hv
      simp only [CapR] at hc; subst hc
      simp only [Builtin.cap_, h0, List.getElem?_toArray, List.getElem?_cons_zero, Sem.run_bind, O.runUnd hu, Result.andThen_ok, Sem.run_pure]
      exact ValR.same R (by simp [VR, goInt])
    · rename_i e hu
      simp only [VR] at hv; subst hv
      simp only [Builtin.cap_, h0, List.getElem?_toArray, List.getElem?_cons_zero, Sem.run_bind, O.runUnd hu, Result.andThen_ok, Sem.run_pure]
      exact ValR.same R (by simp [VR, goInt])
    · trivial
  · trivial

theorem copy_sound (O : EnvOK P E) (R : Rel μ h w₀ w) (argTypes : Array TypeId) (ty : TypeId) {args : List SV} {vargs : Array Value} (ha : VRs μ args vargs.toList) :
    ValR μ h w₀ (copyS E argTypes args h) ((Builtin.copy_ argTypes ty vargs).run P w) := by
  unfold copyS
  split
  · rename_i dt d x h0
    obtain ⟨vd, vx, rfl, hd, hx⟩ := ha.two
    split
    · rename_i elem hu
      split
      · rename_i size dl xl hsz hdl hxl
        simp only
        have hlx := lenOf_sound (P := P) (w := w) hxl hx
        split
        · rename_i l b o len cap hl
          have hd' := hd
          simp only [VR] at hd; obtain ⟨lc, a, c, hb, rfl, had, hcap, hlen⟩ := hd
          simp only [lenOfS, Option.some.injEq] at hdl; subst hdl
          obtain ⟨ra, era, hva, hll⟩ := src_sound (P := P) R hl hx (fun m hm => by rw [hxl] at hm; cases hm; omega)
          have hmin : Nat.min xl len = min xl len := rfl
          have hrun : (Builtin.copy_ argTypes ty #[.slice (some a) len c, vx]).run P w = ((storeCells a ra.toList).run P w).andThen fun _ w' => .ok (goInt ((min xl len : Nat))) w' := by
            simp only [Builtin.copy_, h0, List.getElem?_toArray, List.getElem?_cons_zero, List.getElem?_cons_succ, Sem.run_bind, O.runUnd hu, O.runSize hsz, Result.andThen_ok, hlx, hmin, era, Sem.run_pure]
          rw [hrun]
          split
          · rename_i hz
            have : ra.toList = [] := List.eq_nil_of_length_eq_zero (by rw [← hva.length, hll]; exact hz)
            simp only [this, storeCells, Sem.run_pure, Result.andThen_ok]
            exact ValR.same R (by simp [VR, goInt])
          · rename_i hz
            split
            · rename_i h' hst
              have hne : c ≠ 0 := by
                intro hc0
                have : min xl len = 0 := by omega
                rw [this] at hz; simp at hz
              obtain ⟨w', e', R', G'⟩ := run_stores (P := P) R hb hst hva
              rw [had.resolve_left hne, e']
              exact ⟨_, _, μ, rfl, R', G', by simp [VR, goInt]⟩
            · trivial
        · rename_i l hl
          simp only [VR] at hd; subst hd
          simp only [lenOfS, Option.some.injEq] at hdl; subst hdl
          obtain ⟨ra, era, hva, hll⟩ := src_sound (P := P) R hl hx (fun m hm => by omega)
          have hmin : Nat.min xl 0 = min xl 0 := rfl
          have hrun : (Builtin.copy_ argTypes ty #[.slice none 0 0, vx]).run P w = .ok (goInt ((min xl 0 : Nat))) w := by
            simp only [Builtin.copy_, h0, List.getElem?_toArray, List.getElem?_cons_zero, List.getElem?_cons_succ, Sem.run_bind, O.runUnd hu, O.runSize hsz, Result.andThen_ok, hlx, hmin, era, Sem.run_pure]
          rw [hrun]
          exact ValR.same R (by simp [VR, goInt])
        · trivial
      · trivial
    · trivial
  · trivial

theorem minMax_sound (isMax : Bool) (k : IntKind) : ∀ (r : List SV) (a : Int) (vr : List Value) (s : SV), minMaxS isMax k a r = some s → VRs μ r vr →
    ∃ v, (vr.foldlM (if isMax then Builtin.max2 else Builtin.min2) (.int k a)).run P w = .ok v w ∧ VR μ s v := by
  intro r
  induction r with
  | nil =>
    intro a vr s e hk
    simp only [minMaxS, Option.some.injEq] at e
    simp only [VRs] at hk
    subst e; subst hk
    exact ⟨.int k a, by simp, by simp [VR]⟩
  | cons x r ih =>
    intro a vr s e hk
    simp only [VRs] at hk
    obtain ⟨y, ys, rfl, hy, hys⟩ := hk
    cases x <;> simp only [minMaxS, reduceCtorEq] at e
    rename_i k' b
    simp only [VR] at hy; subst hy
    obtain ⟨v, e1, hv⟩ := ih _ _ _ e hys
    refine ⟨v, ?_, hv⟩
    rw [List.foldlM_cons]
    simp only [Sem.run_bind]
    cases isMax
    · simpa [Builtin.min2] using e1
    · simpa [Builtin.max2] using e1

theorem minMaxL_sound (R : Rel μ h w₀ w) (isMax : Bool) (argTypes : Array TypeId) (ty : TypeId) {sx sy : SV} {x y : Value} (hx : VR μ sx x) (hy : VR μ sy y) :
    ValR μ h w₀ (minMaxL isMax sx sy h) ((if isMax then Builtin.max_ argTypes ty #[x, y] else Builtin.min_ argTypes ty #[x, y]).run P w) := by
  unfold minMaxL
  split
  · rename_i c l d m h1 h2
    have hx' := hx
    have hy' := hy
    obtain ⟨a, rfl, ea⟩ := toLin_sound h1 hx
    obtain ⟨b, rfl, eb⟩ := toLin_sound h2 hy
    split
    · rename_i q hq
      cases hrg : rangeL h.bx (d - c) (addL m (negL l)) with
      | none => rw [hrg] at hq; cases hq
      | some p =>
        obtain ⟨lo, hi⟩ := p
        rw [hrg, Option.bind_some] at hq
        obtain ⟨i1, i2⟩ := rangeL_sound R.bx _ _ _ _ hrg
        have hs : b - a = (d - c) + sumL (addL m (negL l)) := by rw [sumL_add, sumL_neg]; omega
        have hd : (q = true → 0 ≤ b - a) ∧ (q = false → b - a ≤ 0) := by
          unfold gtOrGe at hq
          split at hq
          · rename_i b' hb'
            have hd := dec_sound hb' i1 i2
            rw [← hs] at hd
            cases hq
            simp only [Cmp.holds] at hd
            constructor <;> rintro rfl <;> simp at hd <;> omega
          · have hd := dec_sound hq i1 i2
            rw [← hs] at hd
            simp only [Cmp.holds] at hd
            constructor <;> rintro rfl <;> simp at hd <;> omega
        obtain ⟨d1, d2⟩ := hd
        cases isMax <;> cases q <;> simp only [Bool.false_eq_true, if_false, if_true, reduceCtorEq, false_implies, true_implies, forall_const] at d1 d2 ⊢
        · have : (Builtin.min_ argTypes ty #[.int .i64 a, .int .i64 b]).run P w = .ok (.int .i64 b) w := by
            simp [Builtin.min_, Builtin.min2]; omega
          rw [this]; exact ValR.same R hy'
        · have : (Builtin.min_ argTypes ty #[.int .i64 a, .int .i64 b]).run P w = .ok (.int .i64 a) w := by
            simp [Builtin.min_, Builtin.min2]; omega
          rw [this]; exact ValR.same R hx'
        · have : (Builtin.max_ argTypes ty #[.int .i64 a, .int .i64 b]).run P w = .ok (.int .i64 a) w := by
            simp [Builtin.max_, Builtin.max2]; omega
          rw [this]; exact ValR.same R hx'
        · have : (Builtin.max_ argTypes ty #[.int .i64 a, .int .i64 b]).run P w = .ok (.int .i64 b) w := by
            simp [Builtin.max_, Builtin.max2]; omega
          rw [this]; exact ValR.same R hy'
    · trivial
  · trivial

theorem minMaxOp_sound (R : Rel μ h w₀ w) (isMax : Bool) (argTypes : Array TypeId) (ty : TypeId) {args : List SV} {vargs : Array Value} (ha : VRs μ args vargs.toList) :
    ValR μ h w₀ (minMaxOp isMax args h) ((if isMax then Builtin.max_ argTypes ty vargs else Builtin.min_ argTypes ty vargs).run P w) := by
  unfold minMaxOp
  split
  · split
    · rename_i sx sy
      obtain ⟨x, y, rfl, hx, hy⟩ := ha.two
      exact minMaxL_sound R isMax argTypes ty hx hy
    · trivial
  rename_i hns
  clear hns
  split
  · rename_i a b
    obtain ⟨x, y, rfl, hx, hy⟩ := ha.two
    simp only [VR] at hx hy; subst hx; subst hy
    cases isMax
    · have : (Builtin.min_ argTypes ty #[.float .f64 a, .float .f64 b]) = Builtin.min2 (.float .f64 a) (.float .f64 b) := by simp [Builtin.min_]
      simp only [Bool.false_eq_true, if_false, this]
      exact ValR.scalar R _
    · have : (Builtin.max_ argTypes ty #[.float .f64 a, .float .f64 b]) = Builtin.max2 (.float .f64 a) (.float .f64 b) := by simp [Builtin.max_]
      simp only [if_true, this]
      exact ValR.scalar R _
  · rename_i k a r
    simp only [VRs] at ha
    obtain ⟨x, xs, e1, hx, hxs⟩ := ha
    simp only [VR] at hx; subst hx
    refine ValR.ov R fun s hs => ?_
    obtain ⟨v, e, hv⟩ := minMax_sound (P := P) (w := w) isMax k r a xs s hs hxs
    refine ⟨v, ?_, hv⟩
    cases isMax
    · simp only [Bool.false_eq_true, if_false, Builtin.min_, e1]; simpa using e
    · simp only [if_true, Builtin.max_, e1]; simpa using e
  · trivial
end
end Go.Sh

namespace Go.Sh
open Go.RowKit
variable [Syms]
section
variable {P : Program} {E : Env} {w w₀ : World} {μ : Mu} {h : Hp}

/-! maps: keys -/
theorem run_checkFields (O : EnvOK P E) (e : Bool) (d : Nat) {cs : List SV} {a : Array Value} (hc : VRs μ cs a.toList)
    (ih : ∀ (t : TypeId) (k : SV) (v : Value), keyOk E d t k = true → VR μ k v → ∀ d', d ≤ d' → (Instr.checkKey e d' t v).run P w = .ok () w) (d' : Nat) (hd : d ≤ d') : ∀ fs : List Field,
    (fs.all fun f => match partS E f.type cs f.offset with | some x => keyOk E d f.type x | none => false) = true →
    (forIn (m := Sem) fs PUnit.unit (fun f _ => do
      if f.name ≠ "_" then Instr.checkKey e d' f.type (← part f.type a f.offset)
      pure (ForInStep.yield PUnit.unit))).run P w = .ok PUnit.unit w := by
  intro fs
  induction fs with
  | nil => intro _; simp
  | cons f fs ihf =>
    intro hall
    simp only [List.all_cons, Bool.and_eq_true] at hall
    obtain ⟨h1, h2⟩ := hall
    split at h1
    · rename_i x hx
      obtain ⟨v, ev, hv⟩ := run_part (w := w) O hc hx
      simp only [List.forIn_cons, Sem.run_bind, Sem.run_ite]
      by_cases hn : f.name = "_"
      · simp only [ne_eq, hn, not_true_eq_false, if_false, Sem.run_pure, Result.andThen_ok]
        exact ihf h2
      · simp only [ne_eq, hn, not_false_eq_true, if_true, ev, Result.andThen_ok, ih _ _ _ h1 hv d' hd, Sem.run_pure]
        exact ihf h2
    · cases h1

theorem checkKey_sound (O : EnvOK P E) (e : Bool) : ∀ (n : Nat) (t : TypeId) (k : SV) (v : Value), keyOk E n t k = true → VR μ k v → ∀ d, n ≤ d → (Instr.checkKey e d t v).run P w = .ok () w := by
  intro n
  induction n with
  | zero => intro t k v hk; simp [keyOk] at hk
  | succ n ih =>
    intro t k v hk hv d hd
    obtain ⟨d, rfl⟩ : ∃ m, d = m + 1 := ⟨d - 1, by omega⟩
    simp only [keyOk] at hk
    split at hk
    · rename_i fs cs hu
      simp only [VR] at hv; obtain ⟨a, rfl, ha⟩ := hv
      simp only [Instr.checkKey, Sem.run_bind, O.runUnd hu, Result.andThen_ok]
      rw [← Array.forIn_toList]
      have h1 := run_checkFields (P := P) (w := w) O e n ha ih d (by omega) fs.toList hk
      have h2 : ∀ (r : Result PUnit), r = .ok PUnit.unit w → (r.andThen fun _ w' => .ok () w') = .ok () w := fun r e => by rw [e]; rfl
      have h3 := h2 _ h1
      simpa using h3
    · rename_i q k' n' hu
      simp only [VR] at hv; subst hv
      simp [Instr.checkKey, O.runUnd hu]
    · rename_i s hu
      simp only [VR] at hv; obtain ⟨b, rfl, _⟩ := hv
      simp [Instr.checkKey, O.runUnd hu]
    · rename_i b hu
      simp only [VR] at hv; subst hv
      simp [Instr.checkKey, O.runUnd hu]
    · cases hk

def FindR (μ : Mu) : Option (Nat × SV) → Option (Nat × Value) → Prop
  | none, r => r = none
  | some (i, s), r => ∃ v, r = some (i, v) ∧ VR μ s v

theorem findAsking_sound (O : EnvOK P E) (R : Rel μ h w₀ w) {t : TypeId} {k : SV} {vk : Value} (hk : VR μ k vk) : ∀ (es : List (SV × SV × Nat)) (res : List MapEntry) (i : Nat) (r : Option (Nat × SV)),
    findS E t k h es i = some r → EntsR μ es res → ∃ r', (Instr.findAsking t vk res i).run P w = .ok r' w ∧ FindR μ r r' := by
  intro es
  induction es with
  | nil =>
    intro res i r e hr
    simp only [findS, Option.some.injEq] at e
    simp only [EntsR] at hr
    subst e; subst hr
    exact ⟨none, by simp [Instr.findAsking], rfl⟩
  | cons a es ih =>
    intro res i r e hr
    simp only [EntsR] at hr
    obtain ⟨x, xs, rfl, ⟨hxk, hxv, _⟩, hxs⟩ := hr
    simp only [findS] at e
    simp only [Instr.findAsking, Sem.run_bind]
    split at e
    · rename_i he
      cases e
      rw [run_eql O R he hk hxk]
      exact ⟨some (i, x.val), by simp, ⟨_, rfl, hxv⟩⟩
    · rename_i he
      rw [run_eql O R he hk hxk]
      obtain ⟨r', e1, hr'⟩ := ih xs (i + 1) r e hxs
      exact ⟨r', by simpa using e1, hr'⟩
    · cases e

theorem sameNow_eql {t : TypeId} {kind : TypeDesc} (hu : P.underlying t = some kind) {a b : Value} {c : Bool} (e : Instr.sameNow kind a b = some c) : (Op.equal t a b).run P w = .ok c w := by
  unfold Instr.sameNow at e
  split at e
  · split at e
    · rename_i hk
      cases e; subst hk
      exact run_equalIn_int w 9999 t _ _ _ _ hu
    · cases e
  · cases e
    show (Op.equalIn (9999 + 1) t _ _).run P w = _
    rw [run_equalIn_string w 9999 t _ _ hu, beq_toListBytes]
  · cases e
    exact run_equalIn_bool' w 9999 t _ _ hu
  · cases e

theorem findNow_ask {t : TypeId} {kind : TypeDesc} (hu : P.underlying t = some kind) (k : Value) : ∀ (es : List MapEntry) (i : Nat) (r : Option (Nat × Value)), Instr.findNow kind k es i = some r →
    (Instr.findAsking t k es i).run P w = .ok r w := by
  intro es
  induction es with
  | nil => intro i r e; simp only [Instr.findNow, Option.some.injEq] at e; subst e; simp [Instr.findAsking]
  | cons x es ih =>
    intro i r e
    simp only [Instr.findNow] at e
    simp only [Instr.findAsking, Sem.run_bind]
    split at e
    · rename_i he; cases e; rw [sameNow_eql hu he]; simp
    · rename_i he; rw [sameNow_eql hu he]; simpa using ih _ _ e
    · cases e

theorem findKey_sound (O : EnvOK P E) (R : Rel μ h w₀ w) {t : TypeId} {d : TypeDesc} (hu : E.und t = some d) {k : SV} {vk : Value} (hk : VR μ k vk) {es : List (SV × SV × Nat)} {res : List MapEntry} {r : Option (Nat × SV)}
    (e : findS E t k h es 0 = some r) (hr : EntsR μ es res) : ∃ r', (Instr.findKey t vk res).run P w = .ok r' w ∧ FindR μ r r' := by
  obtain ⟨r', e1, hr'⟩ := findAsking_sound (P := P) O R hk es res 0 r e hr
  refine ⟨r', ?_, hr'⟩
  simp only [Instr.findKey, Sem.run_bind, O.runUnd hu, Result.andThen_ok]
  split
  · rename_i r2 h2
    have := findNow_ask (w := w) (O.und _ _ hu) vk res 0 r2 h2
    rw [e1] at this
    cases this
    rfl
  · exact e1

theorem keyOk_und {n : Nat} {t : TypeId} {k : SV} (hk : keyOk E n t k = true) : ∃ d, E.und t = some d := by
  cases n with
  | zero => simp [keyOk] at hk
  | succ n =>
    simp only [keyOk] at hk
    split at hk <;> first | exact ⟨_, by assumption⟩ | cases hk

theorem EntsR.get : ∀ {es : List (SV × SV × Nat)} {res : List MapEntry} (i : Nat), EntsR μ es res → ∀ x, es[i]? = some x → ∃ y, res[i]? = some y ∧ EntR μ x y
  | [], _, _, _ => by simp
  | a :: s, _, i, k => by
    simp only [EntsR] at k
    obtain ⟨y, ys, rfl, hy, hys⟩ := k
    cases i with
    | zero => intro x hx; simp at hx; subst hx; exact ⟨y, by simp, hy⟩
    | succ i => intro x hx; simp at hx; simpa using EntsR.get i hys x hx

theorem EntsR.append : ∀ {a c : List (SV × SV × Nat)} {b d : List MapEntry}, EntsR μ a b → EntsR μ c d → EntsR μ (a ++ c) (b ++ d)
  | [], _, _, _, k, k' => by simp only [EntsR] at k; subst k; simpa using k'
  | _ :: _, _, _, _, k, k' => by
    simp only [EntsR] at k
    obtain ⟨x, xs, rfl, hx, hxs⟩ := k
    simp only [List.cons_append, EntsR]
    exact ⟨x, _, rfl, hx, EntsR.append hxs k'⟩

theorem EntsR.modify {f : SV × SV × Nat → SV × SV × Nat} {g : MapEntry → MapEntry} : ∀ {es : List (SV × SV × Nat)} {res : List MapEntry} (i : Nat), EntsR μ es res →
    (∀ x y, es[i]? = some x → res[i]? = some y → EntR μ x y → EntR μ (f x) (g y)) → EntsR μ (es.modify i f) (res.modify i g)
  | [], _, i, k, _ => by simp only [EntsR] at k; subst k; cases i <;> simp [List.modify, EntsR]
  | a :: s, _, 0, k, hf => by
    simp only [EntsR] at k
    obtain ⟨y, ys, rfl, hy, hys⟩ := k
    simp only [List.modify_zero_cons, EntsR]
    exact ⟨_, _, rfl, hf a y rfl rfl hy, hys⟩
  | a :: s, _, i + 1, k, hf => by
    simp only [EntsR] at k
    obtain ⟨y, ys, rfl, hy, hys⟩ := k
    simp only [List.modify_succ_cons, EntsR]
    exact ⟨_, _, rfl, hy, EntsR.modify i hys fun x z h1 h2 => hf x z (by simpa using h1) (by simpa using h2)⟩

theorem EntsR.erase : ∀ {es : List (SV × SV × Nat)} {res : List MapEntry} (i : Nat), EntsR μ es res → EntsR μ (es.eraseIdx i) (res.eraseIdx i)
  | [], _, i, k => by simp only [EntsR] at k; subst k; simp [EntsR]
  | a :: s, _, 0, k => by
    simp only [EntsR] at k
    obtain ⟨y, ys, rfl, hy, hys⟩ := k
    simpa using hys
  | a :: s, _, i + 1, k => by
    simp only [EntsR] at k
    obtain ⟨y, ys, rfl, hy, hys⟩ := k
    simp only [List.eraseIdx_cons_succ, EntsR]
    exact ⟨_, _, rfl, hy, EntsR.erase i hys⟩

theorem EntsR.filter {p : SV × SV × Nat → Bool} {q : MapEntry → Bool} (hpq : ∀ x y, EntR μ x y → p x = q y) : ∀ {es : List (SV × SV × Nat)} {res : List MapEntry}, EntsR μ es res → EntsR μ (es.filter p) (res.filter q)
  | [], _, k => by simp only [EntsR] at k; subst k; simp [EntsR]
  | a :: s, _, k => by
    simp only [EntsR] at k
    obtain ⟨y, ys, rfl, hy, hys⟩ := k
    simp only [List.filter_cons, hpq a y hy]
    split
    · simp only [EntsR]; exact ⟨_, _, rfl, hy, EntsR.filter hpq hys⟩
    · exact EntsR.filter hpq hys

theorem EntsR.length : ∀ {es : List (SV × SV × Nat)} {res : List MapEntry}, EntsR μ es res → es.length = res.length
  | [], _, k => by simp only [EntsR] at k; simp [k]
  | a :: s, _, k => by simp only [EntsR] at k; obtain ⟨y, ys, rfl, _, k⟩ := k; simp [EntsR.length k]

/-- A value without an address is told by its shadow. -/
def flatCell : SV → Bool
  | .int _ _ | .string _ | .bool _ => true
  | _ => false

theorem flatCell_uniq {s : SV} {v v' : Value} (hf : flatCell s = true) (h1 : VR μ s v) (h2 : VR μ s v') : v = v' ∧ ∀ n, Instr.sameBits n v v' = true := by
  cases s <;> simp only [flatCell, Bool.false_eq_true] at hf <;> simp only [VR] at h1 h2
  · subst h1; subst h2; exact ⟨rfl, fun n => by cases n <;> simp [Instr.sameBits]⟩
  · subst h1; subst h2; exact ⟨rfl, fun n => by cases n <;> simp [Instr.sameBits]⟩
  · obtain ⟨b, rfl, rfl⟩ := h1; obtain ⟨b', rfl, e⟩ := h2
    have := bytesOf_inj e
    subst this
    have hb : (b' == b') = true := by rw [beq_toListBytes]; simp
    exact ⟨rfl, fun n => by cases n <;> simp only [Instr.sameBits, hb]⟩

theorem flatCells_uniq : ∀ {s : List SV} {v v' : List Value}, s.all flatCell = true → VRs μ s v → VRs μ s v' → v = v' ∧ ∀ n, ((v.zip v').all fun (x, y) => Instr.sameBits n x y) = true
  | [], _, _, _, h1, h2 => by simp only [VRs] at h1 h2; subst h1; subst h2; simp
  | a :: s, _, _, hf, h1, h2 => by
    simp only [VRs] at h1 h2
    obtain ⟨x, xs, rfl, hx, hxs⟩ := h1
    obtain ⟨y, ys, rfl, hy, hys⟩ := h2
    simp only [List.all_cons, Bool.and_eq_true] at hf
    obtain ⟨e1, e2⟩ := flatCell_uniq hf.1 hx hy
    obtain ⟨e3, e4⟩ := flatCells_uniq hf.2 hxs hys
    refine ⟨by rw [e1, e3], fun n => ?_⟩
    simp only [List.zip_cons_cons, List.all_cons, e2 n, e4 n, Bool.and_self]

theorem flatKey_uniq {s : SV} {v v' : Value} (hf : flatKey s = true) (h1 : VR μ s v) (h2 : VR μ s v') : v = v' ∧ ∀ n, Instr.sameBits (n + 1) v v' = true := by
  cases s <;> simp only [flatKey, Bool.false_eq_true] at hf
  · exact let ⟨a, b⟩ := flatCell_uniq (s := .bool _) rfl h1 h2; ⟨a, fun n => b _⟩
  · exact let ⟨a, b⟩ := flatCell_uniq (s := .int _ _) rfl h1 h2; ⟨a, fun n => b _⟩
  · exact let ⟨a, b⟩ := flatCell_uniq (s := .string _) rfl h1 h2; ⟨a, fun n => b _⟩
  · rename_i cs
    simp only [VR] at h1 h2
    obtain ⟨a, rfl, ha⟩ := h1; obtain ⟨a', rfl, ha'⟩ := h2
    have hall : cs.all flatCell = true := by
      rw [← hf]; congr 1
    obtain ⟨e1, e2⟩ := flatCells_uniq hall ha ha'
    have := Array.toList_inj.1 e1
    subst this
    refine ⟨rfl, fun n => ?_⟩
    simp only [Instr.sameBits, beq_self_eq_true, Bool.true_and]
    exact e2 n

theorem keyThatStays_same {s : SV} {v v' : Value} (hf : flatKey s = true) (h1 : VR μ s v) (h2 : VR μ s v') : (Instr.keyThatStays v v').run P w = .ok v' w := by
  have := (flatKey_uniq hf h1 h2).2 9999
  simp [Instr.keyThatStays, this]
end
end Go.Sh

namespace Go.Sh
open Go.RowKit
variable [Syms]
section
variable {P : Program} {E : Env} {w w₀ : World} {μ : Mu} {h : Hp}

theorem run_getObj {r : Nat} {o : Obj} (hr : w.heap[r]? = some o) (hc : ∀ c e f, o ≠ .cells c e f) : (getObj r).run P w = .ok o w := by
  cases o <;> first
    | exact absurd rfl (hc _ _ _)
    | simp only [getObj, Sem.run, hr]

theorem run_setObj {r : Nat} {o o' : Obj} (hr : w.heap[r]? = some o) (hc : ∀ c e f, o ≠ .cells c e f) : (setObj r o').run P w = .ok () (wput w r o') := by
  simp only [setObj, Sem.run, hr]
  cases o <;> first
    | exact absurd rfl (hc _ _ _)
    | rfl

theorem lookup_sound (O : EnvOK P E) (R : Rel μ h w₀ w) (t : TypeId) (ok : Bool) {m k : SV} {vm vk : Value} (hm : VR μ m vm) (hk : VR μ k vk) :
    ValR μ h w₀ (lookupS E t m k ok h) ((Instr.lookup t vm vk ok).run P w) := by
  unfold lookupS
  split
  · rename_i key elem hu
    split
    · trivial
    · rename_i hko
      have hko' : keyOk E 100 key k = true := by simpa using hko
      obtain ⟨d, hd⟩ := keyOk_und hko'
      have hck : ∀ e : Bool, (Instr.checkKey e 10000 key vk).run P w = .ok () w := fun e => checkKey_sound O e 100 key k vk hko' hk 10000 (by decide)
      simp only
      split
      · rename_i z hz
        simp only [VR] at hm; subst hm
        obtain ⟨v, ev, hv⟩ := O.runZero (w := w) hz
        have hvr : VR μ z v := hv ▸ VR.ofValue μ v
        have : (Instr.lookup t (.map none) vk ok).run P w = .ok (if ok then .tuple #[v, .bool false] else v) w := by
          have hfk : (Instr.findKey key vk []).run P w = .ok none w := by
            simp only [Instr.findKey, Sem.run_bind, O.runUnd hd, Result.andThen_ok, Instr.findNow]
            rfl
          simp only [Instr.lookup, Sem.run_bind, O.runUnd hu, Result.andThen_ok, Sem.run_pure, hck, hfk, ev]
        rw [this]
        refine ValR.same R ?_
        cases ok
        · exact hvr
        · simp only [if_true, VR]; exact ⟨_, rfl, VRs.cons hvr (VRs.one (by simp [VR]))⟩
      · rename_i r z hz
        simp only [VR] at hm; obtain ⟨l, hl, rfl⟩ := hm
        split
        · rename_i es clock hg
          obtain ⟨res, hres, hes⟩ := R.obj _ _ _ hl hg
          have hgo := run_getObj (P := P) hres (fun c e f => by simp)
          obtain ⟨v, ev, hv⟩ := O.runZero (w := w) hz
          have hvr : VR μ z v := hv ▸ VR.ofValue μ v
          split
          · rename_i i sv hf
            obtain ⟨r', e1, v', rfl, hv'⟩ := findKey_sound O R hd hk hf hes
            have : (Instr.lookup t (.map (some l.r)) vk ok).run P w = .ok (if ok then .tuple #[v', .bool true] else v') w := by
              simp only [Instr.lookup, Sem.run_bind, O.runUnd hu, Result.andThen_ok, Sem.run_pure, hgo, hck, e1]
            rw [this]
            refine ValR.same R ?_
            cases ok
            · exact hv'
            · simp only [if_true, VR]; exact ⟨_, rfl, VRs.cons hv' (VRs.one (by simp [VR]))⟩
          · rename_i hf
            obtain ⟨r', e1, hr'⟩ := findKey_sound O R hd hk hf hes
            simp only [FindR] at hr'; subst hr'
            have : (Instr.lookup t (.map (some l.r)) vk ok).run P w = .ok (if ok then .tuple #[v, .bool false] else v) w := by
              simp only [Instr.lookup, Sem.run_bind, O.runUnd hu, Result.andThen_ok, Sem.run_pure, hgo, hck, e1, ev]
            rw [this]
            refine ValR.same R ?_
            cases ok
            · exact hvr
            · simp only [if_true, VR]; exact ⟨_, rfl, VRs.cons hvr (VRs.one (by simp [VR]))⟩
          · trivial
        · trivial
      · trivial
  · trivial

/-- What an operation without a value does. -/
def UnitR (μ : Mu) (h : Hp) (w₀ : World) : OR → Result Unit → Prop
  | .val v h', res => v = undefS ∧ ∃ w' μ', res = .ok () w' ∧ Rel μ' h' w₀ w' ∧ Grow μ h μ' h'
  | .panic v, res => ∃ x w', res = .halt (.panic x) w' ∧ Rel μ h w₀ w' ∧ VR μ v x
  | .fail _, _ => True
  | _, _ => False

theorem toList_modify (a : Array MapEntry) (i : Nat) (f : MapEntry → MapEntry) : (a.modify i f).toList = a.toList.modify i f := by
  apply List.ext_getElem?
  intro k
  rw [List.getElem?_modify]
  simp only [Array.getElem?_toList, Array.getElem?_modify]
  by_cases hk : i = k
  · subst hk; simp
  · simp [hk]

theorem mapUpdate_sound (O : EnvOK P E) (R : Rel μ h w₀ w) (t : TypeId) {m k v : SV} {vm vk vv : Value} (hm : VR μ m vm) (hk : VR μ k vk) (hv : VR μ v vv) :
    UnitR μ h w₀ (mapUpdateS E t m k v h) ((Instr.mapUpdate t vm vk vv).run P w) := by
  unfold mapUpdateS
  split
  · rename_i key elem hu
    split
    · trivial
    · rename_i hko
      simp only [Bool.or_eq_true, Bool.not_eq_true', not_or, Bool.not_eq_false] at hko
      obtain ⟨d, hd⟩ := keyOk_und hko.1
      have hck : ∀ e : Bool, (Instr.checkKey e 10000 key vk).run P w = .ok () w := fun e => checkKey_sound O e 100 key k vk hko.1 hk 10000 (by decide)
      split
      · rename_i r
        simp only [VR] at hm; obtain ⟨l, hl, rfl⟩ := hm
        split
        · rename_i es clock hg
          obtain ⟨res, hres, hes⟩ := R.obj _ _ _ hl hg
          have hgo := run_getObj (P := P) hres (fun c e f => by simp)
          have hso := fun o' => run_setObj (P := P) (o' := o') hres (fun c e f => by simp)
          have hsome : (h.t.get r).isSome = true := by simp [hg]
          split
          · rename_i i sv hf
            obtain ⟨r', e1, v', rfl, hv'⟩ := findKey_sound O R hd hk hf hes
            split
            · rename_i e hei
              split
              · rename_i hbe
                have hkk := SV.eq_of_beq hbe
                obtain ⟨y, hy, hyr⟩ := hes.get i e hei
                have hyk : VR μ k y.key := hkk ▸ hyr.1
                have hstay := keyThatStays_same (P := P) (w := w) hko.2 hyk hk
                have hgk : ((res[i]?).map (·.key)).getD vk = y.key := by
                  have : res[i]? = some y := by simpa using hy
                  simp [this]
                obtain ⟨R', G'⟩ := R.put hl hsome (o := .map (es.modify i fun e => (k, v, e.2.2)) clock) (ro := .map (res.modify i fun e => { e with key := vk, val := vv }) clock)
                  ⟨_, rfl, by rw [toList_modify]; exact hes.modify i fun x z h1 h2 hxz => ⟨hk, hv, hxz.2.2⟩⟩
                refine ⟨rfl, _, μ, ?_, R', G'⟩
                simp only [Instr.mapUpdate, Sem.run_bind, O.runUnd hu, Result.andThen_ok, hgo, hck, e1, hgk, hstay, hso]
              · trivial
            · trivial
          · rename_i hf
            obtain ⟨r', e1, hr'⟩ := findKey_sound O R hd hk hf hes
            simp only [FindR] at hr'; subst hr'
            obtain ⟨R', G'⟩ := R.put hl hsome (o := .map (es ++ [(k, v, clock)]) (clock + 1)) (ro := .map (res.push { key := vk, val := vv, born := clock }) (clock + 1))
              ⟨_, rfl, by rw [Array.toList_push]; exact hes.append (by simp only [EntsR]; exact ⟨_, _, rfl, ⟨hk, hv, rfl⟩, rfl⟩)⟩
            refine ⟨rfl, _, μ, ?_, R', G'⟩
            simp only [Instr.mapUpdate, Sem.run_bind, O.runUnd hu, Result.andThen_ok, hgo, hck, e1, hso]
          · trivial
        · trivial
      · trivial
  · trivial

theorem mapEntry_sound (O : EnvOK P E) (R : Rel μ h w₀ w) (t : TypeId) {m k : SV} {vm vk : Value} (hm : VR μ m vm) (hk : VR μ k vk) :
    ValR μ h w₀ (mapEntryS E t m k h) ((Instr.mapEntry t vm vk).run P w) := by
  unfold mapEntryS
  split
  · rename_i key elem hu
    split
    · trivial
    · rename_i hko
      simp only [Bool.or_eq_true, Bool.not_eq_true', not_or, Bool.not_eq_false] at hko
      obtain ⟨d, hd⟩ := keyOk_und hko.1
      have hck : ∀ e : Bool, (Instr.checkKey e 10000 key vk).run P w = .ok () w := fun e => checkKey_sound O e 100 key k vk hko.1 hk 10000 (by decide)
      split
      · rename_i r z hz
        simp only [VR] at hm; obtain ⟨l, hl, rfl⟩ := hm
        split
        · rename_i es clock hg
          obtain ⟨res, hres, hes⟩ := R.obj _ _ _ hl hg
          have hgo := run_getObj (P := P) hres (fun c e f => by simp)
          have hso := fun o' => run_setObj (P := P) (o' := o') hres (fun c e f => by simp)
          have hsome : (h.t.get r).isSome = true := by simp [hg]
          obtain ⟨vz, evz, hvz⟩ := O.runZero (w := w) hz
          have hvr : VR μ z vz := hvz ▸ VR.ofValue μ vz
          split
          · rename_i i sv hf
            obtain ⟨r', e1, v', rfl, hv'⟩ := findKey_sound O R hd hk hf hes
            split
            · rename_i e hei
              split
              · rename_i hbe
                have hkk := SV.eq_of_beq hbe
                obtain ⟨y, hy, hyr⟩ := hes.get i e hei
                have hyk : VR μ k y.key := hkk ▸ hyr.1
                have hstay := keyThatStays_same (P := P) (w := w) hko.2 hyk hk
                have hyi : res[i]? = some y := by simpa using hy
                have hgk : ((res[i]?).map (·.key)).getD vk = y.key := by simp [hyi]
                have hgb : ((res[i]?).map (fun x => ((x.born : Nat) : Int))).getD 0 = ((e.2.2 : Nat) : Int) := by simp [hyi, hyr.2.2]
                obtain ⟨R', G'⟩ := R.put hl hsome (o := .map (es.modify i fun e => (k, e.2.1, e.2.2)) clock) (ro := .map (res.modify i fun e => { e with key := vk }) clock)
                  ⟨_, rfl, by rw [toList_modify]; exact hes.modify i fun x z h1 h2 hxz => ⟨hk, hxz.2.1, hxz.2.2⟩⟩
                refine ⟨.tuple #[v', goInt e.2.2], _, μ, ?_, R', G', ?_⟩
                · simp only [Instr.mapEntry, Sem.run_bind, O.runUnd hu, Result.andThen_ok, hgo, hck, e1, hgk, hstay, hso, Sem.run_pure, hgb]
                · simp only [VR]; exact ⟨_, rfl, VRs.cons hv' (VRs.one (by simp [VR, goInt]))⟩
              · trivial
            · trivial
          · rename_i hf
            obtain ⟨r', e1, hr'⟩ := findKey_sound O R hd hk hf hes
            simp only [FindR] at hr'; subst hr'
            obtain ⟨R', G'⟩ := R.put hl hsome (o := .map (es ++ [(k, z, clock)]) (clock + 1)) (ro := .map (res.push { key := vk, val := vz, born := clock }) (clock + 1))
              ⟨_, rfl, by rw [Array.toList_push]; exact hes.append (by simp only [EntsR]; exact ⟨_, _, rfl, ⟨hk, hvr, rfl⟩, rfl⟩)⟩
            refine ⟨.tuple #[vz, goInt clock], _, μ, ?_, R', G', ?_⟩
            · simp only [Instr.mapEntry, Sem.run_bind, O.runUnd hu, Result.andThen_ok, hgo, hck, e1, evz, hso, Sem.run_pure]
            · simp only [VR]; exact ⟨_, rfl, VRs.cons hvr (VRs.one (by simp [VR, goInt]))⟩
          · trivial
        · trivial
      · trivial
  · trivial

theorem EntsR.findIdx {p : SV × SV × Nat → Bool} {q : MapEntry → Bool} (hpq : ∀ x y, EntR μ x y → p x = q y) : ∀ {es : List (SV × SV × Nat)} {res : List MapEntry}, EntsR μ es res → es.findIdx? p = res.findIdx? q
  | [], _, k => by simp only [EntsR] at k; subst k; simp
  | a :: s, _, k => by
    simp only [EntsR] at k
    obtain ⟨y, ys, rfl, hy, hys⟩ := k
    simp only [List.findIdx?_cons, hpq a y hy, EntsR.findIdx hpq hys]

theorem entryStore_sound (R : Rel μ h w₀ w) (t : TypeId) {m s v : SV} {vm vs vv : Value} (hm : VR μ m vm) (hs : VR μ s vs) (hv : VR μ v vv) :
    UnitR μ h w₀ (entryStoreS m s v h) ((Instr.entryStore t vm vs vv).run P w) := by
  unfold entryStoreS
  split
  · rename_i r k n
    simp only [VR] at hm hs; obtain ⟨l, hl, rfl⟩ := hm; subst hs
    split
    · rename_i es clock hg
      obtain ⟨res, hres, hes⟩ := R.obj _ _ _ hl hg
      have hgo := run_getObj (P := P) hres (fun c e f => by simp)
      have hso := fun o' => run_setObj (P := P) (o' := o') hres (fun c e f => by simp)
      have hsome : (h.t.get r).isSome = true := by simp [hg]
      split
      · rename_i i hi
        have hfi : res.findIdx? (fun e => (e.born : Int) == n) = some i := by
          have h1 := EntsR.findIdx (p := fun e => (e.2.2 : Int) == n) (q := fun e => (e.born : Int) == n) (fun x y hxy => by rw [hxy.2.2]) hes
          rw [hi] at h1
          have h2 : res.findIdx? (fun e => (e.born : Int) == n) = res.toList.findIdx? (fun e => (e.born : Int) == n) := by
            cases res with
            | mk l => exact List.findIdx?_toArray _ l
          rw [h2, ← h1]
        obtain ⟨R', G'⟩ := R.put hl hsome (o := .map (es.modify i fun e => (e.1, v, e.2.2)) clock) (ro := .map (res.modify i fun e => { e with val := vv }) clock)
          ⟨_, rfl, by rw [toList_modify]; exact hes.modify i fun x z h1 h2 hxz => ⟨hxz.1, hv, hxz.2.2⟩⟩
        refine ⟨rfl, _, μ, ?_, R', G'⟩
        simp only [Instr.entryStore, Sem.run_bind, hgo, Result.andThen_ok, asInt, asIntOf, Sem.run_pure, hfi, hso]
      · trivial
    · trivial
  · trivial

theorem delete_sound (O : EnvOK P E) (R : Rel μ h w₀ w) (argTypes : Array TypeId) (ty : TypeId) {args : List SV} {vargs : Array Value} (ha : VRs μ args vargs.toList) :
    ValR μ h w₀ (deleteS E argTypes args h) ((Builtin.delete_ argTypes ty vargs).run P w) := by
  unfold deleteS
  split
  · rename_i t m k h0
    obtain ⟨vm, vk, rfl, hm, hk⟩ := ha.two
    split
    · rename_i key elem hu
      split
      · trivial
      · rename_i hko
        have hko' : keyOk E 100 key k = true := by simpa using hko
        obtain ⟨d, hd⟩ := keyOk_und hko'
        have hck : ∀ e : Bool, (Instr.checkKey e 10000 key vk).run P w = .ok () w := fun e => checkKey_sound O e 100 key k vk hko' hk 10000 (by decide)
        split
        · simp only [VR] at hm; subst hm
          simp only [Builtin.delete_, h0, List.getElem?_toArray, List.getElem?_cons_zero, List.getElem?_cons_succ, Sem.run_bind, O.runUnd hu, Result.andThen_ok, hck, Sem.run_pure]
          exact ValR.same R (VR.undef μ)
        · rename_i r
          simp only [VR] at hm; obtain ⟨l, hl, rfl⟩ := hm
          split
          · rename_i es clock hg
            obtain ⟨res, hres, hes⟩ := R.obj _ _ _ hl hg
            have hgo := run_getObj (P := P) hres (fun c e f => by simp)
            have hso := fun o' => run_setObj (P := P) (o' := o') hres (fun c e f => by simp)
            have hsome : (h.t.get r).isSome = true := by simp [hg]
            split
            · rename_i i sv hf
              obtain ⟨r', e1, v', rfl, hv'⟩ := findKey_sound O R hd hk hf hes
              obtain ⟨R', G'⟩ := R.put hl hsome (o := .map (es.eraseIdx i) clock) (ro := .map (res.eraseIdxIfInBounds i) clock)
                ⟨_, rfl, by rw [Array.toList_eraseIdxIfInBounds]; exact hes.erase i⟩
              refine ⟨.tuple #[], _, μ, ?_, R', G', VR.undef μ⟩
              simp only [Builtin.delete_, h0, List.getElem?_toArray, List.getElem?_cons_zero, List.getElem?_cons_succ, Sem.run_bind, O.runUnd hu, Result.andThen_ok, hgo, hck, e1, hso, Sem.run_pure]
            · rename_i hf
              obtain ⟨r', e1, hr'⟩ := findKey_sound O R hd hk hf hes
              simp only [FindR] at hr'; subst hr'
              obtain ⟨R', G'⟩ := R.put hl hsome (o := .map es clock) (ro := .map res clock) ⟨_, rfl, hes⟩
              refine ⟨.tuple #[], _, μ, ?_, R', G', VR.undef μ⟩
              simp only [Builtin.delete_, h0, List.getElem?_toArray, List.getElem?_cons_zero, List.getElem?_cons_succ, Sem.run_bind, O.runUnd hu, Result.andThen_ok, hgo, hck, e1, hso, Sem.run_pure]
            · trivial
          · trivial
        · trivial
    · trivial
  · trivial

theorem clear_sound (O : EnvOK P E) (R : Rel μ h w₀ w) (argTypes : Array TypeId) (ty : TypeId) {args : List SV} {vargs : Array Value} (ha : VRs μ args vargs.toList) :
    ValR μ h w₀ (clearS E argTypes args h) ((Builtin.clear_ argTypes ty vargs).run P w) := by
  unfold clearS
  split
  · rename_i t x h0
    obtain ⟨v, rfl, hv⟩ := ha.single
    split
    · rename_i d hu
      simp only [VR] at hv; subst hv
      simp only [Builtin.clear_, h0, List.getElem?_toArray, List.getElem?_cons_zero, Sem.run_bind, O.runUnd hu, Result.andThen_ok, Sem.run_pure]
      exact ValR.same R (VR.undef μ)
    · rename_i d hu
      simp only [VR] at hv; subst hv
      simp only [Builtin.clear_, h0, List.getElem?_toArray, List.getElem?_cons_zero, Sem.run_bind, O.runUnd hu, Result.andThen_ok, Sem.run_pure]
      exact ValR.same R (VR.undef μ)
    · rename_i d r hu
      simp only [VR] at hv; obtain ⟨l, hl, rfl⟩ := hv
      split
      · rename_i es clock hg
        obtain ⟨res, hres, hes⟩ := R.obj _ _ _ hl hg
        have hgo := run_getObj (P := P) hres (fun c e f => by simp)
        have hso := fun o' => run_setObj (P := P) (o' := o') hres (fun c e f => by simp)
        have hsome : (h.t.get r).isSome = true := by simp [hg]
        obtain ⟨R', G'⟩ := R.put hl hsome (o := .map [] clock) (ro := .map #[] clock) ⟨_, rfl, by simp [EntsR]⟩
        refine ⟨.tuple #[], _, μ, ?_, R', G', VR.undef μ⟩
        simp only [Builtin.clear_, h0, List.getElem?_toArray, List.getElem?_cons_zero, Sem.run_bind, O.runUnd hu, Result.andThen_ok, hgo, hso, Sem.run_pure]
      · trivial
    · rename_i e b o n cap hu
      simp only [VR] at hv; obtain ⟨l, a, c, hb, rfl, had, hcap, hlen⟩ := hv
      split
      · rename_i hn0
        subst hn0
        simp only [Builtin.clear_, h0, List.getElem?_toArray, List.getElem?_cons_zero, Sem.run_bind, O.runUnd hu, Result.andThen_ok, Sem.run_pure]
        exact ValR.same R (VR.undef μ)
      · rename_i hn0
        split
        · rename_i z hz
          split
          · rename_i h' hst
            obtain ⟨vz, evz, hvz⟩ := O.runZero (w := w) hz
            have hvr : VR μ z vz := hvz ▸ VR.ofValue μ vz
            by_cases hkn : z.known = true
            · have hzc := VR.cells hkn hvr
              have hrep := rep_sound hzc n
              have hl := hzc.length
              simp only [Array.length_toList] at hl
              have hzz : (Builtin.zeroCells vz.cells n).toList = (List.range (n * z.cells.length)).map fun i => vz.cells[i % vz.cells.size]! := by
                simp [Builtin.zeroCells, hl]
              rw [← hzz] at hrep
              obtain ⟨w', e', R', G'⟩ := run_stores (P := P) R hb hst hrep
              obtain ⟨m, rfl⟩ : ∃ m, n = m + 1 := ⟨n - 1, by omega⟩
              rw [had.resolve_left (by omega)]
              refine ⟨.tuple #[], w', μ, ?_, R', G', VR.undef μ⟩
              simp only [Builtin.clear_, h0, List.getElem?_toArray, List.getElem?_cons_zero, Sem.run_bind, O.runUnd hu, Result.andThen_ok, evz, e', Sem.run_pure]
            · exfalso
              have : z = .any := by cases z <;> simp_all [SV.known]
              subst this
              unfold storeCellsS at hst
              split at hst
              · split at hst
                · rename_i hc
                  simp only [Bool.and_eq_true, rep, SV.cells] at hc
                  obtain ⟨m, rfl⟩ : ∃ m, n = m + 1 := ⟨n - 1, by omega⟩
                  simp [List.replicate_succ, SV.one] at hc
                · cases hst
              · cases hst
          · trivial
        · trivial
    · trivial
  · trivial
end
end Go.Sh

namespace Go.Sh
open Go.RowKit
variable [Syms]
section
variable {P : Program} {E : Env} {w w₀ : World} {μ : Mu} {h : Hp}

theorem range_sound (O : EnvOK P E) (R : Rel μ h w₀ w) (t : TypeId) {x : SV} {vx : Value} (hx : VR μ x vx) : ValR μ h w₀ (rangeS E t x h) ((Instr.range t vx).run P w) := by
  unfold rangeS
  split
  · rename_i s hu
    simp only [VR] at hx; obtain ⟨b, rfl, rfl, rfl⟩ := hx
    obtain ⟨R', G'⟩ := Rel.alloc (n := 0) R (o := .stringIter (bytesOf b) 0) (ro := .stringIter b 0) ⟨b, rfl, rfl, rfl⟩
    refine ⟨.pointer (some ⟨w.heap.size, 0, none⟩), _, _, ?_, R', G', ?_⟩
    · simp [Instr.range, O.runUnd hu]
    · simp only [VR]; exact ⟨_, by simp only [Mu.set, if_true]; rfl, rfl⟩
  · rename_i k e hu
    simp only [VR] at hx; subst hx
    obtain ⟨R', G'⟩ := Rel.alloc (n := 0) R (o := .mapIter none 0 [] 0) (ro := .mapIter none 0 #[] 0) ⟨none, rfl, rfl, rfl⟩
    refine ⟨.pointer (some ⟨w.heap.size, 0, none⟩), _, _, ?_, R', G', ?_⟩
    · simp [Instr.range, O.runUnd hu]
    · simp only [VR]; exact ⟨_, by simp only [Mu.set, if_true]; rfl, rfl⟩
  · rename_i k e m hu
    simp only [VR] at hx; obtain ⟨l, hl, rfl⟩ := hx
    split
    · rename_i es clock hg
      obtain ⟨res, hres, hes⟩ := R.obj _ _ _ hl hg
      have hgo := run_getObj (P := P) hres (fun c e f => by simp)
      obtain ⟨R', G'⟩ := Rel.alloc (n := 0) R (o := .mapIter (some m) clock [] clock) (ro := .mapIter (some l.r) clock #[] clock) ⟨_, rfl, rfl, l, Mu.le_set R.fresh _ _ hl, rfl⟩
      refine ⟨.pointer (some ⟨w.heap.size, 0, none⟩), _, _, ?_, R', G', ?_⟩
      · simp [Instr.range, O.runUnd hu, hgo]
      · simp only [VR]; exact ⟨_, by simp only [Mu.set, if_true]; rfl, rfl⟩
    · trivial
  · trivial

def CandR (μ : Mu) : Option (SV × SV × Nat) → Option MapEntry → Prop
  | none, r => r = none
  | some a, r => ∃ e, r = some e ∧ EntR μ a e

def CandsR (μ : Mu) (a : List (Option (SV × SV × Nat))) (b : List (Option MapEntry)) : Prop :=
  a.length = b.length ∧ ∀ (i : Nat) x, b[i]? = some x → ∃ y, a[i]? = some y ∧ CandR μ y x

theorem CandsR.some_map : ∀ {es : List (SV × SV × Nat)} {res : List MapEntry}, EntsR μ es res → CandsR μ (es.map some) (res.map some)
  | [], _, k => by simp only [EntsR] at k; subst k; exact ⟨rfl, fun i x hx => by simp at hx⟩
  | a :: s, _, k => by
    simp only [EntsR] at k
    obtain ⟨y, ys, rfl, hy, hys⟩ := k
    obtain ⟨h1, h2⟩ := CandsR.some_map hys
    refine ⟨by simpa using h1, fun i x hx => ?_⟩
    cases i with
    | zero => simp at hx; subst hx; exact ⟨some a, by simp, ⟨y, rfl, hy⟩⟩
    | succ i => simpa using h2 i x (by simpa using hx)

theorem CandsR.cons_none {a : List (Option (SV × SV × Nat))} {b : List (Option MapEntry)} (k : CandsR μ a b) : CandsR μ (none :: a) (none :: b) := by
  refine ⟨by simpa using k.1, fun i x hx => ?_⟩
  cases i with
  | zero => simp at hx; subst hx; exact ⟨none, by simp, rfl⟩
  | succ i => simpa using k.2 i x (by simpa using hx)

theorem decodeBytes {b : ByteArray} : (⟨⟨(bytesOf b).map Nat.toUInt8⟩⟩ : ByteArray) = b := by
  obtain ⟨⟨l⟩⟩ := b
  simp only [bytesOf, List.map_map]
  congr 2
  induction l with
  | nil => rfl
  | cons a l ih => simp [Nat.toUInt8, ih]

theorem next_sound (R : Rel μ h w₀ w) (s : Bool) (ty : TypeId) {it : SV} {vit : Value} (hi : VR μ it vit) : ValR μ h w₀ (nextS it s h) ((Instr.next vit s ty).run P w) := by
  unfold nextS
  split
  · rename_i r
    simp only [VR] at hi; obtain ⟨l, hl, rfl⟩ := hi
    split
    · -- over a text
      rename_i str pos hg
      obtain ⟨b, hres, rfl, hδ⟩ := R.obj _ _ _ hl hg
      have hsome : (h.t.get r).isSome = true := by simp [hg]
      have hgo := run_getObj (P := P) hres (fun c e f => by simp)
      have hso := fun o' => run_setObj (P := P) (o' := o') hres (fun c e f => by simp)
      have hd : l.δ + 0 = l.δ := rfl
      rw [bytesOf_length]
      · split
        · rename_i hlt
          simp only [decodeBytes]
          obtain ⟨R', G'⟩ := R.put hl hsome (o := .stringIter (bytesOf b) (pos + (Utf8.decode b pos).2)) (ro := .stringIter b (pos + (Utf8.decode b pos).2)) ⟨b, rfl, rfl, hδ⟩
          refine ⟨.tuple #[.bool true, goInt pos, .int .i32 (Utf8.decode b pos).1], _, μ, ?_, R', G', ?_⟩
          · simp only [Instr.next, hδ, Nat.zero_add, Sem.run_bind, hgo, Result.andThen_ok, hlt, if_true, hso, Sem.run_pure]
          · simp only [VR]; exact ⟨_, rfl, VRs.cons (by simp [VR]) (VRs.cons (by simp [VR, goInt]) (VRs.one (by simp [VR])))⟩
        · rename_i hlt
          have : (Instr.next (.pointer (some ⟨l.r, l.δ + 0, none⟩)) true ty).run P w = .ok (.tuple #[.bool false]) w := by
            simp only [Instr.next, hδ, Nat.zero_add, Sem.run_bind, hgo, Result.andThen_ok, hlt, if_false, Sem.run_pure]
          rw [this]
          exact ValR.same R (by simp only [VR]; exact ⟨_, rfl, VRs.one (by simp [VR])⟩)
    · rename_i since seen last hg
      obtain ⟨m', hres, hδ, hm'⟩ := R.obj _ _ _ hl hg
      simp only [OptR] at hm'; subst hm'
      have hgo := run_getObj (P := P) hres (fun c e f => by simp)
      · have : (Instr.next (.pointer (some ⟨l.r, l.δ + 0, none⟩)) false ty).run P w = .ok (.tuple #[.bool false]) w := by
          simp only [Instr.next, hδ, Nat.zero_add, Sem.run_bind, hgo, Result.andThen_ok, Sem.run_pure]
        rw [this]
        exact ValR.same R (by simp only [VR]; exact ⟨_, rfl, VRs.one (by simp [VR])⟩)
    · rename_i m since seen last hg
      obtain ⟨m', hres, hδ, lm, hlm, rfl⟩ := R.obj _ _ _ hl hg
      have hsome : (h.t.get r).isSome = true := by simp [hg]
      have hgo := run_getObj (P := P) hres (fun c e f => by simp)
      have hso := fun (k : Nat) o' => run_setObj (P := P) (w := World.at w k) (o' := o') hres (fun c e f => by simp)
      split
      · rename_i es clock hgm
        obtain ⟨res, hresm, hes⟩ := R.obj _ _ _ hlm hgm
        have hgom := run_getObj (P := P) hresm (fun c e f => by simp)
        split
        · trivial
        · rename_i hgone
          · have hgone' : ¬ ((!seen.toArray.isEmpty && !res.isEmpty && res.all fun x => decide (x.born ≥ last)) = true) := by
              intro hc
              apply hgone
              have hl1 := hes.length
              have : ∀ (es : List (SV × SV × Nat)) (rl : List MapEntry), EntsR μ es rl → (rl.all fun x => decide (x.born ≥ last)) = (es.all fun e => decide (last ≤ e.2.2)) := by
                intro es
                induction es with
                | nil => intro rl k; simp only [EntsR] at k; subst k; rfl
                | cons a es ih => intro rl k; simp only [EntsR] at k; obtain ⟨y, ys, rfl, hy, hys⟩ := k; simp only [List.all_cons, ih _ hys, hy.2.2, ge_iff_le]
              have h2 := this _ _ hes
              simp only [Bool.and_eq_true] at hc ⊢
              refine ⟨⟨?_, ?_⟩, ?_⟩
              · simpa using hc.1.1
              · have := hc.1.2
                simp only [Bool.not_eq_true', Array.isEmpty_eq_false_iff, List.isEmpty_eq_false_iff] at this ⊢
                intro e
                subst e
                simp only [EntsR] at hes
                apply this
                exact Array.toList_inj.1 (by simpa using hes)
              · rw [← h2]; simpa using hc.2
            have hleft : EntsR μ (es.filter fun e => !seen.contains e.2.2) (res.toList.filter fun e => !seen.toArray.contains e.born) := EntsR.filter (fun x y hxy => by rw [hxy.2.2]; simp) hes
            have hold : EntsR μ ((es.filter fun e => !seen.contains e.2.2).filter fun e => decide (e.2.2 < since)) ((res.toList.filter fun e => !seen.toArray.contains e.born).filter fun e => decide (e.born < since)) := EntsR.filter (fun x y hxy => by rw [hxy.2.2]) hleft
            have hnew : EntsR μ ((es.filter fun e => !seen.contains e.2.2).filter fun e => decide (since ≤ e.2.2)) ((res.toList.filter fun e => !seen.toArray.contains e.born).filter fun e => decide (e.born ≥ since)) := EntsR.filter (fun x y hxy => by rw [hxy.2.2]) hleft
            let ol := (res.filter fun e => !seen.toArray.contains e.born).filter fun e => decide (e.born < since)
            let nl := (res.filter fun e => !seen.toArray.contains e.born).filter fun e => decide (e.born ≥ since)
            let cands := (if ol.isEmpty then #[none] else #[]) ++ (ol ++ nl).map some
            have hcands : CandsR μ (candsS es since seen) cands.toList := by
              have hol : ol.toList = (res.toList.filter fun e => !seen.toArray.contains e.born).filter fun e => decide (e.born < since) := by simp [ol]
              have hnl : nl.toList = (res.toList.filter fun e => !seen.toArray.contains e.born).filter fun e => decide (e.born ≥ since) := by simp [nl]
              have hmap : CandsR μ (((es.filter fun e => !seen.contains e.2.2).filter (fun e => decide (e.2.2 < since)) ++ (es.filter fun e => !seen.contains e.2.2).filter (fun e => decide (since ≤ e.2.2))).map some) ((ol ++ nl).map some).toList := by
                rw [Array.toList_map, Array.toList_append, hol, hnl]
                exact CandsR.some_map (hold.append hnew)
              unfold candsS
              simp only
              have hempty : ol.isEmpty = ((es.filter fun e => !seen.contains e.2.2).filter fun e => decide (e.2.2 < since)).isEmpty := by
                have hl2 := hold.length
                rw [← hol] at hl2
                rw [Bool.eq_iff_iff, Array.isEmpty_iff_size_eq_zero, List.isEmpty_iff_length_eq_zero, hl2]
                simp
              simp only [cands, hempty]
              split
              · simp only [Array.toList_append, List.cons_append, List.nil_append]
                exact hmap.cons_none
              · simpa using hmap
            have hpos : 0 < cands.size := by
              simp only [cands]
              by_cases he : ol.isEmpty = true
              · simp [he]; omega
              · rw [if_neg he]
                have : ol.size ≠ 0 := fun h0 => he (by simpa [Array.isEmpty_iff_size_eq_zero] using h0)
                simp; omega
            obtain ⟨k, kw, hk, hrun⟩ : ∃ k kw, k < cands.size ∧ (choose (.mapNext cands.size)).run P w = .ok k (World.at w kw) := by
              rw [run_choose]
              by_cases hf : (Question.mapNext cands.size).forced = true
              · exact ⟨0, w.drawn, hpos, by rw [if_pos hf]; rfl⟩
              · refine ⟨_, w.drawn + 1, ?_, by rw [if_neg hf]; rfl⟩
                simp only [Question.cut]
                exact Nat.mod_lt _ hpos
            obtain ⟨y, hy, hyr⟩ := hcands.2 k cands[k] (by simp [hk])
            have hrun2 : (Instr.next (.pointer (some ⟨l.r, l.δ + 0, none⟩)) false ty).run P w =
                (match cands[k]? with
                  | some (some e) => (do setObj l.r (.mapIter (some lm.r) since (seen.toArray.push e.born) clock); pure (.tuple #[.bool true, e.key, e.val]) : Sem Value)
                  | some none => pure (.tuple #[.bool false])
                  | none => stuck "Next: no such candidate").run P (World.at w kw) := by
              simp only [Instr.next, hδ, Nat.zero_add, Sem.run_bind, hgo, Result.andThen_ok, hgom, hgone', if_false, Bool.false_eq_true]
              have hrun' := hrun
              simp only [cands, ol, nl] at hrun'
              rw [hrun']
              rfl
            rw [hrun2]
            have hmem : nextGo r m since seen clock h y ∈ (candsS es since seen).map (nextGo r m since seen clock h) := List.mem_map.2 ⟨y, List.mem_of_getElem? hy, rfl⟩
            refine ⟨_, hmem, ?_⟩
            rw [Array.getElem?_eq_getElem hk]
            generalize cands[k] = c at hyr ⊢
            have Rk : Rel μ h w₀ (World.at w kw) := Rel.at (R := R) kw
            cases y with
            | none =>
              simp only [CandR] at hyr; subst hyr
              exact ⟨.tuple #[.bool false], World.at w kw, μ, rfl, Rk, Grow.refl μ h, by simp only [nextGo, VR]; exact ⟨_, rfl, VRs.one (by simp [VR])⟩⟩
            | some a =>
              obtain ⟨e, rfl, hke, hve, hbe⟩ := hyr
              obtain ⟨R', G'⟩ := Rk.put hl hsome (o := .mapIter (some m) since (seen ++ [a.2.2]) clock) (ro := .mapIter (some lm.r) since (seen.toArray.push e.born) clock)
                ⟨_, by rw [hbe]; simp, hδ, lm, hlm, rfl⟩
              refine ⟨.tuple #[.bool true, e.key, e.val], _, μ, ?_, R', G', ?_⟩
              · simp only [Sem.run_bind, hso, Result.andThen_ok, Sem.run_pure]
              · simp only [nextGo, VR]; exact ⟨_, rfl, VRs.cons (by simp [VR]) (VRs.cons hke (VRs.one hve))⟩
      · trivial
    · trivial
  · trivial
end
end Go.Sh

namespace Go.Sh
open Go.RowKit
variable [Syms]
section
variable {P : Program} {E : Env} {w w₀ : World} {μ : Mu} {h : Hp}

def NextR (P : Program) (μ : Mu) (h : Hp) (w₀ w : World) : OR → Result Next → Prop
  | .val v h', res => ∃ x w' μ', (res = .ok (.value x) w' ∨ (res = .ok .skip w' ∧ x = undef)) ∧ Rel μ' h' w₀ w' ∧ Grow μ h μ' h' ∧ VR μ' v x
  | .enter f args, res => ∃ as, res = .ok (.enter f as) w ∧ Rel μ h w₀ w ∧ VRs μ args as.toList
  | .defer d, res => ∃ d' w', res = .ok (.defer d') w' ∧ Rel μ h w₀ w' ∧ DefR μ d d'
  | .recover, res => ∃ w', res = .ok .recover w' ∧ Rel μ h w₀ w'
  | .round l args, res => ∃ loc as, μ l = some loc ∧ VRs μ args as.toList ∧ res = (Instr.yield loc.r as).run P w
  | .panic v, res => ∃ x w', res = .halt (.panic x) w' ∧ Rel μ h w₀ w' ∧ VR μ v x
  | .fork l, res => ∃ p ∈ l, ∃ x w' μ', res = .ok (.value x) w' ∧ Rel μ' p.2 w₀ w' ∧ Grow μ h μ' p.2 ∧ VR μ' p.1 x
  | .fail _, _ => True

theorem NextR.ofVal {r : OR} {s : Sem Value} (k : ValR μ h w₀ r (s.run P w)) : NextR P μ h w₀ w r ((do pure (.value (← s)) : Sem Next).run P w) := by
  simp only [Sem.run_bind, Sem.run_pure]
  cases r <;> simp only [ValR] at k
  · obtain ⟨x, w', μ', e, R, G, hv⟩ := k; rw [e]; exact ⟨x, w', μ', .inl rfl, R, G, hv⟩
  · obtain ⟨x, w', e, R, hv⟩ := k; rw [e]; exact ⟨x, w', rfl, R, hv⟩
  · obtain ⟨p, hp, x, w', μ', e, R, G, hv⟩ := k; rw [e]; exact ⟨p, hp, x, w', μ', rfl, R, G, hv⟩
  · trivial

theorem NextR.ofUnit {r : OR} {s : Sem Unit} (k : UnitR μ h w₀ r (s.run P w)) : NextR P μ h w₀ w r ((do s; pure .skip : Sem Next).run P w) := by
  simp only [Sem.run_bind, Sem.run_pure]
  cases r <;> simp only [UnitR] at k
  · obtain ⟨rfl, w', μ', e, R, G⟩ := k; rw [e]; exact ⟨undef, w', μ', .inr ⟨rfl, rfl⟩, R, G, VR.undef _⟩
  · obtain ⟨x, w', e, R, hv⟩ := k; rw [e]; exact ⟨x, w', rfl, R, hv⟩
  · trivial

theorem NextR.nilDeref (O : EnvOK P E) (R : Rel μ h w₀ w) : NextR P μ h w₀ w (nilDerefS E) ((runtimePanic .nilDeref : Sem Next).run P w) := by
  refine ⟨.iface P.rt.errorString (strVal "invalid memory address or nil pointer dereference"), w, by simp [runtimePanic], R, ?_⟩
  simp only [VR, O.rt]
  exact ⟨_, rfl, VR.str μ _⟩

theorem entry_sound (R : Rel μ h w₀ w) {it : SV} {vit : Value} (hi : VR μ it vit) : ValR μ h w₀ (entryS it h) ((Instr.entry vit).run P w) := by
  unfold entryS
  split
  · rename_i r
    simp only [VR] at hi; obtain ⟨l, hl, rfl⟩ := hi
    split
    · rename_i m since seen stepped hg
      obtain ⟨m', hres, hδ, lm, hlm, rfl⟩ := R.obj _ _ _ hl hg
      have hgo := run_getObj (P := P) hres (fun c e f => by simp)
      split
      · rename_i stamp es clock hst hgm
        obtain ⟨res, hresm, hes⟩ := R.obj _ _ _ hlm hgm
        have hgom := run_getObj (P := P) hresm (fun c e f => by simp)
        split
        · trivial
        · rename_i hcl
          have hcl' := Classical.not_not.1 hcl
          split
          · rename_i e he
            have hfind : ∃ y, res.find? (fun e => e.born == stamp) = some y ∧ EntR μ e y := by
              have : ∀ (es : List (SV × SV × Nat)) (rl : List MapEntry), EntsR μ es rl → es.find? (fun e => e.2.2 == stamp) = some e → ∃ y, rl.find? (fun e => e.born == stamp) = some y ∧ EntR μ e y := by
                intro es
                induction es with
                | nil => intro rl _ h; simp at h
                | cons a es ih =>
                  intro rl k hf
                  simp only [EntsR] at k
                  obtain ⟨y, ys, rfl, hy, hys⟩ := k
                  simp only [List.find?_cons, hy.2.2] at hf ⊢
                  split at hf
                  · cases hf; exact ⟨y, rfl, hy⟩
                  · exact ih _ hys hf
              obtain ⟨y, h1, h2⟩ := this _ _ hes he
              refine ⟨y, ?_, h2⟩
              rw [← h1]
              cases res with
              | mk l => simp
            obtain ⟨y, hy, hyr⟩ := hfind
            have hback : seen.toArray.back? = some stamp := by simpa using hst
            have : (Instr.entry (.pointer (some ⟨l.r, l.δ + 0, none⟩))).run P w = .ok (.tuple #[y.key, y.val]) w := by
              simp only [Instr.entry, hδ, Nat.zero_add, Sem.run_bind, hgo, Result.andThen_ok, hback, hgom, hcl', bne_self_eq_false, Bool.false_eq_true, if_false, hy, Sem.run_pure]
            rw [this]
            refine ValR.same R ?_
            simp only [VR]; exact ⟨_, rfl, VRs.cons hyr.1 (VRs.one hyr.2.1)⟩
          · trivial
      · trivial
    · trivial
  · trivial

theorem typeAssert_sound (O : EnvOK P E) (R : Rel μ h w₀ w) (xt t : TypeId) (ok : Bool) {x : SV} {vx : Value} (hx : VR μ x vx) :
    ValR μ h w₀ (typeAssertS E x t ok h) ((Instr.typeAssert vx xt t ok).run P w) := by
  have hholds : ∀ (v : SV) (vv : Value), VR μ v vv → ValR μ h w₀ (.val (if ok then .tuple [v, .bool true] else v) h) (.ok (if ok then .tuple #[vv, .bool true] else vv) w) := by
    intro v vv hv
    refine ValR.same R ?_
    cases ok
    · exact hv
    · simp only [if_true, VR]; exact ⟨_, rfl, VRs.cons hv (VRs.one (by simp [VR]))⟩
  have hfails : ∀ (a b : Option TypeId) (m : String), ValR μ h w₀ (failsS E t ok h)
      ((if ok then (do pure (.tuple #[← zeroValue t, .bool false])) else runtimePanic (.typeAssertion a b t m) : Sem Value).run P w) := by
    intro a b m
    cases ok with
    | false => simp only [failsS]; trivial
    | true =>
      cases hz : E.zero t with
      | none => simp only [failsS, hz]; trivial
      | some z =>
        obtain ⟨v, ev, hv⟩ := O.runZero (w := w) hz
        have hvr : VR μ z v := hv ▸ VR.ofValue μ v
        simp only [failsS, hz, if_true, Sem.run_bind, ev, Result.andThen_ok, Sem.run_pure]
        exact ValR.same R (by simp only [VR]; exact ⟨_, rfl, VRs.cons hvr (VRs.one (by simp [VR]))⟩)
  unfold typeAssertS
  simp only
  split
  · rename_i ms hu
    simp only [VR] at hx; subst hx
    simp only [Instr.typeAssert, Sem.run_bind, O.runUnd hu, Result.andThen_ok]
    exact hfails none none ""
  · rename_i want t' v hu
    have hx' := hx
    simp only [VR] at hx; obtain ⟨y, rfl, hy⟩ := hx
    split
    · rename_i i hi
      simp only [Instr.typeAssert, Sem.run_bind, O.runUnd hu, Result.andThen_ok, O.runInfo hi]
      cases hm : Instr.missingMethod want i.methods with
      | none => simp only [Sem.run_pure, Option.isNone_none, if_true]; exact hholds _ _ hx'
      | some m => simp only [Option.isNone_some, Bool.false_eq_true, if_false]; exact hfails none (some t') m
    · trivial
  · rename_i d hni hu
    simp only [VR] at hx; subst hx
    have : ∀ ms, d ≠ .interface ms := fun ms e => hni ms e
    have e1 : (Instr.typeAssert .nilIface xt t ok).run P w = ((if ok then (do pure (.tuple #[← zeroValue t, .bool false])) else runtimePanic (.typeAssertion (some xt) none t "") : Sem Value).run P w) := by
      simp only [Instr.typeAssert, Sem.run_bind, O.runUnd hu, Result.andThen_ok]
    rw [e1]
    exact hfails (some xt) none ""
  · rename_i d t' v hni hu
    simp only [VR] at hx; obtain ⟨y, rfl, hy⟩ := hx
    have : ∀ ms, d ≠ .interface ms := fun ms e => hni ms e
    have e1 : (Instr.typeAssert (.iface t' y) xt t ok).run P w = ((if t' = t then (pure (if ok then .tuple #[y, .bool true] else y)) else (if ok then (do pure (.tuple #[← zeroValue t, .bool false])) else runtimePanic (.typeAssertion (some xt) (some t') t "")) : Sem Value).run P w) := by
      simp only [Instr.typeAssert, Sem.run_bind, O.runUnd hu, Result.andThen_ok]
    rw [e1]
    split
    · rename_i ht
      simp only [Sem.run_pure]
      exact hholds _ _ hy
    · exact hfails (some xt) (some t') ""
  · trivial
end
end Go.Sh

namespace Go.Sh
open Go.RowKit
variable [Syms]
section
variable {P : Program} {E : Env} {w w₀ : World} {μ : Mu} {h : Hp}

theorem VRs.pair {a b : SV} {v : Array Value} (k : VRs μ [a, b] v.toList) : ∃ x y, v = #[x, y] ∧ VR μ a x ∧ VR μ b y := by
  simp only [VRs] at k
  obtain ⟨x, xs, e, hx, y, ys, rfl, hy, rfl⟩ := k
  exact ⟨x, y, by apply Array.ext'; exact e, hx, hy⟩

theorem map_bytes : ∀ {ns : List Nat}, (∀ n ∈ ns, n < 256) → ns.map (UInt8.toNat ∘ Nat.toUInt8) = ns
  | [], _ => rfl
  | n :: r, h => by
    rw [List.map_cons, map_bytes fun m hm => h m (by simp [hm])]
    have := h n (by simp)
    congr 1
    simp [Nat.toUInt8]; omega

theorem cells?_get {b : Nat} {c : List SV} {m : Bool} (hc : h.cells? b = some (c, m)) : h.t.get b = some (.cells c m) := by
  unfold Hp.cells? at hc
  split at hc
  · rename_i c' m' hg; cases hc; exact hg
  · cases hc

theorem lies_bytes {e : TypeId} (hc : P.cellsOf e = 1) (count off n : Nat) (hn : off + n ≤ count) : liesAt P P.depth e count off e n = true := by
  have hd : P.depth = (2 * (P.types.size + Made.depth) + 1) + 1 := rfl
  rw [hd]
  simp only [liesAt, Bool.or_eq_true]
  left
  rw [hd]
  simp [rowAt, hc, hn, sameLayout, Nat.mod_one]

theorem run_unsafeString_at (pt it ty e : TypeId) (hp : P.underlying pt = some (.pointer e)) (hc : P.cellsOf e = 1) (g off cells : Nat) (hsh : w.shape? g = some (e, cells)) (l : List UInt8) (h0 : l ≠ []) (hn : off + l.length ≤ cells) (h63 : l.length ≤ 9223372036854775807)
    (hcell : ∀ j x, l[j]? = some x → w.cell? ((⟨g, off, none⟩ : Addr).add j) = some (.int .u8 x.toNat)) :
    (Builtin.unsafeString_ #[pt, it] ty #[.pointer (some ⟨g, off, none⟩), .int .i64 l.length]).run P w = .ok (.string ⟨l.toArray⟩) (w.freeze ⟨g, off, none⟩ l.length) := by
  have hl : l.length ≠ 0 := by simpa using h0
  have hlb := Lib.run_loadBytes (P := P) w l ⟨g, off, none⟩ .empty hcell
  have hlies := lies_bytes (P := P) hc (cells / P.cellsOf e) off l.length (by rw [hc]; simpa using hn)
  have h63' : ¬ (9223372036854775807 : Int) < (l.length : Int) := by omega
  have hdef : Builtin.unsafeString_ #[pt, it] ty #[.pointer (some ⟨g, off, none⟩), .int .i64 l.length] =
      (do
        let n ← asInt (.int .i64 l.length)
        if n < 0 then runtimePanic (.error "unsafe.String: len out of range")
        if n > IntKind.i64.max then unsupported (.unsafePointer "String: a length above the largest int")
        if n = 0 then pure (.string .empty)
        else if ← variablesAt ⟨g, off, none⟩ (← elemOf pt) n.toNat then do
          let s ← loadBytes ⟨g, off, none⟩ .empty n.toNat
          freeze ⟨g, off, none⟩ n.toNat
          pure (.string s)
        else unsupported (.unsafePointer "String: not so many bytes at ptr")) := rfl
  rw [hdef]
  have hmax : IntKind.i64.max = 9223372036854775807 := rfl
  have hneg : ¬ (l.length : Int) < 0 := by omega
  simp [asInt, asIntOf, hmax, h63', hneg, hl, variablesAt, hsh, elemOf, run_underlying hp, hlies, hlb]

theorem size_cellsOf (O : EnvOK P E) {t : TypeId} {n : Nat} (hn : E.size t = some n) : P.cellsOf t = n := by
  unfold Env.size at hn
  cases hi : E.info t with
  | none => simp [hi] at hn
  | some i => simp only [hi, Option.map_some, Option.some.injEq] at hn; simp [Program.cellsOf, O.info _ _ hi, hn]

theorem sliceData_sound (R : Rel μ h w₀ w) (at_ : Array TypeId) (ty : TypeId) {args : List SV} {vargs : Array Value} (ha : VRs μ args vargs.toList) :
    ValR μ h w₀ (sliceDataS args h) ((Builtin.unsafeSliceData_ at_ ty vargs).run P w) := by
  unfold sliceDataS
  split
  · obtain ⟨x, rfl, hx⟩ := ha.single
    simp only [VR] at hx; subst hx
    rw [Lib.run_unsafeSliceData_nil]
    exact ValR.same R (by simp [VR])
  · rename_i b o n c
    obtain ⟨x, rfl, hx⟩ := ha.single
    simp only [VR] at hx
    obtain ⟨l, a, c', hb, rfl, had, hcap, hlen⟩ := hx
    split
    · trivial
    · rename_i h0
      have hc' : c' ≠ 0 := by
        cases c <;> simp only [CapR, Cap.low] at hcap h0
        · rw [hcap]; exact h0
        · omega
      rw [Lib.run_unsafeSliceData_row w at_ ty a n c' hc']
      exact ValR.same R (by simp only [VR]; exact ⟨l, hb, by rw [had.resolve_left hc']⟩)
  · trivial

theorem unsafeString_sound (O : EnvOK P E) (R : Rel μ h w₀ w) (at_ : Array TypeId) (ty : TypeId) {args : List SV} {vargs : Array Value} (hat : at_.size = 2) (ha : VRs μ args vargs.toList) :
    ValR μ h w₀ (unsafeStringS E at_ args h) ((Builtin.unsafeString_ at_ ty vargs).run P w) := by
  obtain ⟨pt, it, rfl⟩ : ∃ a b, at_ = #[a, b] := by
    have hl : at_.toList.length = 2 := by simpa using hat
    cases e : at_.toList with
    | nil => rw [e] at hl; cases hl
    | cons a r =>
      cases r with
      | nil => rw [e] at hl; cases hl
      | cons b r =>
        cases r with
        | nil => exact ⟨a, b, by apply Array.ext'; exact e⟩
        | cons c r => rw [e] at hl; simp at hl
  unfold unsafeStringS
  split
  · rename_i n
    split
    · rename_i h0
      subst h0
      obtain ⟨x, y, rfl, hx, hy⟩ := ha.pair
      simp only [VR] at hx hy; subst hx; subst hy
      rw [Lib.run_unsafeString_none]
      exact ValR.same R (by simp only [VR]; exact ⟨_, rfl, rfl⟩)
    · trivial
  · rename_i b o n
    obtain ⟨x, y, rfl, hx, hy⟩ := ha.pair
    simp only [VR] at hx hy; obtain ⟨l, hb, rfl⟩ := hx; subst hy
    split
    · rename_i h0
      subst h0
      rw [Lib.run_unsafeString_none]
      exact ValR.same R (by simp only [VR]; exact ⟨_, rfl, rfl⟩)
    · rename_i h0
      split
      · trivial
      · rename_i hn
        simp only [List.getElem?_toArray, List.getElem?_cons_zero]
        split
        · rename_i e e' c m hpt hty hc
          split
          · rename_i hcond
            obtain ⟨rfl, he⟩ := hcond
            cases hsub : sub c o n.toNat with
            | none => simp only [Option.bind_none]; trivial
            | some s =>
              simp only [Option.bind_some]
              split
              · rename_i ns hns
                obtain ⟨rc, fz, hr⟩ := R.ty _ _ _ _ _ hb hty (cells?_get hc)
                obtain ⟨rc', e', fz', hr', hk⟩ := R.cells hb hc
                rw [hr] at hr'; cases hr'
                have hv := hk.sub hsub
                obtain ⟨h1, h2⟩ := takeBytes_spec hns hv
                obtain ⟨hs1, hs2, hs3⟩ := sub_eq hsub
                have hnl : ns.length = n.toNat := by
                  have := congrArg List.length h1
                  rw [← hv.length, hs2, List.length_map] at this
                  exact this.symm
                have hfit := hk.fits
                have hsz := hk.size
                have hle := hs3 (by omega)
                have hcells : ∀ j x, (ns.map Nat.toUInt8)[j]? = some x → w.cell? ((⟨l.r, l.δ + o, none⟩ : Addr).add j) = some (.int .u8 x.toNat) := by
                  intro j x hj
                  rw [List.getElem?_map, Option.map_eq_some_iff] at hj
                  obtain ⟨m', hm', rfl⟩ := hj
                  have hjl : j < ns.length := by
                    rcases Nat.lt_or_ge j ns.length with hh | hh
                    · exact hh
                    · simp [List.getElem?_eq_none hh] at hm'
                  have h4 : ((rc.toList.drop (l.δ + o)).take n.toNat)[j]? = some (Value.int .u8 ((m' : Nat) : Int)) := by rw [h1, List.getElem?_map, hm']; rfl
                  rw [List.getElem?_take, if_pos (by omega), List.getElem?_drop] at h4
                  have hlt := h2 m' (List.mem_of_getElem? hm')
                  rw [add_none, cell_at hr]
                  have h5 : rc[l.δ + o + j]? = some (Value.int .u8 ((m' : Nat) : Int)) := by simpa using h4
                  rw [h5]
                  have : (Nat.toUInt8 m').toNat = m' := by simp [Nat.toUInt8]; omega
                  rw [this]
                have hsh : w.shape? l.r = some (e, rc.size) := by simp [World.shape?, hr]
                have hrun := run_unsafeString_at (P := P) (w := w) pt it ty e (O.und _ _ hpt) (size_cellsOf O he) l.r (l.δ + o) rc.size hsh (ns.map Nat.toUInt8) (by
                  intro hh
                  rw [List.map_eq_nil_iff] at hh
                  rw [hh] at hnl
                  simp at hnl
                  omega) (by rw [List.length_map, hnl]; omega) (by rw [List.length_map, hnl]; omega) hcells
                rw [List.length_map, hnl, Int.toNat_of_nonneg (by omega)] at hrun
                rw [hrun]
                obtain ⟨R', G'⟩ := R.freeze hb (by rw [cells?_get hc]; rfl) (l.δ + o) n.toNat
                refine ⟨_, _, μ, rfl, R', G', ?_⟩
                simp only [VR]
                refine ⟨_, rfl, ?_⟩
                unfold bytesOf
                simp only [List.map_map]
                exact map_bytes h2
              · trivial
          · trivial
        · trivial
  · trivial
end
end Go.Sh

namespace Go.Sh
open Go.RowKit
variable [Syms]
section
variable {P : Program} {E : Env} {w w₀ : World} {μ : Mu} {h : Hp}

theorem bytesOf_back (b : ByteArray) : (⟨⟨(bytesOf b).map Nat.toUInt8⟩⟩ : ByteArray) = b := by
  obtain ⟨⟨l⟩⟩ := b
  simp only [bytesOf, List.map_map]
  congr 2
  induction l with
  | nil => rfl
  | cons a l ih => simp only [List.map_cons, ih]; congr 1; simp [Nat.toUInt8]

theorem anys_all {μ : Mu} : ∀ (l : List Value) (k : Nat), k ≤ l.length → VRs μ (List.replicate k .any) (l.take k)
  | _, 0, _ => by simp [VRs]
  | [], k + 1, h => by simp at h
  | v :: l, k + 1, h => by
    rw [List.replicate_succ, List.take_succ_cons]
    exact VRs.cons (by simp [VR]) (anys_all l k (by simpa using h))

theorem extern_sound (O : EnvOK P E) (R : Rel μ h w₀ w) {f : FuncId} {fn : Func} (hf : E.fn f = some fn) (hb : fn.body = none) {args : List SV} {vargs : Array Value} (ha : VRs μ args vargs.toList) :
    NextR P μ h w₀ w (externS E fn args h) ((callFunc f vargs).run P w) := by
  obtain ⟨hP, hname⟩ := O.fn _ _ hf
  obtain ⟨hnx, h1, h2, h3, h4, h5, h6, h7, h8⟩ := O.ext _ _ hf hb
  have hcall : ∀ e : Array Value → Sem Value, Extern.find fn = some e → (callFunc f vargs).run P w = ((do pure (.value (← e vargs)) : Sem Next).run P w) := by
    intro e he
    simp only [callFunc, Sem.run_bind, run_program, Result.andThen_ok, hP, hname, Bool.false_eq_true, if_false, hb, Option.isNone_none, if_true, run_mark, hnx, he]
  unfold externS
  split
  · rename_i b
    obtain ⟨v, rfl, hv⟩ := ha.single
    simp only [VR] at hv; subst hv
    split
    · rename_i hn
      rw [hcall _ (h1 hn)]
      exact NextR.ofVal (ValR.same R (by simp [VR]))
    · split
      · rename_i hn
        rw [hcall _ (h3 hn)]
        exact NextR.ofVal (ValR.scalar R _)
      · split
        · rename_i hn
          rw [hcall _ (h4 hn)]
          exact NextR.ofVal (ValR.scalar R _)
        · trivial
  · rename_i b
    obtain ⟨v, rfl, hv⟩ := ha.single
    simp only [VR] at hv; subst hv
    split
    · rename_i hn
      rw [hcall _ (h2 hn)]
      exact NextR.ofVal (ValR.same R (by simp [VR]))
    · trivial
  · rename_i s c
    obtain ⟨x, y, rfl, hx, hy⟩ := ha.pair
    simp only [VR] at hx hy; obtain ⟨b, rfl, rfl⟩ := hx; subst hy
    split
    · rename_i hn
      rw [hcall _ (h5 hn), bytesOf_back]
      exact NextR.ofVal (ValR.scalar R _)
    · split
      · rename_i hn
        rw [hcall _ (h6 hn), bytesOf_back]
        exact NextR.ofVal (ValR.scalar R _)
      · trivial
  · rename_i b o
    obtain ⟨v, rfl, hv⟩ := ha.single
    split
    · rename_i hn
      rw [hcall _ (h7 hn)]
      exact NextR.ofVal (ValR.same R hv)
    · trivial
  · rename_i n
    obtain ⟨v, rfl, hv⟩ := ha.single
    simp only [VR] at hv; subst hv
    split
    · rename_i hn
      obtain ⟨hn, h0, hmax⟩ := hn
      split
      · rename_i t ht
        split
        · rename_i e hu
          split
          · rename_i hsz
            rw [hcall _ (h8 hn)]
            have hrt : fn.resultTypes = #[t] := by apply Array.ext'; exact ht
            obtain ⟨k, rfl⟩ : ∃ k : Nat, n = (k : Int) := ⟨n.toNat, by omega⟩
            simp only [Int.toNat_natCast]
            obtain ⟨cs, hrun, hk, _⟩ := Lib.run_makeNoZero (P := P) w fn.params t e (O.und _ _ hu) k (by omega)
            rw [hrt]
            refine NextR.ofVal ?_
            rw [hrun]
            have R2 : Rel μ h w₀ (World.at w (w.drawn + 2)) := Rel.at (R := R) _
            have hw : w.drew.drew = World.at w (w.drawn + 2) := rfl
            rw [hw]
            have hobj : ObjR (μ.set h.nx ⟨w.heap.size, 0, cs.size⟩) ⟨w.heap.size, 0, cs.size⟩ (.cells (List.replicate k .any) true) (some (.cells cs e)) := by
              refine ⟨_, _, _, rfl, rfl, by simpa using hk, ?_, (fun e => by cases e), .inl rfl⟩
              simp only [List.drop_zero, List.length_replicate]
              exact anys_all _ k (by simpa using hk)
            obtain ⟨R3, G3⟩ := Rel.alloc (n := cs.size) R2 (o := .cells (List.replicate k .any) true) (ro := .cells cs e) hobj
            obtain ⟨R4, G4⟩ := R3.tag (b := h.nx) (t := e) (l := ⟨w.heap.size, 0, cs.size⟩) (by simp only [Mu.set, if_true]; rfl) ⟨_, _, heap_alloc_new' (World.at w (w.drawn + 2)) _⟩
            refine ⟨_, _, _, rfl, R4, G3.trans G4, ?_⟩
            simp only [VR]
            refine ⟨_, _, _, by simp only [Mu.set, if_true]; rfl, rfl, .inr rfl, ⟨hk, ?_⟩, hk⟩
            simp
          · trivial
        · trivial
      · trivial
    · trivial
  · trivial

theorem callFunc_sound (O : EnvOK P E) (R : Rel μ h w₀ w) (f : FuncId) {args : List SV} {vargs : Array Value} (ha : VRs μ args vargs.toList) : NextR P μ h w₀ w (callFuncS E f args h) ((callFunc f vargs).run P w) := by
  unfold callFuncS
  split
  · trivial
  · rename_i fn hf
    split
    · rename_i hb
      exact extern_sound O R hf (by simpa using hb) ha
    · rename_i hb
      obtain ⟨hP, hname⟩ := O.fn _ _ hf
      refine ⟨vargs, ?_, R, ha⟩
      simp only [callFunc, Sem.run_bind, run_program, Result.andThen_ok, hP, hname, Bool.false_eq_true, if_false, hb, Sem.run_pure]

theorem wrapNil (xt : TypeId) (a : Addr) (m : String) : Builtin.ssaWrapNilChk_ #[xt] xt #[.pointer (some a), strVal "", strVal m] = pure (.pointer (some a)) := rfl

theorem method_sound (O : EnvOK P E) (R : Rel μ h w₀ w) {t : TypeId} {v : SV} {vv : Value} {name : String} {f : FuncId} {r : SV} (hm : methodS E t v name h = some (f, r)) (hv : VR μ v vv) (n : Nat) :
    ∃ vr, (method (n + 1) t vv name).run P w = .ok (f, vr) w ∧ VR μ r vr := by
  unfold methodS at hm
  cases hi : E.info t with
  | none => simp [hi] at hm
  | some i =>
    simp only [hi] at hm
    cases hf : i.methods.find? (·.name == name) with
    | none => simp [hf] at hm
    | some m =>
      simp only [hf] at hm
      split at hm
      · rename_i f' e hpath hfn hu
        cases hm
        refine ⟨vv, ?_, hv⟩
        simp only [method, Sem.run_bind, O.runInfo hi, Result.andThen_ok, hf, hpath, follow, hfn, Sem.run_pure, receiverAt, O.runUnd hu, Place.get]
      · rename_i f' e hpath hfn hu
        cases hl : loadS E e v h with
        | none => simp [hl] at hm
        | some x =>
          simp only [hl, Option.map_some, Option.some.injEq, Prod.mk.injEq] at hm
          obtain ⟨rfl, rfl⟩ := hm
          have hpe : m.path.isEmpty = true := by simpa using congrArg List.isEmpty hpath
          unfold loadS at hl
          split at hl
          · rename_i b o
            simp only [VR] at hv; obtain ⟨l, hb, rfl⟩ := hv
            split at hl
            · rename_i c mo hc
              obtain ⟨y, ey, hy⟩ := run_loadVar O R hb hc hl
              refine ⟨y, ?_, hy⟩
              simp only [method, Sem.run_bind, O.runInfo hi, Result.andThen_ok, hf, hpath, follow, hfn, Sem.run_pure, receiverAt, O.runUnd hu, Place.get, hpe, if_true, wrapNil, asAddr, ey]
            · cases hl
          · rename_i g o
            simp only [VR] at hv; subst hv
            split at hl
            · rename_i c hc
              obtain ⟨y, ey, hy⟩ := run_loadGlob O R hc hl
              refine ⟨y, ?_, hy⟩
              simp only [method, Sem.run_bind, O.runInfo hi, Result.andThen_ok, hf, hpath, follow, hfn, Sem.run_pure, receiverAt, O.runUnd hu, Place.get, hpe, if_true, wrapNil, asAddr, ey]
            · cases hl
          · cases hl
      · rename_i f' d hnp hpath hfn hu
        cases hm
        refine ⟨vv, ?_, hv⟩
        have hnp' : ∀ e, d ≠ .pointer e := fun e he => hnp e he
        have hr : (receiverAt t (.val vv) false (if m.path.isEmpty = true then some ((name.splitOn ".").getLastD name) else none)).run P w = .ok vv w := by
          simp only [receiverAt, Sem.run_bind, O.runUnd hu, Result.andThen_ok]
          cases d <;> first | exact absurd rfl (hnp' _) | simp [Place.get]
        simp only [method, Sem.run_bind, O.runInfo hi, Result.andThen_ok, hf, hpath, follow, hfn, Sem.run_pure, hr]
      · rename_i s f' hpath hfn
        split at hm
        · rename_i b o fd hd hfo
          split at hm
          · rename_i n' fs hn hs
            cases hm
            obtain ⟨fs', hu', hg'⟩ := fieldOf_spec hfo
            simp only [VR] at hv; obtain ⟨l, hb, rfl⟩ := hv
            refine ⟨.pointer (some ⟨l.r, l.δ + o + fd.offset, none⟩), ?_, by simp only [VR]; exact ⟨l, hb, by rw [Nat.add_assoc]⟩⟩
            simp only [method, Sem.run_bind, O.runInfo hi, Result.andThen_ok, hf, hpath, follow, O.runUnd hu', hg', hd, if_true, Place.get, Sem.run_pure, asAddr, fieldPlace, O.runSize hn, Nat.succ_ne_zero, if_false, add_none, hfn, receiverAt, O.runUnd hs]
          · cases hm
        · cases hm
      · cases hm

theorem callMethod_sound (O : EnvOK P E) (R : Rel μ h w₀ w) {t : TypeId} {v : SV} {vv : Value} (name : String) (hv : VR μ v vv) {rest : List SV} {vrest : Array Value} (hr : VRs μ rest vrest.toList) :
    NextR P μ h w₀ w (callMethodS E t v name rest h) ((callMethod (.iface t vv) name vrest).run P w) := by
  unfold callMethodS
  split
  · rename_i f r hm
    obtain ⟨vr, e, hvr⟩ := method_sound O R hm hv (P.types.size + 99)
    simp only [callMethod, Sem.run_bind, run_program, Result.andThen_ok]
    have : P.types.size + Made.depth = P.types.size + 99 + 1 := rfl
    rw [this, e]
    simp only [Result.andThen_ok]
    exact callFunc_sound O R f (by simpa using VRs.cons hvr hr)
  · trivial

theorem builtin_sound (O : EnvOK P E) (R : Rel μ h w₀ w) (b : Builtin) (at_ : Array TypeId) (ty : TypeId) (cs : Array Bool) {args : List SV} {vargs : Array Value} (ha : VRs μ args vargs.toList) :
    NextR P μ h w₀ w (builtinS E b at_ args h) ((Go.builtin b at_ ty cs vargs).run P w) := by
  cases b <;> simp only [builtinS, Go.builtin] <;> first
    | trivial
    | exact NextR.ofVal (append_sound O R at_ ty ha)
    | exact NextR.ofVal (len_sound O R at_ ty ha)
    | exact NextR.ofVal (cap_sound O R at_ ty ha)
    | exact NextR.ofVal (copy_sound O R at_ ty ha)
    | exact NextR.ofVal (delete_sound O R at_ ty ha)
    | exact NextR.ofVal (clear_sound O R at_ ty ha)
    | exact NextR.ofVal (by simpa using minMaxOp_sound (P := P) R true at_ ty ha)
    | exact NextR.ofVal (by simpa using minMaxOp_sound (P := P) R false at_ ty ha)
    | exact NextR.ofVal (sliceData_sound R at_ ty ha)
    | exact ⟨w, rfl, R⟩
    | (split
       · rename_i hat; exact NextR.ofVal (unsafeString_sound O R at_ ty hat ha)
       · trivial)
    | skip
  · -- panic
    split
    · rename_i t v
      obtain ⟨x, rfl, hx⟩ := ha.single
      have hx' := hx
      simp only [VR] at hx; obtain ⟨y, rfl, hy⟩ := hx
      refine ⟨.iface t y, w, ?_, R, hx'⟩
      simp [Instr.panic]
    · trivial

theorem tail_of {vargs : Array Value} {x : Value} {xs : List Value} (e : vargs.toList = x :: xs) : (vargs.extract 1 vargs.size).toList = xs := by
  have hs : vargs.size = xs.length + 1 := by rw [← Array.length_toList, e]; simp
  rw [Array.toList_extract, List.extract_eq_take_drop, e, hs]
  simp

theorem invoke_sound (O : EnvOK P E) (R : Rel μ h w₀ w) {t : STarget} {vt : Target} (ht : TargetR μ t vt) {args : List SV} {vargs : Array Value} (ha : VRs μ args vargs.toList) :
    NextR P μ h w₀ w (invokeS E t args h) ((Go.invoke vt vargs).run P w) := by
  unfold invokeS
  split
  · simp only [TargetR] at ht; subst ht
    exact NextR.nilDeref O R
  · rename_i b at_
    simp only [TargetR] at ht; obtain ⟨ty, cs, rfl⟩ := ht
    exact builtin_sound O R b at_ ty cs ha
  · rename_i f captured
    simp only [TargetR, FnR] at ht; obtain ⟨f', c', rfl, rfl, hc⟩ := ht
    simp only [Go.invoke]
    exact callFunc_sound O R f (by simpa using VRs.append ha hc)
  · rename_i name captured
    simp only [TargetR, FnR] at ht; obtain ⟨f', c', rfl, rfl, hc⟩ := ht
    split
    · rename_i t v rest
      simp only [VRs] at ha
      obtain ⟨x, xs, e, hx, hxs⟩ := ha
      simp only [VR] at hx; obtain ⟨y, rfl, hy⟩ := hx
      have h0 : vargs[0]? = some (.iface t y) := by rw [← Array.getElem?_toList, e]; rfl
      have h1 : (vargs.extract 1 vargs.size).toList = xs := tail_of e
      simp only [Go.invoke, h0]
      exact callMethod_sound O R name hy (by rw [h1]; exact hxs)
    · rename_i rest
      simp only [VRs] at ha
      obtain ⟨x, xs, e, hx, hxs⟩ := ha
      simp only [VR] at hx; subst hx
      have h0 : vargs[0]? = some .nilIface := by rw [← Array.getElem?_toList, e]; rfl
      simp only [Go.invoke, h0, callMethod]
      exact NextR.nilDeref O R
    · trivial
  · rename_i t name captured
    simp only [TargetR, FnR] at ht; obtain ⟨f', c', rfl, rfl, hc⟩ := ht
    split
    · rename_i x rest
      simp only [VRs] at ha
      obtain ⟨vx, xs, e, hx, hxs⟩ := ha
      have h0 : vargs[0]? = some vx := by rw [← Array.getElem?_toList, e]; rfl
      have h1 : (vargs.extract 1 vargs.size).toList = xs := tail_of e
      split
      · rename_i ms t' v hu
        simp only [VR] at hx; obtain ⟨y, rfl, hy⟩ := hx
        simp only [Go.invoke, h0, Sem.run_bind, O.runUnd hu, Result.andThen_ok, Sem.run_pure]
        exact callMethod_sound O R name hy (by rw [h1]; exact hxs)
      · trivial
      · rename_i d hni hu x'
        have hni' : ∀ ms, d ≠ .interface ms := fun ms e => hni ms e
        have : (Go.invoke (.fn (.methodOf t name) c') vargs).run P w = (callMethod (.iface t vx) name (vargs.extract 1 vargs.size)).run P w := by
          simp only [Go.invoke, h0, Sem.run_bind, O.runUnd hu, Result.andThen_ok]
        rw [this]
        exact callMethod_sound O R name hx (by rw [h1]; exact hxs)
      · trivial
    · trivial
  · rename_i t path f p captured
    simp only [TargetR, FnR] at ht; obtain ⟨f', c', rfl, rfl, hc⟩ := ht
    split
    · trivial
    · rename_i hcond
      simp only [Bool.or_eq_true, Bool.not_eq_true', not_or, Bool.not_eq_false, Bool.not_eq_true] at hcond
      obtain ⟨hpe, rfl⟩ := hcond
      split
      · rename_i x rest
        simp only [VRs] at ha
        obtain ⟨vx, xs, e, hx, hxs⟩ := ha
        have h0 : vargs[0]? = some vx := by rw [← Array.getElem?_toList, e]; rfl
        have h1 : (vargs.extract 1 vargs.size).toList = xs := tail_of e
        split
        · trivial
        · rename_i d hnp hu
          have hnp' : ∀ ms, d ≠ .pointer ms := fun ms e => hnp ms e
          have hpl : path.toList = [] := by simpa using hpe
          have hr : (receiverVia t vx path false).run P w = .ok vx w := by
            simp only [receiverVia, hpl, follow, Sem.run_bind, Sem.run_pure, Result.andThen_ok, receiverAt, O.runUnd hu]
            cases d <;> first | exact absurd rfl (hnp' _) | simp [Place.get]
          simp only [Go.invoke, h0, Sem.run_bind, hr, Result.andThen_ok]
          exact callFunc_sound O R f (by rw [Array.toList_append, h1]; simpa using VRs.cons hx hxs)
        · trivial
      · trivial
  · rename_i l captured
    simp only [TargetR, FnR] at ht; obtain ⟨f', c', rfl, ⟨loc, hl, rfl⟩, hc⟩ := ht
    exact ⟨loc, vargs, hl, ha, rfl⟩
  · trivial

theorem resolve_sound {tm : T SV} {ρ : Operand → Value} {c : Call} {d : SDef} (ty : TypeId) (e : resolveS tm c = some d) (hρ : ∀ x ∈ c.operands, VR μ (evalS tm x) (ρ x)) :
    ∃ d', (resolve ρ c ty).run P w = .ok d' w ∧ DefR μ d d' := by
  have hargs : VRs μ (c.args.toList.map (evalS tm)) (c.args.map ρ).toList := by
    rw [Array.toList_map]
    have : ∀ l : List Operand, (∀ x ∈ l, VR μ (evalS tm x) (ρ x)) → VRs μ (l.map (evalS tm)) (l.map ρ) := by
      intro l
      induction l with
      | nil => intro _; simp [VRs]
      | cons a l ih => intro hl; exact VRs.cons (hl a (by simp)) (ih fun x hx => hl x (by simp [hx]))
    exact this _ fun x hx => hρ x (by simp [Call.operands]; right; simpa using hx)
  unfold resolveS at e
  simp only at e
  split at e
  · rename_i b hc
    cases e
    have hr : ∃ cs, (resolve ρ c ty).run P w = .ok { target := .builtin b c.argTypes ty cs, args := c.args.map ρ } w := by
      refine ⟨c.args.map fun | .const _ => true | _ => false, ?_⟩
      unfold resolve; rw [hc]; rfl
    obtain ⟨cs, hr⟩ := hr
    exact ⟨_, hr, ⟨⟨_, _, rfl⟩, hargs⟩⟩
  · rename_i r name hc
    cases e
    have hr : (resolve ρ c ty).run P w = .ok { target := .fn (.method name) #[], args := #[ρ r] ++ c.args.map ρ } w := by
      simp only [resolve, hc, Sem.run_pure]
    refine ⟨_, hr, ⟨⟨_, _, rfl, rfl, by simp [VRs]⟩, ?_⟩⟩
    have := VRs.cons (hρ r (by simp [Call.operands, hc])) hargs
    simpa using this
  · rename_i f hc
    have hf := hρ f (by simp [Call.operands, hc])
    split at e
    · rename_i fn first captured he
      cases e
      rw [he] at hf
      simp only [VR] at hf
      obtain ⟨fn', a', b', hv, hfn, ha, hb⟩ := hf
      have hr : (resolve ρ c ty).run P w = .ok { target := .fn fn' b', args := a' ++ c.args.map ρ } w := by
        simp only [resolve, hc, Deferred.ofValue, hv, Sem.run_pure]
      refine ⟨_, hr, ⟨⟨_, _, rfl, hfn, hb⟩, ?_⟩⟩
      have := VRs.append ha hargs
      simpa using this
    · rename_i he
      cases e
      rw [he] at hf
      simp only [VR] at hf
      have hr : (resolve ρ c ty).run P w = .ok { target := .nil, args := c.args.map ρ } w := by
        simp only [resolve, hc, Deferred.ofValue, hf, Sem.run_pure]
      exact ⟨_, hr, ⟨rfl, hargs⟩⟩
    · cases e
end
end Go.Sh

namespace Go.Sh
open Go.RowKit
variable [Syms]
section
variable {P : Program} {E : Env} {w w₀ : World} {μ : Mu} {h : Hp}

theorem allocOp_sound (O : EnvOK P E) (R : Rel μ h w₀ w) {tm : T SV} {ρ : Operand → Value} {o : Oper} (hρ : ∀ x ∈ o.op.operands, VR μ (evalS tm x) (ρ x)) :
    NextR P μ h w₀ w (allocOp E tm o h) ((execOp ρ o).run P w) := by
  unfold allocOp
  split
  · rename_i obj mk e
    obtain ⟨s, hs, ro, n, x, k, hres, hob⟩ := alloc_sound (w := w) O e hρ
    rw [hs]
    refine NextR.ofVal ?_
    rw [hres]
    have Rk : Rel μ h w₀ (World.at w k) := Rel.at (R := R) k
    have hle : μ.le (μ.set h.nx ⟨(World.at w k).heap.size, 0, n⟩) := Mu.le_set R.fresh
    obtain ⟨h1, h2⟩ := hob _ hle
    obtain ⟨R', G'⟩ := Rel.alloc (n := n) Rk (o := obj) (ro := ro) h1
    exact ⟨x, _, _, rfl, R', G', h2 _ (by simp only [Mu.set, if_true]; rfl)⟩
  · trivial

theorem map_sound {tm : T SV} {ρ : Operand → Value} (l : List Operand) (hl : ∀ x ∈ l, VR μ (evalS tm x) (ρ x)) : VRs μ (l.map (evalS tm)) (l.map ρ) := by
  induction l with
  | nil => simp [VRs]
  | cons a l ih => exact VRs.cons (hl a (by simp)) (ih fun x hx => hl x (by simp [hx]))

theorem optVR_map {tm : T SV} {ρ : Operand → Value} (x : Option Operand) (hx : ∀ y, x = some y → VR μ (evalS tm y) (ρ y)) : OptVR μ (x.map (evalS tm)) (x.map ρ) := by
  cases x with
  | none => rfl
  | some y => exact ⟨_, rfl, hx y rfl⟩

set_option maxHeartbeats 1000000 in
theorem exec_sound (O : EnvOK P E) (R : Rel μ h w₀ w) {tm : T SV} {ρ : Operand → Value} {o : Oper} (hρ : ∀ x ∈ o.op.operands, VR μ (evalS tm x) (ρ x)) :
    NextR P μ h w₀ w (execS E tm o h) ((execOp ρ o).run P w) := by
  obtain ⟨dst, op, type, pos, after, guard⟩ := o
  simp only at hρ
  cases op with
  | move x => exact NextR.ofVal (s := pure (ρ x)) (ValR.same R (hρ x (by simp [Op.operands])))
  | assign x => exact NextR.ofVal (s := pure (ρ x)) (ValR.same R (hρ x (by simp [Op.operands])))
  | pick c a b =>
    have hc := hρ c (by simp [Op.operands]); have ha := hρ a (by simp [Op.operands]); have hb := hρ b (by simp [Op.operands])
    simp only [execS]
    split
    · rename_i cb e
      rw [e] at hc
      simp only [VR] at hc
      have : (execOp ρ ⟨dst, .pick c a b, type, pos, after, guard⟩).run P w = (do pure (.value (← (pure (if cb then ρ a else ρ b) : Sem Value))) : Sem Next).run P w := by
        simp [execOp, hc, asBool]
      rw [this]
      refine NextR.ofVal (ValR.same R ?_)
      cases cb
      · exact hb
      · exact ha
    · trivial
  | alloc e => exact allocOp_sound O R (o := ⟨dst, .alloc e, type, pos, after, guard⟩) hρ
  | box e x => exact allocOp_sound O R (o := ⟨dst, .box e x, type, pos, after, guard⟩) hρ
  | build t parts =>
    have hparts : PartsR μ (parts.toList.map fun p => (p.1, evalS tm p.2)) (parts.toList.map fun p => (p.1, ρ p.2)) :=
      PartsR.of_map parts.toList fun p hp => hρ p.2 (by
        simp only [Op.operands, List.mem_toArray, List.mem_map]
        exact ⟨p, hp, rfl⟩)
    have hpl : (parts.map fun (x : Nat × Operand) => (x.1, ρ x.2)).toList = parts.toList.map fun p => (p.1, ρ p.2) := by simp
    simp only [execS, execOp]
    split
    · rename_i fs z hu hz
      obtain ⟨v, ev, hv⟩ := O.runZero (w := w) hz
      have hvr : VR μ z v := hv ▸ VR.ofValue μ v
      split
      · trivial
      · rename_i hk
        have hk' : z.known = true := by simpa using hk
        have hzc := VR.cells hk' hvr
        split
        · rename_i pl hpls
          refine NextR.ofVal (ValR.ov R fun s hs => ?_)
          cases hf : fillS (fun i => pl[i]?) z.cells (parts.toList.map fun p => (p.1, evalS tm p.2)) with
          | none => simp [hf] at hs
          | some cs =>
            simp only [hf, Option.map_some, Option.some.injEq] at hs
            subst hs
            obtain ⟨ro, hro, hcs⟩ := fill_sound _ _ _ _ _ v.cells hf hzc hparts
            refine ⟨.agg ro, ?_, by simp only [VR]; exact ⟨_, rfl, hcs⟩⟩
            have hm := places_sound (P := P) O fs.toList pl hpls w
            have hm2 : (fs.mapM (fun f => do pure (f.offset, ← sizeOf f.type) : Field → Sem (Nat × Nat))).run P w = .ok pl.toArray w := by
              rw [← Array.toArray_toList (xs := fs), List.mapM_toArray]
              simp only [Sem.run_map, hm, Result.andThen_ok]
            simp only [Instr.build, Sem.run_bind, ev, O.runUnd hu, Result.andThen_ok, Sem.run_pure]
            rw [hm2]
            have hro' : Instr.fill (pl.toArray[·]?) v.cells (parts.map fun (i, x) => (i, ρ x)).toList = some ro := by
              rw [← hro]
              have : (fun i : Nat => pl.toArray[i]?) = (fun i : Nat => pl[i]?) := by funext i; simp
              rw [this]
              exact congrArg _ hpl
            simp only [Result.andThen_ok, hro', Sem.run_pure]
        · trivial
    · rename_i n e z hu hz
      obtain ⟨v, ev, hv⟩ := O.runZero (w := w) hz
      have hvr : VR μ z v := hv ▸ VR.ofValue μ v
      split
      · trivial
      · rename_i hk
        have hk' : z.known = true := by simpa using hk
        have hzc := VR.cells hk' hvr
        split
        · rename_i sz hsz
          refine NextR.ofVal (ValR.ov R fun s hs => ?_)
          cases hf : fillS (fun i => some (i * sz, sz)) z.cells (parts.toList.map fun p => (p.1, evalS tm p.2)) with
          | none => simp [hf] at hs
          | some cs =>
            simp only [hf, Option.map_some, Option.some.injEq] at hs
            subst hs
            obtain ⟨ro, hro, hcs⟩ := fill_sound _ _ _ _ _ v.cells hf hzc hparts
            refine ⟨.agg ro, ?_, by simp only [VR]; exact ⟨_, rfl, hcs⟩⟩
            have hro' : Instr.fill (fun i => some (i * sz, sz)) v.cells (parts.map fun (i, x) => (i, ρ x)).toList = some ro := by
              rw [← hro]; exact congrArg _ hpl
            simp only [Instr.build, Sem.run_bind, ev, O.runUnd hu, O.runSize hsz, Result.andThen_ok, Sem.run_pure, hro']
        · trivial
    · trivial
  | buildSlice t n ps => exact allocOp_sound O R (o := ⟨dst, .buildSlice t n ps, type, pos, after, guard⟩) hρ
  | insert t m k v =>
    have hm := hρ m (by simp [Op.operands]); have hk := hρ k (by simp [Op.operands]); have hv := hρ v (by simp [Op.operands])
    exact NextR.ofUnit (mapUpdate_sound O R t hm hk hv)
  | load t a =>
    have ha := hρ a (by simp [Op.operands])
    exact NextR.ofVal (load_sound O R t ha)
  | store t a x =>
    have ha := hρ a (by simp [Op.operands]); have hx := hρ x (by simp [Op.operands])
    simp only [execS, execOp]
    split
    · rename_i b o n e1 hn
      rw [e1] at ha
      split
      · rename_i hn0
        subst hn0
        split
        · rename_i hc
          refine NextR.ofUnit (r := .val undefS h) ⟨rfl, w, μ, store_nothing O hn hc.1 hc.2 ha hx, R, Grow.refl μ h⟩
        · trivial
      · split
        · rename_i hc
          split
          · rename_i h' hs
            obtain ⟨w', e, R', G'⟩ := store_sound O R hn hc.1 hc.2 hs ha hx
            exact NextR.ofUnit (r := .val undefS h') ⟨rfl, w', μ, e, R', G'⟩
          · trivial
        · trivial
    · trivial
  | ready g => trivial
  | waits g => trivial
  | nilCheck x =>
    have hx := hρ x (by simp [Op.operands])
    simp only [execS]
    split
    · rename_i e; rw [e] at hx; simp only [VR] at hx
      have : execOp ρ ⟨dst, .nilCheck x, type, pos, after, guard⟩ = runtimePanic .nilDeref := by simp only [execOp, hx]
      rw [this]; exact NextR.nilDeref O R
    · rename_i e; rw [e] at hx; simp only [VR] at hx
      have : execOp ρ ⟨dst, .nilCheck x, type, pos, after, guard⟩ = runtimePanic .nilDeref := by simp only [execOp, hx]
      rw [this]; exact NextR.nilDeref O R
    · rename_i e; rw [e] at hx; simp only [VR] at hx
      have : execOp ρ ⟨dst, .nilCheck x, type, pos, after, guard⟩ = runtimePanic .nilDeref := by simp only [execOp, hx]
      rw [this]; exact NextR.nilDeref O R
    · trivial
    · trivial
    · trivial
    · trivial
    · trivial
    · rename_i h1 h2 h3 h4 h5 h7 h8 h6
      have : (execOp ρ ⟨dst, .nilCheck x, type, pos, after, guard⟩).run P w = (do pure (.value (← (pure (ρ x) : Sem Value))) : Sem Next).run P w := by
        simp only [execOp]
        revert hx h1 h2 h3 h4 h5 h7 h8 h6
        generalize evalS tm x = sv
        generalize ρ x = rv
        intro hx h1 h2 h3 h4 h5 h7 h8 h6
        cases sv <;> simp only [VR] at hx <;> first
          | exact absurd rfl (h6 _ _)
          | exact absurd rfl (h7 _ _)
          | exact absurd rfl (h8 _ _ _)
          | exact absurd rfl h1
          | exact absurd rfl h2
          | exact absurd rfl h3
          | exact absurd rfl h5
          | (subst hx; rfl)
          | (obtain ⟨_, rfl, _⟩ := hx; rfl)
          | (obtain ⟨_, _, rfl⟩ := hx; rfl)
          | (obtain ⟨_, _, _, _, rfl, _⟩ := hx; rfl)
          | (rename_i fn a b
             obtain ⟨fn', a', b', rfl, hf, _⟩ := hx
             cases fn <;> simp only [FnR] at hf <;> first
               | (subst hf; rfl)
               | (obtain ⟨_, _, rfl⟩ := hf; rfl)
               | exact absurd rfl (h4 _ _ _))
      rw [this]
      exact NextR.ofVal (ValR.same R hx)
  | binOp op t x y yt =>
    have hx := hρ x (by simp [Op.operands]); have hy := hρ y (by simp [Op.operands])
    exact NextR.ofVal (bin_sound O R op t x y hx hy)
  | unOp op t x => exact NextR.ofVal (un_sound R op (hρ x (by simp [Op.operands])))
  | convert s d x =>
    simp only [execS]
    split
    · exact allocOp_sound O R (o := ⟨dst, .convert s d x, type, pos, after, guard⟩) hρ
    · exact NextR.ofVal (conv_sound O R s d (hρ x (by simp [Op.operands])))
  | sliceToArrayPointer t x => trivial
  | makeInterface t x =>
    have hx := hρ x (by simp [Op.operands])
    simp only [execS, execOp]
    split
    · trivial
    · rename_i d hni hu
      have hni' : ∀ ms, d ≠ .interface ms := fun ms e => hni ms e
      refine NextR.ofVal ?_
      have : (Instr.makeInterface t (ρ x)).run P w = .ok (.iface t (ρ x)) w := by
        simp only [Instr.makeInterface, Sem.run_bind, O.runUnd hu, Result.andThen_ok]
        cases d <;> first | exact absurd rfl (hni' _) | rfl
      rw [this]
      exact ValR.same R (by simp only [VR]; exact ⟨_, rfl, hx⟩)
    · trivial
  | makeFunc fn a b =>
    have ha := map_sound (μ := μ) a.toList fun x hx => hρ x (by simp [Op.operands]; left; simpa using hx)
    have hb := map_sound (μ := μ) b.toList fun x hx => hρ x (by simp [Op.operands]; right; simpa using hx)
    simp only [execS, execOp]
    split
    · trivial
    · rename_i fn' hny
      refine NextR.ofVal ?_
      have : (Instr.makeFunc fn (a.map ρ) (b.map ρ)).run P w = .ok (.func fn (a.map ρ) (b.map ρ)) w := rfl
      rw [this]
      refine ValR.same R ?_
      simp only [VR]
      refine ⟨_, _, _, rfl, ?_, by simpa using ha, by simpa using hb⟩
      cases fn <;> first | rfl | exact absurd rfl (hny _)
  | makeMap t r => exact allocOp_sound O R (o := ⟨dst, .makeMap t r, type, pos, after, guard⟩) hρ
  | makeChan t s => trivial
  | makeSlice t l c => exact allocOp_sound O R (o := ⟨dst, .makeSlice t l c, type, pos, after, guard⟩) hρ
  | slice t x lo hi mx =>
    have hx := hρ x (by simp [Op.operands])
    exact NextR.ofVal (slice_sound O R t hx (optVR_map lo fun y hy => hρ y (by simp [Op.operands, hy])) (optVR_map hi fun y hy => hρ y (by simp [Op.operands, hy])) (optVR_map mx fun y hy => hρ y (by simp [Op.operands, hy])))
  | fieldAddr s x f =>
    have hx := hρ x (by simp [Op.operands])
    simp only [execS, execOp]
    split
    · rename_i fd b o hf e
      rw [e] at hx
      split
      · rename_i n hn
        exact NextR.ofVal (fieldAddr_sound O R hf hn hx)
      · trivial
    · trivial
  | field t x f =>
    have hx := hρ x (by simp [Op.operands])
    simp only [execS, execOp]
    split
    · rename_i fd cs hf e
      rw [e] at hx
      exact NextR.ofVal (field_sound O R hf hx)
    · trivial
  | indexAddr t x i => exact NextR.ofVal (indexAddr_sound O R t (hρ x (by simp [Op.operands])) (hρ i (by simp [Op.operands])))
  | index t x i => exact NextR.ofVal (index_sound O R t (hρ x (by simp [Op.operands])) (hρ i (by simp [Op.operands])))
  | lookup t m k ok => exact NextR.ofVal (lookup_sound O R t ok (hρ m (by simp [Op.operands])) (hρ k (by simp [Op.operands])))
  | mapUpdate t m k v =>
    have hm := hρ m (by simp [Op.operands]); have hk := hρ k (by simp [Op.operands]); have hv := hρ v (by simp [Op.operands])
    exact NextR.ofUnit (mapUpdate_sound O R t hm hk hv)
  | mapEntry t m k => exact NextR.ofVal (mapEntry_sound O R t (hρ m (by simp [Op.operands])) (hρ k (by simp [Op.operands])))
  | entryStore t m s v =>
    have hm := hρ m (by simp [Op.operands]); have hk := hρ s (by simp [Op.operands]); have hv := hρ v (by simp [Op.operands])
    exact NextR.ofUnit (entryStore_sound R t hm hk hv)
  | range t x => exact NextR.ofVal (range_sound O R t (hρ x (by simp [Op.operands])))
  | next it s => exact NextR.ofVal (next_sound R s type (hρ it (by simp [Op.operands])))
  | entry it => exact NextR.ofVal (entry_sound R (hρ it (by simp [Op.operands])))
  | typeAssert x xt t ok => exact NextR.ofVal (typeAssert_sound O R xt t ok (hρ x (by simp [Op.operands])))
  | extract t i =>
    have ht := hρ t (by simp [Op.operands])
    simp only [execS, execOp]
    split
    · rename_i vs e
      rw [e] at ht
      simp only [VR] at ht; obtain ⟨a, ea, ha⟩ := ht
      refine NextR.ofVal (ValR.ov R fun v hv => ?_)
      obtain ⟨y, hy, hvy⟩ := ha.get i v hv
      refine ⟨y, ?_, hvy⟩
      have : a[i]? = some y := by simpa using hy
      simp [Instr.extract, ea, this]
    · trivial
  | call c =>
    simp only [execS, execOp]
    split
    · rename_i d e
      obtain ⟨d', e', ht, ha⟩ := resolve_sound (P := P) (w := w) type e hρ
      simp only [Sem.run_bind, e', Result.andThen_ok]
      exact invoke_sound O R ht ha
    · trivial
  | go c => trivial
  | defer c =>
    simp only [execS, execOp]
    split
    · rename_i d e
      obtain ⟨d', e', hd⟩ := resolve_sound (P := P) (w := w) type e hρ
      refine ⟨d', w, ?_, R, hd⟩
      simp only [Sem.run_bind, e', Result.andThen_ok, Sem.run_pure]
    · trivial
  | panic x =>
    have hx := hρ x (by simp [Op.operands])
    simp only [execS, execOp]
    split
    · rename_i t v e
      rw [e] at hx
      have hx' := hx
      simp only [VR] at hx; obtain ⟨y, ey, hy⟩ := hx
      refine ⟨ρ x, w, ?_, R, hx'⟩
      simp [Instr.panic, ey]
    · trivial
  | send ch x => trivial
  | recv t ch ok => trivial
  | select cs b => trivial
end
end Go.Sh
