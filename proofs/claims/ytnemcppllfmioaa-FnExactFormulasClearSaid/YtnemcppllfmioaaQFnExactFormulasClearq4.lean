/- Lemmas on the printed functions for the law FnExactFormulasClear. -/
import Derived.Test.YtnemcppllfmioaaQFnExactFormulasClearq0
import Derived.Test.YtnemcppllfmioaaQFnExactFormulasClearq1
import Derived.Test.YtnemcppllfmioaaQFnExactFormulasClearq2
import Derived.Test.YtnemcppllfmioaaQFnExactFormulasClearq3
import Derived.Deep.RegionHeld3
import Derived.BigRegion
import Derived.Deep.Slices
import Derived.Laws.CopyOwn
namespace Go.Proofs.Ytnemcppllfmioaa.Pure
set_option linter.unusedVariables false
set_option linter.unusedSimpArgs false
open Go Go.RowKit Go.Proofs.Ytnemcppllfmioaa.PFnExactFormulasClear Go.Proofs.YtnemcppllfmioaaW.PrintWords Go.Proofs.YtnemcppllfmioaaW.PrintLast Go.Proofs.YtnemcppllfmioaaW.PrintMore

/-! impl_FormulasClear: as the print has it, but the cut list has a name of its own -/
mutual
def impl_FormulasClear.j0 : Nat → List (S55) → Int → Bool → Option (Bool)
  | 0, _, _, _ => none
  | k + 1, x0, x1, x19 => if x19 = true then (some false) else (impl_FormulasClear.l0 k x0 x1 x0 (x0.length : Int) 0)
def impl_FormulasClear.l0 : Nat → List (S55) → Int → List (S55) → Int → Int → Option (Bool)
  | 0, _, _, _, _, _ => none
  | k + 1, x0, x1, x20, x21, x22 => if x22 < x21 then (if 0 ≤ x22 then (if x22 < (x20.length : Int) then (impl_FormulasClear.l1 k x0 x1 x22 x20 x21 x22 x0 (x0.length : Int) 0 ((rd_T55 x20 x22).f0) ((rd_T55 x20 x22).f1)) else (none)) else (none)) else (some true)
def impl_FormulasClear.l1 : Nat → List (S55) → Int → Int → List (S55) → Int → Int → List (S55) → Int → Int → List Int → Int → Option (Bool)
  | 0, _, _, _, _, _, _, _, _, _, _, _ => none
  | k + 1, x0, x1, x5, x20, x21, x22, x27, x28, x29, x200000, x200001 => if x29 < x28 then (if 0 ≤ x29 then (if x29 < (x27.length : Int) then (if x5 = x29 then (impl_FormulasClear.j3 k x0 x1 x5 x20 x21 x22 x27 x28 x29 true x200000 x200001 ((rd_T55 x27 x29).f0) ((rd_T55 x27 x29).f1)) else (if (((rd_T55 x27 x29).f0).length : Int) > x1 then (impl_FormulasClear.j3 k x0 x1 x5 x20 x21 x22 x27 x28 x29 true x200000 x200001 ((rd_T55 x27 x29).f0) ((rd_T55 x27 x29).f1)) else ((impl_begins.f k ((rd_T55 x27 x29).f0) x200000).bind fun t202 => (impl_FormulasClear.j3 k x0 x1 x5 x20 x21 x22 x27 x28 x29 (!t202) x200000 x200001 ((rd_T55 x27 x29).f0) ((rd_T55 x27 x29).f1))))) else (none)) else (none)) else (impl_FormulasClear.l0 k x0 x1 x20 x21 (wrap64 (x22 + 1)))
def impl_FormulasClear.j3 : Nat → List (S55) → Int → Int → List (S55) → Int → Int → List (S55) → Int → Int → Bool → List Int → Int → List Int → Int → Option (Bool)
  | 0, _, _, _, _, _, _, _, _, _, _, _, _, _, _ => none
  | k + 1, x0, x1, x5, x20, x21, x22, x27, x28, x29, x51, x200000, x200001, x202000, x202001 => if x51 = true then (impl_FormulasClear.l1 k x0 x1 x5 x20 x21 x22 x27 x28 (wrap64 (x29 + 1)) x200000 x200001) else (if 0 ≤ (x200000.length : Int) then (if (x200000.length : Int) ≤ (x202000.length : Int) then ((impl_meets.f k x0 (x202000.drop ((x200000.length : Int) : Int).toNat) (x202000.length : Int) x1).bind fun t204 => (if t204 = true then (some false) else (impl_FormulasClear.l1 k x0 x1 x5 x20 x21 x22 x27 x28 (wrap64 (x29 + 1)) x200000 x200001))) else (none)) else (none))
end
def impl_FormulasClear.f (k : Nat) (l0 : List (S55)) (a1 : Int) : Option (Bool) := (impl_FormulasValid.f k l0).bind fun t197 => (if t197 = true then (if a1 < 0 then (impl_FormulasClear.j0 k l0 a1 true) else (impl_FormulasClear.j0 k l0 a1 (decide (a1 > 5)))) else (impl_FormulasClear.j0 k l0 a1 true))
theorem impl_FormulasClear.mono_l : ∀ k, (∀ y0 y1 y2, LeO (impl_FormulasClear.j0 k y0 y1 y2) (impl_FormulasClear.j0 (k + 1) y0 y1 y2)) ∧ (∀ y0 y1 y2 y3 y4, LeO (impl_FormulasClear.l0 k y0 y1 y2 y3 y4) (impl_FormulasClear.l0 (k + 1) y0 y1 y2 y3 y4)) ∧ (∀ y0 y1 y2 y3 y4 y5 y6 y7 y8 y9 y10, LeO (impl_FormulasClear.l1 k y0 y1 y2 y3 y4 y5 y6 y7 y8 y9 y10) (impl_FormulasClear.l1 (k + 1) y0 y1 y2 y3 y4 y5 y6 y7 y8 y9 y10)) ∧ (∀ y0 y1 y2 y3 y4 y5 y6 y7 y8 y9 y10 y11 y12 y13, LeO (impl_FormulasClear.j3 k y0 y1 y2 y3 y4 y5 y6 y7 y8 y9 y10 y11 y12 y13) (impl_FormulasClear.j3 (k + 1) y0 y1 y2 y3 y4 y5 y6 y7 y8 y9 y10 y11 y12 y13))
  | 0 => ⟨fun _ _ _ r h => by simp [impl_FormulasClear.j0] at h, fun _ _ _ _ _ r h => by simp [impl_FormulasClear.l0] at h, fun _ _ _ _ _ _ _ _ _ _ _ r h => by simp [impl_FormulasClear.l1] at h, fun _ _ _ _ _ _ _ _ _ _ _ _ _ _ r h => by simp [impl_FormulasClear.j3] at h⟩
  | k + 1 => by
    obtain ⟨ih0, ih1, ih2, ih3⟩ := impl_FormulasClear.mono_l k
    refine ⟨?_, ?_, ?_, ?_⟩
    · intro y0 y1 y2
      unfold impl_FormulasClear.j0
      repeat' first
      | (with_reducible exact ih0 _ _ _)
      | (with_reducible exact ih1 _ _ _ _ _)
      | (with_reducible exact ih2 _ _ _ _ _ _ _ _ _ _ _)
      | (with_reducible exact ih3 _ _ _ _ _ _ _ _ _ _ _ _ _ _)
      | (with_reducible exact impl_FormulasValid.mono _ _)
      | (with_reducible exact impl_begins.mono _ _ _)
      | (with_reducible exact impl_meets.mono _ _ _ _ _)
      | (with_reducible exact LeO.refl _)
      | (with_reducible exact LeO.none _)
      | (with_reducible refine LeO.ite ?_ ?_)
      | (with_reducible refine LeO.bind ?_ (fun _ => ?_))
      | exact ih0 _ _ _
      | exact ih1 _ _ _ _ _
      | exact ih2 _ _ _ _ _ _ _ _ _ _ _
      | exact ih3 _ _ _ _ _ _ _ _ _ _ _ _ _ _
      | exact impl_FormulasValid.mono _ _
      | exact impl_begins.mono _ _ _
      | exact impl_meets.mono _ _ _ _ _
      | exact LeO.none _
      | refine LeO.ite ?_ ?_
      | refine LeO.bind ?_ (fun _ => ?_)
    · intro y0 y1 y2 y3 y4
      unfold impl_FormulasClear.l0
      repeat' first
      | (with_reducible exact ih0 _ _ _)
      | (with_reducible exact ih1 _ _ _ _ _)
      | (with_reducible exact ih2 _ _ _ _ _ _ _ _ _ _ _)
      | (with_reducible exact ih3 _ _ _ _ _ _ _ _ _ _ _ _ _ _)
      | (with_reducible exact impl_FormulasValid.mono _ _)
      | (with_reducible exact impl_begins.mono _ _ _)
      | (with_reducible exact impl_meets.mono _ _ _ _ _)
      | (with_reducible exact LeO.refl _)
      | (with_reducible exact LeO.none _)
      | (with_reducible refine LeO.ite ?_ ?_)
      | (with_reducible refine LeO.bind ?_ (fun _ => ?_))
      | exact ih0 _ _ _
      | exact ih1 _ _ _ _ _
      | exact ih2 _ _ _ _ _ _ _ _ _ _ _
      | exact ih3 _ _ _ _ _ _ _ _ _ _ _ _ _ _
      | exact impl_FormulasValid.mono _ _
      | exact impl_begins.mono _ _ _
      | exact impl_meets.mono _ _ _ _ _
      | exact LeO.none _
      | refine LeO.ite ?_ ?_
      | refine LeO.bind ?_ (fun _ => ?_)
    · intro y0 y1 y2 y3 y4 y5 y6 y7 y8 y9 y10
      unfold impl_FormulasClear.l1
      repeat' first
      | (with_reducible exact ih0 _ _ _)
      | (with_reducible exact ih1 _ _ _ _ _)
      | (with_reducible exact ih2 _ _ _ _ _ _ _ _ _ _ _)
      | (with_reducible exact ih3 _ _ _ _ _ _ _ _ _ _ _ _ _ _)
      | (with_reducible exact impl_FormulasValid.mono _ _)
      | (with_reducible exact impl_begins.mono _ _ _)
      | (with_reducible exact impl_meets.mono _ _ _ _ _)
      | (with_reducible exact LeO.refl _)
      | (with_reducible exact LeO.none _)
      | (with_reducible refine LeO.ite ?_ ?_)
      | (with_reducible refine LeO.bind ?_ (fun _ => ?_))
      | exact ih0 _ _ _
      | exact ih1 _ _ _ _ _
      | exact ih2 _ _ _ _ _ _ _ _ _ _ _
      | exact ih3 _ _ _ _ _ _ _ _ _ _ _ _ _ _
      | exact impl_FormulasValid.mono _ _
      | exact impl_begins.mono _ _ _
      | exact impl_meets.mono _ _ _ _ _
      | exact LeO.none _
      | refine LeO.ite ?_ ?_
      | refine LeO.bind ?_ (fun _ => ?_)
    · intro y0 y1 y2 y3 y4 y5 y6 y7 y8 y9 y10 y11 y12 y13
      unfold impl_FormulasClear.j3
      repeat' first
      | (with_reducible exact ih0 _ _ _)
      | (with_reducible exact ih1 _ _ _ _ _)
      | (with_reducible exact ih2 _ _ _ _ _ _ _ _ _ _ _)
      | (with_reducible exact ih3 _ _ _ _ _ _ _ _ _ _ _ _ _ _)
      | (with_reducible exact impl_FormulasValid.mono _ _)
      | (with_reducible exact impl_begins.mono _ _ _)
      | (with_reducible exact impl_meets.mono _ _ _ _ _)
      | (with_reducible exact LeO.refl _)
      | (with_reducible exact LeO.none _)
      | (with_reducible refine LeO.ite ?_ ?_)
      | (with_reducible refine LeO.bind ?_ (fun _ => ?_))
      | exact ih0 _ _ _
      | exact ih1 _ _ _ _ _
      | exact ih2 _ _ _ _ _ _ _ _ _ _ _
      | exact ih3 _ _ _ _ _ _ _ _ _ _ _ _ _ _
      | exact impl_FormulasValid.mono _ _
      | exact impl_begins.mono _ _ _
      | exact impl_meets.mono _ _ _ _ _
      | exact LeO.none _
      | refine LeO.ite ?_ ?_
      | refine LeO.bind ?_ (fun _ => ?_)
theorem impl_FormulasClear.mono : ∀ a0 a1 k, LeO (impl_FormulasClear.f k a0 a1) (impl_FormulasClear.f (k + 1) a0 a1) := by
  intro a0 a1 k
  obtain ⟨ih0, ih1, ih2, ih3⟩ := impl_FormulasClear.mono_l k
  unfold impl_FormulasClear.f
  repeat' first
      | (with_reducible exact ih0 _ _ _)
      | (with_reducible exact ih1 _ _ _ _ _)
      | (with_reducible exact ih2 _ _ _ _ _ _ _ _ _ _ _)
      | (with_reducible exact ih3 _ _ _ _ _ _ _ _ _ _ _ _ _ _)
      | (with_reducible exact impl_FormulasValid.mono _ _)
      | (with_reducible exact impl_begins.mono _ _ _)
      | (with_reducible exact impl_meets.mono _ _ _ _ _)
      | (with_reducible exact LeO.refl _)
      | (with_reducible exact LeO.none _)
      | (with_reducible refine LeO.ite ?_ ?_)
      | (with_reducible refine LeO.bind ?_ (fun _ => ?_))
      | exact ih0 _ _ _
      | exact ih1 _ _ _ _ _
      | exact ih2 _ _ _ _ _ _ _ _ _ _ _
      | exact ih3 _ _ _ _ _ _ _ _ _ _ _ _ _ _
      | exact impl_FormulasValid.mono _ _
      | exact impl_begins.mono _ _ _
      | exact impl_meets.mono _ _ _ _ _
      | exact LeO.none _
      | refine LeO.ite ?_ ?_
      | refine LeO.bind ?_ (fun _ => ?_)
def impl_FormulasClear.T10 : Bool × List (List Nat × List Nat) := (true, [([], []), ([], []), ([1], [1]), ([], []), ([3], [3]), ([4], [4]), ([2, 5], [2, 5]), ([], []), ([7], [7]), ([8], [8]), ([], []), ([0, 6, 9, 10], [0, 6, 9, 10])])
def impl_FormulasClear.B10 : List Nat := [0, 0, 2, 0, 8, 24, 62, 0, 128, 384, 0, 2047]
theorem impl_FormulasClear.tab10 : rtab .any (opsOf Try.f22 10) = impl_FormulasClear.T10 := by kernel_rfl
theorem impl_FormulasClear.bits10 : waitsOk impl_FormulasClear.T10.2 impl_FormulasClear.B10 = true := by kernel_rfl
set_option maxHeartbeats 8000000 in
set_option maxRecDepth 100000 in
theorem impl_FormulasClear.calls (k : Nat) (A0 : Option Addr) (c0 : Nat) (l0 : List (S55)) (a1 : Int) (r : Bool) (w : World) (hr0 : Kd.C k55 w A0 l0.length l0) (hc0 : l0.length ≤ c0) (h : impl_FormulasClear.f k l0 a1 = some r) :
    Calls Try.prog 22 #[.slice A0 l0.length c0, .int .i64 a1] w fun e w' => e = .returned (.bool r) ∧ Below w.heap.size w w' := by
  have hu55 := Try.underlying55
  have HR0 := Aside0.mk hr0
  have HC0 := Aside0.mk hc0
  clear hr0 hc0
  have HB := Aside0.mk (Below.refl w.heap.size w)
  have H : ((impl_FormulasValid.f k l0).bind fun t197 => (if t197 = true then (if a1 < 0 then (impl_FormulasClear.j0 k l0 a1 true) else (impl_FormulasClear.j0 k l0 a1 (decide (a1 > 5)))) else (impl_FormulasClear.j0 k l0 a1 true))) = some r := h
  clear h
  have HC3 := Aside0.mk H
  clear H
  go_enter Try.func22, Try.ntmps22
  go_upto_region 1 with (fail)
  go_cut [19] (fun v19 wc => ∃ (kq : Nat) (x19_2 : Bool), v19 = .bool x19_2 ∧ Aside0 (impl_FormulasClear.j0 kq l0 a1 x19_2 = some r) ∧ Aside0 (kq ≤ k) ∧ Aside0 (Below w.heap.size w wc))
  case first =>
    have H := HC3.out
    clear HC3
    replace H := Option.bind_eq_some_iff.mp H
    obtain ⟨t197, A40, H⟩ := H
    replace H : (if t197 = true then (if a1 < 0 then (impl_FormulasClear.j0 k l0 a1 true) else (impl_FormulasClear.j0 k l0 a1 (decide (a1 > 5)))) else (impl_FormulasClear.j0 k l0 a1 true)) = some r := H
    have A4 := Aside0.mk A40
    clear A40
    by_cases c5 : t197 = true
    · subst c5
      have H1 : (if a1 < 0 then (impl_FormulasClear.j0 k l0 a1 true) else (impl_FormulasClear.j0 k l0 a1 (decide (a1 > 5)))) = some r := by rw [if_pos rfl] at H; exact H
      clear H
      have H := H1
      clear H1
      by_cases c6 : a1 < 0
      · rw [if_pos c6] at H
        have c6b0 : decide (a1 < 0) = true := decide_eq_true c6
        clear c6
        (first | rw [c6b0] | (simp only [i64_w, i32_w]; rw [c6b0]) | skip)
        have H' := Aside0.mk H
        clear H
        go_wp2_with (first | ((with_reducible refine gate_callee (f := 71) rfl ?_); refine goesL_ (some 10) rfl rfl Try.func71 (by kernel_rfl) rfl #[.slice A0 l0.length c0] rfl (by (try simp only [List.map_toArray, List.map_cons, List.map_nil]); first | done | rfl | (simp only [List.length_drop, List.length_take]; rfl)) ?_; (with_reducible refine (impl_FormulasValid.calls k _ _ l0 true _ ?side1 ?side2 A4.out).mono ?_); (case side1 => repeat (first | exact (Kd.C_below HR0.out HB.out) | (with_reducible refine Kd.C_alloc ?_ _) | (with_reducible refine Kd.C_drewN ?_ _) | (with_reducible refine Kd.C_drew ?_))); (case side2 => exact HC0.out); rintro e w7 ⟨rfl, hb⟩; refine ⟨_, rfl, ?_⟩; have n0_ := Aside0.mk (below_step (by repeat (first | (with_reducible first | exact HB.out | apply below_alloc | apply pw_below_drewN | apply below_drew1) | exact HB.out)) hb); clear HB; have HB := n0_; clear n0_; (try clear hb); (try clear hb2); (try clear hk); (try clear hi)))
        go_meet
        case rel => exact ⟨_, (true), (by first | rfl | (simp; done) | (simp [*]; done)), H', ⟨by first | omega | exact Nat.le_refl _⟩, ⟨by repeat (first | (with_reducible first | exact HB.out | apply below_alloc | apply pw_below_drewN | apply below_drew1) | exact HB.out)⟩⟩
      · rw [if_neg c6] at H
        have c6b0 : decide (a1 < 0) = false := decide_eq_false c6
        clear c6
        (first | rw [c6b0] | (simp only [i64_w, i32_w]; rw [c6b0]) | skip)
        have H' := Aside0.mk H
        clear H
        go_wp2_with (first | ((with_reducible refine gate_callee (f := 71) rfl ?_); refine goesL_ (some 10) rfl rfl Try.func71 (by kernel_rfl) rfl #[.slice A0 l0.length c0] rfl (by (try simp only [List.map_toArray, List.map_cons, List.map_nil]); first | done | rfl | (simp only [List.length_drop, List.length_take]; rfl)) ?_; (with_reducible refine (impl_FormulasValid.calls k _ _ l0 true _ ?side1 ?side2 A4.out).mono ?_); (case side1 => repeat (first | exact (Kd.C_below HR0.out HB.out) | (with_reducible refine Kd.C_alloc ?_ _) | (with_reducible refine Kd.C_drewN ?_ _) | (with_reducible refine Kd.C_drew ?_))); (case side2 => exact HC0.out); rintro e w8 ⟨rfl, hb⟩; refine ⟨_, rfl, ?_⟩; have n0_ := Aside0.mk (below_step (by repeat (first | (with_reducible first | exact HB.out | apply below_alloc | apply pw_below_drewN | apply below_drew1) | exact HB.out)) hb); clear HB; have HB := n0_; clear n0_; (try clear hb); (try clear hb2); (try clear hk); (try clear hi)))
        go_meet
        case rel => exact ⟨_, (decide (a1 > 5)), (by first | rfl | (simp; done) | (simp [*]; done)), H', ⟨by first | omega | exact Nat.le_refl _⟩, ⟨by repeat (first | (with_reducible first | exact HB.out | apply below_alloc | apply pw_below_drewN | apply below_drew1) | exact HB.out)⟩⟩
    · replace c5 := Bool.eq_false_iff.mpr c5
      subst c5
      have H1 : (impl_FormulasClear.j0 k l0 a1 true) = some r := by rw [if_neg (show ¬ (false = true) by decide)] at H; exact H
      clear H
      have H := H1
      clear H1
      have H' := Aside0.mk H
      clear H
      go_wp2_with (first | ((with_reducible refine gate_callee (f := 71) rfl ?_); refine goesL_ (some 10) rfl rfl Try.func71 (by kernel_rfl) rfl #[.slice A0 l0.length c0] rfl (by (try simp only [List.map_toArray, List.map_cons, List.map_nil]); first | done | rfl | (simp only [List.length_drop, List.length_take]; rfl)) ?_; (with_reducible refine (impl_FormulasValid.calls k _ _ l0 false _ ?side1 ?side2 A4.out).mono ?_); (case side1 => repeat (first | exact (Kd.C_below HR0.out HB.out) | (with_reducible refine Kd.C_alloc ?_ _) | (with_reducible refine Kd.C_drewN ?_ _) | (with_reducible refine Kd.C_drew ?_))); (case side2 => exact HC0.out); rintro e w9 ⟨rfl, hb⟩; refine ⟨_, rfl, ?_⟩; have n0_ := Aside0.mk (below_step (by repeat (first | (with_reducible first | exact HB.out | apply below_alloc | apply pw_below_drewN | apply below_drew1) | exact HB.out)) hb); clear HB; have HB := n0_; clear n0_; (try clear hb); (try clear hb2); (try clear hk); (try clear hi)))
      go_meet
      case rel => exact ⟨_, (true), (by first | rfl | (simp; done) | (simp [*]; done)), H', ⟨by first | omega | exact Nat.le_refl _⟩, ⟨by repeat (first | (with_reducible first | exact HB.out | apply below_alloc | apply pw_below_drewN | apply below_drew1) | exact HB.out)⟩⟩
  case rest =>
    clear HC3
    try clear c2
    try clear p2
    try clear c5
    try clear c6
    try clear c6b0
    try clear c7
    obtain ⟨kq, x19_2, rfl, HA, HJ2, HB⟩ := hcut
    cases kq with
    | zero => exact absurd HA.out (by simp [impl_FormulasClear.j0])
    | succ kj2 =>
      have H := HA.out
      clear HA
      simp only [impl_FormulasClear.j0] at H
      by_cases c10 : x19_2 = true
      · subst c10
        have H1 : (some false) = some r := by rw [if_pos rfl] at H; exact H
        clear H
        have H := H1
        clear H1
        obtain rfl := Option.some.inj H
        go_wp2
        go_ret
        exact ⟨by first | rfl | (simp [errW_none, errW_some] <;> rfl) | (simp [*, errW_none, errW_some] <;> rfl), by repeat (first | (with_reducible first | exact HB.out | apply below_alloc | apply pw_below_drewN | apply below_drew1) | exact HB.out)⟩
      · replace c10 := Bool.eq_false_iff.mpr c10
        subst c10
        have H1 : (impl_FormulasClear.l0 kj2 l0 a1 l0 (l0.length : Int) 0) = some r := by rw [if_neg (show ¬ (false = true) by decide)] at H; exact H
        clear H
        have H := H1
        clear H1
        have H' := Aside0.mk H
        clear H
        go_wp2
        go_loopg [22] kj2 (fun kq v22 w' => ∃ (x22_2 : Int), v22 = .int .i64 x22_2 ∧ Aside0 (impl_FormulasClear.l0 kq l0 a1 l0 (l0.length : Int) x22_2 = some r) ∧ Aside0 (kq ≤ kj2) ∧ Aside0 (Below w.heap.size w w'))
        case atStart => exact ⟨(0), (by first | rfl | (simp; done) | (simp [*]; done)), H', ⟨Nat.le_refl _⟩, ⟨by repeat (first | (with_reducible first | exact HB.out | apply below_alloc | apply pw_below_drewN | apply below_drew1) | exact HB.out)⟩⟩
        case round =>
          clear H'
          try clear c1
          try clear c2
          try clear p2
          try clear c5
          try clear c6
          try clear c6b0
          try clear c7
          try clear c10
          try clear p2
          obtain ⟨x22_2, rfl, HA, HK2, HB⟩ := hrel
          cases gk with
          | zero => exact absurd HA.out (by simp [impl_FormulasClear.l0])
          | succ k2 =>
            have H := HA.out
            clear HA
            simp only [impl_FormulasClear.l0] at H
            by_cases c11 : x22_2 < (l0.length : Int)
            · rw [if_pos c11] at H
              have c11b0 : decide (x22_2 < (l0.length : Int)) = true := decide_eq_true c11
              clear c11
              by_cases c12 : 0 ≤ x22_2
              · rw [if_pos c12] at H
                have c12b0 : decide (0 ≤ x22_2) = true := decide_eq_true c12
                clear c12
                by_cases c13 : x22_2 < (l0.length : Int)
                · rw [if_pos c13] at H
                  have c13b0 : decide (x22_2 < (l0.length : Int)) = true := decide_eq_true c13
                  clear c13
                  have H' := Aside0.mk H
                  clear H
                  have p198 : 0 ≤ (x22_2 : Int) := of_decide_eq_true (by first | (with_reducible assumption) | assumption)
                  have q198 : x22_2 < (l0.length : Int) := of_decide_eq_true (by first | (with_reducible assumption) | assumption)
                  obtain ⟨ad198, A198_0, c198_0, e198, hx198_0, hx198_1, hl198_0, hi198_0⟩ := at_T55 HR0.out x22_2 p198 q198
                  cases e198
                  replace hx198_0 := (HB.out.cell (World.block_lt_of_cell? w _ hx198_0)).trans hx198_0
                  replace hx198_1 := (HB.out.cell (World.block_lt_of_cell? w _ hx198_1)).trans hx198_1
                  have HR198_0 := Aside0.mk hi198_0
                  have HC198_0 := Aside0.mk hl198_0
                  clear hi198_0 hl198_0
                  replace p198 := eq_true p198
                  replace q198 := eq_true q198
                  go_wp2_with (first | ((with_reducible refine gate_dst (N := 6) rfl ?_); (try (refine gate_guard (by rfl) ?_; dsimp only)); refine box_event ?hg (N := 6) ?hd (cs := #[.slice none 0 0, .int .i64 0]) (t := 55) ?hr ?_; (case hd => rfl); (case hg => rfl); (case hr => first | (go_simp; done) | (go_simp; rfl)); intro gb199 hg w14 hbox hb; have n0_ := Aside0.mk (below_step (by repeat (first | (with_reducible first | exact HB.out | apply below_alloc | apply pw_below_drewN | apply below_drew1) | exact HB.out)) hb); have n1_ := Aside0.mk (hbox); have n2_ := Aside0.mk ((by rw [hg]; exact (below_size (by repeat (first | (with_reducible first | exact HB.out | apply below_alloc | apply pw_below_drewN | apply below_drew1) | exact HB.out))) : w.heap.size ≤ gb199)); have n3_ := Aside0.mk ((by rw [hg]; exact (below_size (by repeat (first | (with_reducible first | exact HB.out | apply below_alloc | apply pw_below_drewN | apply below_drew1) | exact HB.out))) : w.heap.size ≤ gb199)); clear HB; have HB := n0_; have BK199 := n1_; have GW199 := n2_; have GE199 := n3_; clear n0_ n1_ n2_ n3_; clear hb hbox hg; have hcz15_0 : w14.cell? ⟨gb199, 0, none⟩ = some (.slice none 0 0) := (blk_cell BK199.out 0).trans rfl; have hcz15_1 : w14.cell? ⟨gb199, 1, none⟩ = some (.int .i64 0) := (blk_cell BK199.out 1).trans rfl; have hfz15_0 := blk_frozen BK199.out 0; have hfz15_1 := blk_frozen BK199.out 1))
                  go_loopg [29] k2 (fun kq v29 w' => ∃ (x29_3 : Int), v29 = .int .i64 x29_3 ∧ Aside0 (impl_FormulasClear.l1 kq l0 a1 x22_2 l0 (l0.length : Int) x22_2 l0 (l0.length : Int) x29_3 ((rd_T55 l0 x22_2).f0) ((rd_T55 l0 x22_2).f1) = some r) ∧ Aside0 (kq ≤ k2) ∧ Aside0 (w'.heap[gb199]? = some (.cells #[(.slice A198_0 ((rd_T55 l0 x22_2).f0).length c198_0), .int .i64 ((rd_T55 l0 x22_2).f1)] 55 (0, 0))) ∧ Aside0 (Below w.heap.size w w'))
                  case atStart => exact ⟨(0), (by first | rfl | (simp; done) | (simp [*]; done)), H', ⟨Nat.le_refl _⟩, ⟨by (with_reducible repeat (first | refine blk_drewN ?_ _ | refine blk_drew ?_ | refine blk_alloc ?_ _)); refine blk_put (cs := #[.slice A198_0 ((rd_T55 l0 x22_2).f0).length c198_0, .int .i64 0]) ?_ 1 _ rfl; (with_reducible repeat (first | refine blk_drewN ?_ _ | refine blk_drew ?_ | refine blk_alloc ?_ _)); refine blk_put (cs := #[.slice none 0 0, .int .i64 0]) ?_ 0 _ rfl; (with_reducible repeat (first | refine blk_drewN ?_ _ | refine blk_drew ?_ | refine blk_alloc ?_ _)); exact BK199.out⟩, ⟨by repeat (first | (with_reducible first | exact HB.out | apply below_alloc | apply pw_below_drewN | apply below_drew1 | refine below_set ?_ GE199.out) | exact HB.out)⟩⟩
                  case round =>
                    clear H'
                    try clear c1
                    try clear p1
                    try clear q1
                    try clear hx1
                    try clear c2
                    try clear p2
                    try clear c5
                    try clear c6
                    try clear c6b0
                    try clear c7
                    try clear c10
                    try clear c11
                    try clear c11b0
                    try clear c12
                    try clear c12b0
                    try clear c13
                    try clear c13b0
                    try clear hcz15_0
                    try clear hcz15_1
                    try clear hfz15_0
                    try clear hfz15_1
                    try clear hx198_0
                    try clear hx198_1
                    try clear p198
                    try clear p2
                    try clear q198
                    obtain ⟨x29_3, rfl, HA, HK3, BK199, HB⟩ := hrel
                    cases gk with
                    | zero => exact absurd HA.out (by simp [impl_FormulasClear.l1])
                    | succ k3 =>
                      have H := HA.out
                      clear HA
                      simp only [impl_FormulasClear.l1] at H
                      by_cases c16 : x29_3 < (l0.length : Int)
                      · rw [if_pos c16] at H
                        have c16b0 : decide (x29_3 < (l0.length : Int)) = true := decide_eq_true c16
                        clear c16
                        by_cases c17 : 0 ≤ x29_3
                        · rw [if_pos c17] at H
                          have c17b0 : decide (0 ≤ x29_3) = true := decide_eq_true c17
                          clear c17
                          by_cases c18 : x29_3 < (l0.length : Int)
                          · rw [if_pos c18] at H
                            have c18b0 : decide (x29_3 < (l0.length : Int)) = true := decide_eq_true c18
                            clear c18
                            have HC19 := Aside0.mk H
                            clear H
                            have p200 : 0 ≤ (x29_3 : Int) := of_decide_eq_true (by first | (with_reducible assumption) | assumption)
                            have q200 : x29_3 < (l0.length : Int) := of_decide_eq_true (by first | (with_reducible assumption) | assumption)
                            obtain ⟨ad200, A200_0, c200_0, e200, hx200_0, hx200_1, hl200_0, hi200_0⟩ := at_T55 HR0.out x29_3 p200 q200
                            obtain rfl : ad198 = ad200 := (by injection e200)
                            replace hx200_0 := (HB.out.cell (World.block_lt_of_cell? w _ hx200_0)).trans hx200_0
                            replace hx200_1 := (HB.out.cell (World.block_lt_of_cell? w _ hx200_1)).trans hx200_1
                            have HR200_0 := Aside0.mk hi200_0
                            have HC200_0 := Aside0.mk hl200_0
                            clear hi200_0 hl200_0
                            replace p200 := eq_true p200
                            replace q200 := eq_true q200
                            go_upto_region 9 with (first | ((with_reducible refine gate_dst (N := 8) rfl ?_); (try (refine gate_guard (by rfl) ?_; dsimp only)); refine box_event ?hg (N := 8) ?hd (cs := #[.slice none 0 0, .int .i64 0]) (t := 55) ?hr ?_; (case hd => rfl); (case hg => rfl); (case hr => first | (go_simp; done) | (go_simp; rfl)); intro gb201 hg w20 hbox hb; have n0_ := Aside0.mk (blk_below (g := gb199) (o := .cells #[.slice A198_0 ((rd_T55 l0 x22_2).f0).length c198_0, .int .i64 ((rd_T55 l0 x22_2).f1)] 55 (0, 0)) (by (with_reducible repeat (first | refine blk_drewN ?_ _ | refine blk_drew ?_ | refine blk_alloc ?_ _)); exact BK199.out) hb); have n1_ := Aside0.mk (below_step (by repeat (first | (with_reducible first | exact HB.out | apply below_alloc | apply pw_below_drewN | apply below_drew1 | refine below_set ?_ GE199.out) | exact HB.out)) hb); have n2_ := Aside0.mk (hbox); have n3_ := Aside0.mk ((by rw [hg]; exact (below_size (by repeat (first | (with_reducible first | exact HB.out | apply below_alloc | apply pw_below_drewN | apply below_drew1 | refine below_set ?_ GE199.out) | exact HB.out))) : w.heap.size ≤ gb201)); have n4_ := Aside0.mk ((by rw [hg]; exact (below_size (by repeat (first | (with_reducible first | exact HB.out | apply below_alloc | apply pw_below_drewN | apply below_drew1 | refine below_set ?_ GE199.out) | exact HB.out))) : w.heap.size ≤ gb201)); have n5_ := Aside0.mk ((by rw [hg]; exact Nat.ne_of_lt (blk_lt (g := gb199) (o := .cells #[.slice A198_0 ((rd_T55 l0 x22_2).f0).length c198_0, .int .i64 ((rd_T55 l0 x22_2).f1)] 55 (0, 0)) (by (with_reducible repeat (first | refine blk_drewN ?_ _ | refine blk_drew ?_ | refine blk_alloc ?_ _)); exact BK199.out)) : gb199 ≠ gb201)); have n6_ := Aside0.mk ((by rw [hg]; exact Nat.ne_of_gt (blk_lt (g := gb199) (o := .cells #[.slice A198_0 ((rd_T55 l0 x22_2).f0).length c198_0, .int .i64 ((rd_T55 l0 x22_2).f1)] 55 (0, 0)) (by (with_reducible repeat (first | refine blk_drewN ?_ _ | refine blk_drew ?_ | refine blk_alloc ?_ _)); exact BK199.out)) : gb201 ≠ gb199)); clear BK199; clear HB; have BK199 := n0_; have HB := n1_; have BK201 := n2_; have GW201 := n3_; have GE201 := n4_; have NB199_201 := n5_; have NB201_199 := n6_; clear n0_ n1_ n2_ n3_ n4_ n5_ n6_; clear hb hbox hg; have hnb21 := NB201_199.out; have hnc21 := NB199_201.out; have hcz22_0 : w20.cell? ⟨gb201, 0, none⟩ = some (.slice none 0 0) := (blk_cell BK201.out 0).trans rfl; have hcz22_1 : w20.cell? ⟨gb201, 1, none⟩ = some (.int .i64 0) := (blk_cell BK201.out 1).trans rfl; have hfz22_0 := blk_frozen BK201.out 0; have hfz22_1 := blk_frozen BK201.out 1))
                            (try simp only [Act.put, List.setIfInBounds_toArray, List.set_cons_zero, List.set_cons_succ])
                            go_cut [51] (fun v51 wc => ∃ (kq : Nat) (x51_18 : Bool), v51 = .bool x51_18 ∧ Aside0 (impl_FormulasClear.j3 kq l0 a1 x22_2 l0 (l0.length : Int) x22_2 l0 (l0.length : Int) x29_3 x51_18 ((rd_T55 l0 x22_2).f0) ((rd_T55 l0 x22_2).f1) ((rd_T55 l0 x29_3).f0) ((rd_T55 l0 x29_3).f1) = some r) ∧ Aside0 (kq ≤ k3) ∧ Aside0 (wc.heap[gb199]? = some (.cells #[(.slice A198_0 ((rd_T55 l0 x22_2).f0).length c198_0), .int .i64 ((rd_T55 l0 x22_2).f1)] 55 (0, 0))) ∧ Aside0 (wc.heap[gb201]? = some (.cells #[(.slice A200_0 ((rd_T55 l0 x29_3).f0).length c200_0), .int .i64 ((rd_T55 l0 x29_3).f1)] 55 (0, 0))) ∧ Aside0 (Below w.heap.size w wc))
                            case first =>
                              have H := HC19.out
                              clear HC19
                              by_cases c23 : x22_2 = x29_3
                              · rw [if_pos c23] at H
                                have c23b0 : (x22_2 == x29_3) = true := beq_iff_eq.mpr c23
                                have c23b1 : (x22_2 != x29_3) = false := bne_eq_false_iff_eq.mpr c23
                                clear c23
                                (first | rw [c23b0] | (simp only [i64_w, i32_w]; rw [c23b0]) | skip)
                                have H' := Aside0.mk H
                                clear H
                                go_wp2
                                go_meet
                                case rel => exact ⟨_, (true), (by first | rfl | (simp; done) | (simp [*]; done)), H', ⟨by have := HJ2.out; have := HK2.out; have := HK3.out; first | omega | exact Nat.le_refl _⟩, ⟨by (with_reducible repeat (first | refine blk_drewN ?_ _ | refine blk_drew ?_ | refine blk_alloc ?_ _)); refine blk_far ?_ NB199_201.out _; (with_reducible repeat (first | refine blk_drewN ?_ _ | refine blk_drew ?_ | refine blk_alloc ?_ _)); refine blk_far ?_ NB199_201.out _; (with_reducible repeat (first | refine blk_drewN ?_ _ | refine blk_drew ?_ | refine blk_alloc ?_ _)); exact BK199.out⟩, ⟨by (with_reducible repeat (first | refine blk_drewN ?_ _ | refine blk_drew ?_ | refine blk_alloc ?_ _)); refine blk_put (cs := #[.slice A200_0 ((rd_T55 l0 x29_3).f0).length c200_0, .int .i64 0]) ?_ 1 _ rfl; (with_reducible repeat (first | refine blk_drewN ?_ _ | refine blk_drew ?_ | refine blk_alloc ?_ _)); refine blk_put (cs := #[.slice none 0 0, .int .i64 0]) ?_ 0 _ rfl; (with_reducible repeat (first | refine blk_drewN ?_ _ | refine blk_drew ?_ | refine blk_alloc ?_ _)); exact BK201.out⟩, ⟨by repeat (first | (with_reducible first | exact HB.out | apply below_alloc | apply pw_below_drewN | apply below_drew1 | refine below_set ?_ GE199.out | refine below_set ?_ GE201.out) | exact HB.out)⟩⟩
                              · rw [if_neg c23] at H
                                have c23b0 : (x22_2 == x29_3) = false := beq_eq_false_iff_ne.mpr c23
                                have c23b1 : (x22_2 != x29_3) = true := bne_iff_ne.mpr c23
                                (first | rw [c23b0] | (simp only [i64_w, i32_w]; rw [c23b0]) | skip)
                                by_cases c24 : (((rd_T55 l0 x29_3).f0).length : Int) > a1
                                · rw [if_pos c24] at H
                                  have c24b0 : decide (a1 < (((rd_T55 l0 x29_3).f0).length : Int)) = true := decide_eq_true c24
                                  clear c24
                                  have H' := Aside0.mk H
                                  clear H
                                  have hnb25 := NB201_199.out
                                  have hnc25 := NB199_201.out
                                  have hcz26_0 : w20.cell? ⟨gb201, 0, none⟩ = some (.slice none 0 0) := (blk_cell BK201.out 0).trans rfl
                                  have hcz26_1 : w20.cell? ⟨gb201, 1, none⟩ = some (.int .i64 0) := (blk_cell BK201.out 1).trans rfl
                                  have hfz26_0 := blk_frozen BK201.out 0
                                  have hfz26_1 := blk_frozen BK201.out 1
                                  go_wp2
                                  go_meet
                                  case rel => exact ⟨_, (true), (by first | rfl | (simp; done) | (simp [*]; done)), H', ⟨by have := HJ2.out; have := HK2.out; have := HK3.out; first | omega | exact Nat.le_refl _⟩, ⟨by (with_reducible repeat (first | refine blk_drewN ?_ _ | refine blk_drew ?_ | refine blk_alloc ?_ _)); refine blk_far ?_ NB199_201.out _; (with_reducible repeat (first | refine blk_drewN ?_ _ | refine blk_drew ?_ | refine blk_alloc ?_ _)); refine blk_far ?_ NB199_201.out _; (with_reducible repeat (first | refine blk_drewN ?_ _ | refine blk_drew ?_ | refine blk_alloc ?_ _)); exact BK199.out⟩, ⟨by (with_reducible repeat (first | refine blk_drewN ?_ _ | refine blk_drew ?_ | refine blk_alloc ?_ _)); refine blk_put (cs := #[.slice A200_0 ((rd_T55 l0 x29_3).f0).length c200_0, .int .i64 0]) ?_ 1 _ rfl; (with_reducible repeat (first | refine blk_drewN ?_ _ | refine blk_drew ?_ | refine blk_alloc ?_ _)); refine blk_put (cs := #[.slice none 0 0, .int .i64 0]) ?_ 0 _ rfl; (with_reducible repeat (first | refine blk_drewN ?_ _ | refine blk_drew ?_ | refine blk_alloc ?_ _)); exact BK201.out⟩, ⟨by repeat (first | (with_reducible first | exact HB.out | apply below_alloc | apply pw_below_drewN | apply below_drew1 | refine below_set ?_ GE199.out | refine below_set ?_ GE201.out) | exact HB.out)⟩⟩
                                · rw [if_neg c24] at H
                                  have c24b0 : decide (a1 < (((rd_T55 l0 x29_3).f0).length : Int)) = false := decide_eq_false c24
                                  clear c24
                                  replace H := Option.bind_eq_some_iff.mp H
                                  obtain ⟨t202, A270, H⟩ := H
                                  replace H : (impl_FormulasClear.j3 k3 l0 a1 x22_2 l0 (l0.length : Int) x22_2 l0 (l0.length : Int) x29_3 (!t202) ((rd_T55 l0 x22_2).f0) ((rd_T55 l0 x22_2).f1) ((rd_T55 l0 x29_3).f0) ((rd_T55 l0 x29_3).f1)) = some r := H
                                  have A27 := Aside0.mk A270
                                  clear A270
                                  have H' := Aside0.mk H
                                  clear H
                                  have hnb28 := NB201_199.out
                                  have hnc28 := NB199_201.out
                                  have hcz29_0 : w20.cell? ⟨gb201, 0, none⟩ = some (.slice none 0 0) := (blk_cell BK201.out 0).trans rfl
                                  have hcz29_1 : w20.cell? ⟨gb201, 1, none⟩ = some (.int .i64 0) := (blk_cell BK201.out 1).trans rfl
                                  have hfz29_0 := blk_frozen BK201.out 0
                                  have hfz29_1 := blk_frozen BK201.out 1
                                  have hcz30_0 : w20.cell? ⟨gb199, 0, none⟩ = some (.slice A198_0 ((rd_T55 l0 x22_2).f0).length c198_0) := (blk_cell BK199.out 0).trans rfl
                                  have hcz30_1 : w20.cell? ⟨gb199, 1, none⟩ = some (.int .i64 ((rd_T55 l0 x22_2).f1)) := (blk_cell BK199.out 1).trans rfl
                                  have hfz30_0 := blk_frozen BK199.out 0
                                  have hfz30_1 := blk_frozen BK199.out 1
                                  go_wp2_with (first | (go_at_call 72; (with_reducible refine (impl_begins.calls k3 _ _ ((rd_T55 l0 x29_3).f0) _ _ ((rd_T55 l0 x22_2).f0) t202 _ ?side1 ?side2 ?side3 ?side4 A27.out).mono ?_); (case side1 => exact Kd.C_below HR200_0.out (by repeat (first | (with_reducible first | exact HB.out | apply below_alloc | apply pw_below_drewN | apply below_drew1 | refine below_set ?_ GE199.out | refine below_set ?_ GE201.out) | exact HB.out))); (case side2 => exact HC200_0.out); (case side3 => exact Kd.C_below HR198_0.out (by repeat (first | (with_reducible first | exact HB.out | apply below_alloc | apply pw_below_drewN | apply below_drew1 | refine below_set ?_ GE199.out | refine below_set ?_ GE201.out) | exact HB.out))); (case side4 => exact HC198_0.out); rintro e w' ⟨rfl, ⟨nd, rfl⟩⟩))
                                  go_meet
                                  case rel => exact ⟨_, (!t202), (by first | rfl | (simp; done) | (simp [*]; done)), H', ⟨by have := HJ2.out; have := HK2.out; have := HK3.out; first | omega | exact Nat.le_refl _⟩, ⟨by (with_reducible repeat (first | refine blk_drewN ?_ _ | refine blk_drew ?_ | refine blk_alloc ?_ _)); refine blk_far ?_ NB199_201.out _; (with_reducible repeat (first | refine blk_drewN ?_ _ | refine blk_drew ?_ | refine blk_alloc ?_ _)); refine blk_far ?_ NB199_201.out _; (with_reducible repeat (first | refine blk_drewN ?_ _ | refine blk_drew ?_ | refine blk_alloc ?_ _)); exact BK199.out⟩, ⟨by (with_reducible repeat (first | refine blk_drewN ?_ _ | refine blk_drew ?_ | refine blk_alloc ?_ _)); refine blk_put (cs := #[.slice A200_0 ((rd_T55 l0 x29_3).f0).length c200_0, .int .i64 0]) ?_ 1 _ rfl; (with_reducible repeat (first | refine blk_drewN ?_ _ | refine blk_drew ?_ | refine blk_alloc ?_ _)); refine blk_put (cs := #[.slice none 0 0, .int .i64 0]) ?_ 0 _ rfl; (with_reducible repeat (first | refine blk_drewN ?_ _ | refine blk_drew ?_ | refine blk_alloc ?_ _)); exact BK201.out⟩, ⟨by repeat (first | (with_reducible first | exact HB.out | apply below_alloc | apply pw_below_drewN | apply below_drew1 | refine below_set ?_ GE199.out | refine below_set ?_ GE201.out) | exact HB.out)⟩⟩
                            case rest =>
                              clear HC19
                              try clear c1
                              try clear p1
                              try clear q1
                              try clear hx1
                              try clear c2
                              try clear p2
                              try clear q2
                              try clear hx2
                              try clear c5
                              try clear c6
                              try clear c6b0
                              try clear c7
                              try clear c10
                              try clear c11
                              try clear c11b0
                              try clear c12
                              try clear c12b0
                              try clear c13
                              try clear c13b0
                              try clear c16
                              try clear c16b0
                              try clear c17
                              try clear c17b0
                              try clear c18
                              try clear c18b0
                              try clear c19
                              try clear p19
                              try clear q19
                              try clear hx19
                              try clear c20
                              try clear p20
                              try clear q20
                              try clear hx20
                              try clear c21
                              try clear c22
                              try clear c23
                              try clear c23b0
                              try clear c23b1
                              try clear c24
                              try clear c24b0
                              try clear c25
                              try clear c28
                              try clear hcz15_0
                              try clear hcz15_1
                              try clear hcz22_0
                              try clear hcz22_1
                              try clear hcz26_0
                              try clear hcz26_1
                              try clear hcz29_0
                              try clear hcz29_1
                              try clear hcz30_0
                              try clear hcz30_1
                              try clear hfz15_0
                              try clear hfz15_1
                              try clear hfz22_0
                              try clear hfz22_1
                              try clear hfz26_0
                              try clear hfz26_1
                              try clear hfz29_0
                              try clear hfz29_1
                              try clear hfz30_0
                              try clear hfz30_1
                              try clear hx198_0
                              try clear hx198_1
                              try clear hx200_0
                              try clear hx200_1
                              try clear p1
                              try clear p198
                              try clear p2
                              try clear p200
                              try clear q1
                              try clear q198
                              try clear q200
                              obtain ⟨kq, x51_18, rfl, HA, HJ18, BK199, BK201, HB⟩ := hcut
                              cases kq with
                              | zero => exact absurd HA.out (by simp [impl_FormulasClear.j3])
                              | succ kj18 =>
                                have H := HA.out
                                clear HA
                                simp only [impl_FormulasClear.j3] at H
                                by_cases c31 : x51_18 = true
                                · subst c31
                                  have H1 : (impl_FormulasClear.l1 kj18 l0 a1 x22_2 l0 (l0.length : Int) x22_2 l0 (l0.length : Int) (wrap64 (x29_3 + 1)) ((rd_T55 l0 x22_2).f0) ((rd_T55 l0 x22_2).f1)) = some r := by rw [if_pos rfl] at H; exact H
                                  clear H
                                  have H := H1
                                  clear H1
                                  have H' := Aside0.mk H
                                  clear H
                                  go_wp2
                                  go_roundg kj18
                                  case measure => have := HJ2.out; have := HK2.out; have := HK3.out; have := HJ18.out; omega
                                  case rel => exact ⟨(wrap64 (x29_3 + 1)), (by first | rfl | (simp; done) | (simp [*]; done)), H', ⟨by have := HJ2.out; have := HK2.out; have := HK3.out; have := HJ18.out; omega⟩, ⟨by (with_reducible repeat (first | refine blk_drewN ?_ _ | refine blk_drew ?_ | refine blk_alloc ?_ _)); exact BK199.out⟩, ⟨by repeat (first | (with_reducible first | exact HB.out | apply below_alloc | apply pw_below_drewN | apply below_drew1 | refine below_set ?_ GE199.out | refine below_set ?_ GE201.out) | exact HB.out)⟩⟩
                                · replace c31 := Bool.eq_false_iff.mpr c31
                                  subst c31
                                  have H1 : (if 0 ≤ (((rd_T55 l0 x22_2).f0).length : Int) then (if (((rd_T55 l0 x22_2).f0).length : Int) ≤ (((rd_T55 l0 x29_3).f0).length : Int) then ((impl_meets.f kj18 l0 (((rd_T55 l0 x29_3).f0).drop ((((rd_T55 l0 x22_2).f0).length : Int) : Int).toNat) (((rd_T55 l0 x29_3).f0).length : Int) a1).bind fun t204 => (if t204 = true then (some false) else (impl_FormulasClear.l1 kj18 l0 a1 x22_2 l0 (l0.length : Int) x22_2 l0 (l0.length : Int) (wrap64 (x29_3 + 1)) ((rd_T55 l0 x22_2).f0) ((rd_T55 l0 x22_2).f1)))) else (none)) else (none)) = some r := by rw [if_neg (show ¬ (false = true) by decide)] at H; exact H
                                  clear H
                                  have H := H1
                                  clear H1
                                  by_cases c32 : 0 ≤ (((rd_T55 l0 x22_2).f0).length : Int)
                                  · rw [if_pos c32] at H
                                    have c32b0 := eq_true c32
                                    have c32b1 : decide (0 ≤ (((rd_T55 l0 x22_2).f0).length : Int)) = true := decide_eq_true c32
                                    clear c32
                                    by_cases c33 : (((rd_T55 l0 x22_2).f0).length : Int) ≤ (((rd_T55 l0 x29_3).f0).length : Int)
                                    · rw [if_pos c33] at H
                                      have c33b0 := eq_true c33
                                      have c33b1 : decide ((((rd_T55 l0 x22_2).f0).length : Int) ≤ (((rd_T55 l0 x29_3).f0).length : Int)) = true := decide_eq_true c33
                                      clear c33
                                      replace H := Option.bind_eq_some_iff.mp H
                                      obtain ⟨t204, A340, H⟩ := H
                                      replace H : (if t204 = true then (some false) else (impl_FormulasClear.l1 kj18 l0 a1 x22_2 l0 (l0.length : Int) x22_2 l0 (l0.length : Int) (wrap64 (x29_3 + 1)) ((rd_T55 l0 x22_2).f0) ((rd_T55 l0 x22_2).f1))) = some r := H
                                      have A34 := Aside0.mk A340
                                      clear A340
                                      by_cases c35 : t204 = true
                                      · subst c35
                                        have H1 : (some false) = some r := by rw [if_pos rfl] at H; exact H
                                        clear H
                                        have H := H1
                                        clear H1
                                        obtain rfl := Option.some.inj H
                                        try go_wp2
                                        have n0_ := Aside0.mk (blk_drew BK199.out)
                                        have n1_ := Aside0.mk (blk_drew BK201.out)
                                        have n2_ := Aside0.mk (below_drew1 HB.out)
                                        clear BK199
                                        clear BK201
                                        clear HB
                                        have BK199 := n0_
                                        have BK201 := n1_
                                        have HB := n2_
                                        clear n0_ n1_ n2_
                                        obtain ⟨i037, hi037, _, hsz37, _⟩ := info_parts info3
                                        obtain ⟨A37, hcut37, hA37, hC37⟩ := print_drop_of (P := Try.prog) (Value.int .i64) 0 46 3 .i64 Try.underlying46 hi037 hsz37 A200_0 c200_0 ((rd_T55 l0 x29_3).f0) (((rd_T55 l0 x22_2).f0).length : Int) (of_decide_eq_true (by first | (with_reducible assumption) | assumption)) (of_decide_eq_true (by first | (with_reducible assumption) | assumption)) HC200_0.out
                                        have HR203 := Aside0.mk (Kd.C_of_reads (h1 := fun _ => rfl) (hA37 _ (Kd.reads_of_C HR200_0.out)))
                                        have HC203 := Aside0.mk hC37
                                        clear hA37 hC37 hi037 hsz37
                                        refine start_ (n := 12) (S := fun w' => w'.cell? ⟨gb201, 0, none⟩ = some (.slice A200_0 ((rd_T55 l0 x29_3).f0).length c200_0) ∧ w'.cell? ⟨gb201, 1, none⟩ = some (.int .i64 ((rd_T55 l0 x29_3).f1)) ∧ w'.cell? ⟨gb199, 0, none⟩ = some (.slice A198_0 ((rd_T55 l0 x22_2).f0).length c198_0) ∧ w'.cell? ⟨gb199, 1, none⟩ = some (.int .i64 ((rd_T55 l0 x22_2).f1))) (ds := []) #[false, false, false, false, false, false, false, false, false, false, false, false] (by kernel_rfl) rfl rfl ⟨(blk_cell BK201.out 0).trans rfl, (blk_cell BK201.out 1).trans rfl, (blk_cell BK199.out 0).trans rfl, (blk_cell BK199.out 1).trans rfl⟩ (fun hHeld => ?_); refine with_tabW impl_FormulasClear.tab10 impl_FormulasClear.bits10 (fun HT_ HW_ => ?_)
                                        generalize wc.drew = w36 at BK199 BK201 HB HR203 hHeld ⊢
                                        refine pure_ (i := 0) (N := some 52) (v := ?_) (a' := ?_) #[true, false, false, false, false, false, false, false, false, false, false, false] rfl rfl (any_of HT_.out (by kernel_rfl)) (fun _ _ _ h => h) (Or.inl ⟨by rfl, ?_⟩) ?_ ?_
                                        rotate_left
                                        · intro w'
                                          go_simp
                                          with_reducible rfl
                                        rotate_left
                                        · simp only [Act.put, List.setIfInBounds_toArray, List.set_cons_zero, List.set_cons_succ, i64_w, i32_w]
                                          rfl
                                        refine pure_ (i := 1) (N := some 53) (v := ?_) (a' := ?_) #[true, true, false, false, false, false, false, false, false, false, false, false] rfl rfl (any_of HT_.out (by kernel_rfl)) (fun _ _ _ h => h) (Or.inl ⟨by rfl, ?_⟩) ?_ ?_
                                        rotate_left
                                        · intro w'
                                          go_simp
                                          with_reducible rfl
                                        rotate_left
                                        · simp only [Act.put, List.setIfInBounds_toArray, List.set_cons_zero, List.set_cons_succ, i64_w, i32_w]
                                          rfl
                                        refine pure_ (i := 3) (N := some 55) (v := ?_) (a' := ?_) #[true, true, false, true, false, false, false, false, false, false, false, false] rfl rfl (any_of HT_.out (by kernel_rfl)) (fun _ _ _ h => h) (Or.inl ⟨by rfl, ?_⟩) ?_ ?_
                                        rotate_left
                                        · intro w'
                                          go_simp
                                          with_reducible rfl
                                        rotate_left
                                        · simp only [Act.put, List.setIfInBounds_toArray, List.set_cons_zero, List.set_cons_succ, i64_w, i32_w]
                                          rfl
                                        refine pure_ (i := 7) (N := some 59) (v := ?_) (a' := ?_) #[true, true, false, true, false, false, false, true, false, false, false, false] rfl rfl (any_of HT_.out (by kernel_rfl)) (fun _ _ _ h => h) (Or.inl ⟨by rfl, ?_⟩) ?_ ?_
                                        rotate_left
                                        · intro w'
                                          go_simp
                                          with_reducible rfl
                                        rotate_left
                                        · simp only [Act.put, List.setIfInBounds_toArray, List.set_cons_zero, List.set_cons_succ, i64_w, i32_w]
                                          rfl
                                        refine pure_ (i := 10) (N := some 62) (v := ?_) (a' := ?_) #[true, true, false, true, false, false, false, true, false, false, true, false] rfl rfl (any_of HT_.out (by kernel_rfl)) (fun _ _ _ h => h) (Or.inl ⟨by rfl, ?_⟩) ?_ ?_
                                        rotate_left
                                        · intro w'
                                          go_simp
                                          with_reducible rfl
                                        rotate_left
                                        · simp only [Act.put, List.setIfInBounds_toArray, List.set_cons_zero, List.set_cons_succ, i64_w, i32_w]
                                          rfl
                                        refine take_ (i := 2) (N := some 54) (v := ?_) (a' := ?_) #[true, true, true, true, false, false, false, true, false, false, true, false] rfl rfl (take_ofW HT_.out HW_.out (by kernel_rfl)) (fun _ _ _ h => h) (Or.inl ⟨by rfl, ?_⟩) hHeld ?_ ?_
                                        rotate_left
                                        · rintro w' ⟨s0, s1, s2, s3⟩
                                          go_simp
                                          with_reducible rfl
                                        rotate_left
                                        · simp only [Act.put, List.setIfInBounds_toArray, List.set_cons_zero, List.set_cons_succ, i64_w, i32_w]
                                          rfl
                                        refine take_ (i := 4) (N := some 56) (v := ?_) (a' := ?_) #[true, true, true, true, true, false, false, true, false, false, true, false] rfl rfl (take_ofW HT_.out HW_.out (by kernel_rfl)) (fun _ _ _ h => h) (Or.inl ⟨by rfl, ?_⟩) hHeld ?_ ?_
                                        rotate_left
                                        · rintro w' ⟨s0, s1, s2, s3⟩
                                          go_simp
                                          with_reducible rfl
                                        rotate_left
                                        · simp only [Act.put, List.setIfInBounds_toArray, List.set_cons_zero, List.set_cons_succ, i64_w, i32_w]
                                          rfl
                                        refine pure_ (i := 5) (N := some 57) (v := ?_) (a' := ?_) #[true, true, true, true, true, true, false, true, false, false, true, false] rfl rfl (any_of HT_.out (by kernel_rfl)) (fun _ _ _ h => h) (Or.inl ⟨by rfl, ?_⟩) ?_ ?_
                                        rotate_left
                                        · intro w'
                                          go_simp
                                          with_reducible rfl
                                        rotate_left
                                        · simp only [Act.put, List.setIfInBounds_toArray, List.set_cons_zero, List.set_cons_succ, i64_w, i32_w]
                                          rfl
                                        refine pure_ (i := 6) (N := some 58) (v := ?_) (a' := ?_) #[true, true, true, true, true, true, true, true, false, false, true, false] rfl rfl (any_of HT_.out (by kernel_rfl)) (fun _ _ _ h => h) (Or.inl ⟨by rfl, ?_⟩) ?_ ?_
                                        rotate_left
                                        · intro w'
                                          go_simp
                                          with_reducible rfl
                                        rotate_left
                                        · simp only [Act.put, List.setIfInBounds_toArray, List.set_cons_zero, List.set_cons_succ, i64_w, i32_w]
                                          rfl
                                        refine take_ (i := 8) (N := some 60) (v := ?_) (a' := ?_) #[true, true, true, true, true, true, true, true, true, false, true, false] rfl rfl (take_ofW HT_.out HW_.out (by kernel_rfl)) (fun _ _ _ h => h) (Or.inl ⟨by rfl, ?_⟩) hHeld ?_ ?_
                                        rotate_left
                                        · rintro w' ⟨s0, s1, s2, s3⟩
                                          go_simp
                                          with_reducible rfl
                                        rotate_left
                                        · simp only [Act.put, List.setIfInBounds_toArray, List.set_cons_zero, List.set_cons_succ, i64_w, i32_w]
                                          rfl
                                        refine pure_ (i := 9) (N := some 61) (v := ?_) (a' := ?_) #[true, true, true, true, true, true, true, true, true, true, true, false] rfl rfl (any_of HT_.out (by kernel_rfl)) (fun _ _ _ h => h) (Or.inl ⟨by rfl, ?_⟩) ?_ ?_
                                        rotate_left
                                        · intro w'
                                          go_simp
                                          with_reducible rfl
                                        rotate_left
                                        · simp only [Act.put, List.setIfInBounds_toArray, List.set_cons_zero, List.set_cons_succ, i64_w, i32_w]
                                          rfl
                                        refine one_ (i := 11) (N := some 63) #[true, true, true, true, true, true, true, true, true, true, true, true] rfl rfl (one_of HT_.out (by kernel_rfl)) (by decide) (fun K hK => ?_)
                                        refine goes_ Try.func73 (by kernel_rfl) rfl #[.slice (some ad198) l0.length c0, .slice A37 (((rd_T55 l0 x29_3).f0).drop ((((rd_T55 l0 x22_2).f0).length : Int) : Int).toNat).length (c200_0 - (((rd_T55 l0 x22_2).f0).length : Int).toNat), .int .i64 (((rd_T55 l0 x29_3).f0).length : Int), .int .i64 a1] (by rfl) rfl rfl (by (try simp only [List.map_toArray, List.map_cons, List.map_nil]); first | done | (rw [show (((rd_T55 l0 x29_3).f0).drop ((((rd_T55 l0 x22_2).f0).length : Int) : Int).toNat).length = (((rd_T55 l0 x29_3).f0).length - (((rd_T55 l0 x22_2).f0).length : Int).toNat) from List.length_drop] <;> rfl) | rfl | (simp only [List.length_drop, List.length_take]; rfl)) ?_
                                        with_reducible refine (impl_meets.calls kj18 _ _ l0 _ _ (((rd_T55 l0 x29_3).f0).drop ((((rd_T55 l0 x22_2).f0).length : Int) : Int).toNat) (((rd_T55 l0 x29_3).f0).length : Int) a1 true _ ?side1 ?side2 ?side3 ?side4 A34.out).mono ?_
                                        (case side1 => repeat (first | exact (Kd.C_below HR0.out HB.out) | (with_reducible refine Kd.C_alloc ?_ _) | (with_reducible refine Kd.C_drewN ?_ _) | (with_reducible refine Kd.C_drew ?_)))
                                        (case side2 => exact HC0.out)
                                        (case side3 => repeat (first | exact (Kd.C_below HR203.out HB.out) | (with_reducible refine Kd.C_alloc ?_ _) | (with_reducible refine Kd.C_drewN ?_ _) | (with_reducible refine Kd.C_drew ?_)))
                                        (case side4 => exact HC203.out)
                                        rintro e w38 ⟨rfl, hb⟩
                                        refine ⟨_, rfl, ?_⟩
                                        have n0_ := Aside0.mk (blk_below (g := gb199) (o := .cells #[.slice A198_0 ((rd_T55 l0 x22_2).f0).length c198_0, .int .i64 ((rd_T55 l0 x22_2).f1)] 55 (0, 0)) (by (with_reducible repeat (first | refine blk_drewN ?_ _ | refine blk_drew ?_ | refine blk_alloc ?_ _)); exact BK199.out) hb)
                                        have n1_ := Aside0.mk (blk_below (g := gb201) (o := .cells #[.slice A200_0 ((rd_T55 l0 x29_3).f0).length c200_0, .int .i64 ((rd_T55 l0 x29_3).f1)] 55 (0, 0)) (by (with_reducible repeat (first | refine blk_drewN ?_ _ | refine blk_drew ?_ | refine blk_alloc ?_ _)); exact BK201.out) hb)
                                        have n2_ := Aside0.mk (below_step (by repeat (first | (with_reducible first | exact HB.out | apply below_alloc | apply pw_below_drewN | apply below_drew1 | refine below_set ?_ GE199.out | refine below_set ?_ GE201.out) | exact HB.out)) hb)
                                        clear BK199
                                        clear BK201
                                        clear HB
                                        have BK199 := n0_
                                        have BK201 := n1_
                                        have HB := n2_
                                        clear n0_ n1_ n2_
                                        (try clear hb)
                                        (try clear hb2)
                                        (try clear hk)
                                        (try clear hi)
                                        refine hK.out _ _ ⟨(blk_cell BK201.out 0).trans rfl, (blk_cell BK201.out 1).trans rfl, (blk_cell BK199.out 0).trans rfl, (blk_cell BK199.out 1).trans rfl⟩ (fun hHeld => ?_)
                                        clear hK K
                                        refine norm_ (a' := ?_) ?_ ?_
                                        rotate_left
                                        · show Act.put _ (some 63) _ = _
                                          simp only [Act.put, List.setIfInBounds_toArray, List.set_cons_zero, List.set_cons_succ, i64_w, i32_w]
                                          rfl
                                        refine done_ (done_of HT_.out (by kernel_rfl)) ?_
                                        try go_wp2
                                        go_ret
                                        exact ⟨by first | rfl | (simp [errW_none, errW_some] <;> rfl) | (simp [*, errW_none, errW_some] <;> rfl), by repeat (first | (with_reducible first | exact HB.out | apply below_alloc | apply pw_below_drewN | apply below_drew1 | refine below_set ?_ GE199.out | refine below_set ?_ GE201.out) | exact HB.out)⟩
                                      · replace c35 := Bool.eq_false_iff.mpr c35
                                        subst c35
                                        have H1 : (impl_FormulasClear.l1 kj18 l0 a1 x22_2 l0 (l0.length : Int) x22_2 l0 (l0.length : Int) (wrap64 (x29_3 + 1)) ((rd_T55 l0 x22_2).f0) ((rd_T55 l0 x22_2).f1)) = some r := by rw [if_neg (show ¬ (false = true) by decide)] at H; exact H
                                        clear H
                                        have H := H1
                                        clear H1
                                        have H' := Aside0.mk H
                                        clear H
                                        try go_wp2
                                        have n0_ := Aside0.mk (blk_drew BK199.out)
                                        have n1_ := Aside0.mk (blk_drew BK201.out)
                                        have n2_ := Aside0.mk (below_drew1 HB.out)
                                        clear BK199
                                        clear BK201
                                        clear HB
                                        have BK199 := n0_
                                        have BK201 := n1_
                                        have HB := n2_
                                        clear n0_ n1_ n2_
                                        obtain ⟨i040, hi040, _, hsz40, _⟩ := info_parts info3
                                        obtain ⟨A40, hcut40, hA40, hC40⟩ := print_drop_of (P := Try.prog) (Value.int .i64) 0 46 3 .i64 Try.underlying46 hi040 hsz40 A200_0 c200_0 ((rd_T55 l0 x29_3).f0) (((rd_T55 l0 x22_2).f0).length : Int) (of_decide_eq_true (by first | (with_reducible assumption) | assumption)) (of_decide_eq_true (by first | (with_reducible assumption) | assumption)) HC200_0.out
                                        have HR203 := Aside0.mk (Kd.C_of_reads (h1 := fun _ => rfl) (hA40 _ (Kd.reads_of_C HR200_0.out)))
                                        have HC203 := Aside0.mk hC40
                                        clear hA40 hC40 hi040 hsz40
                                        refine start_ (n := 12) (S := fun w' => w'.cell? ⟨gb201, 0, none⟩ = some (.slice A200_0 ((rd_T55 l0 x29_3).f0).length c200_0) ∧ w'.cell? ⟨gb201, 1, none⟩ = some (.int .i64 ((rd_T55 l0 x29_3).f1)) ∧ w'.cell? ⟨gb199, 0, none⟩ = some (.slice A198_0 ((rd_T55 l0 x22_2).f0).length c198_0) ∧ w'.cell? ⟨gb199, 1, none⟩ = some (.int .i64 ((rd_T55 l0 x22_2).f1))) (ds := []) #[false, false, false, false, false, false, false, false, false, false, false, false] (by kernel_rfl) rfl rfl ⟨(blk_cell BK201.out 0).trans rfl, (blk_cell BK201.out 1).trans rfl, (blk_cell BK199.out 0).trans rfl, (blk_cell BK199.out 1).trans rfl⟩ (fun hHeld => ?_); refine with_tabW impl_FormulasClear.tab10 impl_FormulasClear.bits10 (fun HT_ HW_ => ?_)
                                        generalize wc.drew = w39 at BK199 BK201 HB HR203 hHeld ⊢
                                        refine pure_ (i := 0) (N := some 52) (v := ?_) (a' := ?_) #[true, false, false, false, false, false, false, false, false, false, false, false] rfl rfl (any_of HT_.out (by kernel_rfl)) (fun _ _ _ h => h) (Or.inl ⟨by rfl, ?_⟩) ?_ ?_
                                        rotate_left
                                        · intro w'
                                          go_simp
                                          with_reducible rfl
                                        rotate_left
                                        · simp only [Act.put, List.setIfInBounds_toArray, List.set_cons_zero, List.set_cons_succ, i64_w, i32_w]
                                          rfl
                                        refine pure_ (i := 1) (N := some 53) (v := ?_) (a' := ?_) #[true, true, false, false, false, false, false, false, false, false, false, false] rfl rfl (any_of HT_.out (by kernel_rfl)) (fun _ _ _ h => h) (Or.inl ⟨by rfl, ?_⟩) ?_ ?_
                                        rotate_left
                                        · intro w'
                                          go_simp
                                          with_reducible rfl
                                        rotate_left
                                        · simp only [Act.put, List.setIfInBounds_toArray, List.set_cons_zero, List.set_cons_succ, i64_w, i32_w]
                                          rfl
                                        refine pure_ (i := 3) (N := some 55) (v := ?_) (a' := ?_) #[true, true, false, true, false, false, false, false, false, false, false, false] rfl rfl (any_of HT_.out (by kernel_rfl)) (fun _ _ _ h => h) (Or.inl ⟨by rfl, ?_⟩) ?_ ?_
                                        rotate_left
                                        · intro w'
                                          go_simp
                                          with_reducible rfl
                                        rotate_left
                                        · simp only [Act.put, List.setIfInBounds_toArray, List.set_cons_zero, List.set_cons_succ, i64_w, i32_w]
                                          rfl
                                        refine pure_ (i := 7) (N := some 59) (v := ?_) (a' := ?_) #[true, true, false, true, false, false, false, true, false, false, false, false] rfl rfl (any_of HT_.out (by kernel_rfl)) (fun _ _ _ h => h) (Or.inl ⟨by rfl, ?_⟩) ?_ ?_
                                        rotate_left
                                        · intro w'
                                          go_simp
                                          with_reducible rfl
                                        rotate_left
                                        · simp only [Act.put, List.setIfInBounds_toArray, List.set_cons_zero, List.set_cons_succ, i64_w, i32_w]
                                          rfl
                                        refine pure_ (i := 10) (N := some 62) (v := ?_) (a' := ?_) #[true, true, false, true, false, false, false, true, false, false, true, false] rfl rfl (any_of HT_.out (by kernel_rfl)) (fun _ _ _ h => h) (Or.inl ⟨by rfl, ?_⟩) ?_ ?_
                                        rotate_left
                                        · intro w'
                                          go_simp
                                          with_reducible rfl
                                        rotate_left
                                        · simp only [Act.put, List.setIfInBounds_toArray, List.set_cons_zero, List.set_cons_succ, i64_w, i32_w]
                                          rfl
                                        refine take_ (i := 2) (N := some 54) (v := ?_) (a' := ?_) #[true, true, true, true, false, false, false, true, false, false, true, false] rfl rfl (take_ofW HT_.out HW_.out (by kernel_rfl)) (fun _ _ _ h => h) (Or.inl ⟨by rfl, ?_⟩) hHeld ?_ ?_
                                        rotate_left
                                        · rintro w' ⟨s0, s1, s2, s3⟩
                                          go_simp
                                          with_reducible rfl
                                        rotate_left
                                        · simp only [Act.put, List.setIfInBounds_toArray, List.set_cons_zero, List.set_cons_succ, i64_w, i32_w]
                                          rfl
                                        refine take_ (i := 4) (N := some 56) (v := ?_) (a' := ?_) #[true, true, true, true, true, false, false, true, false, false, true, false] rfl rfl (take_ofW HT_.out HW_.out (by kernel_rfl)) (fun _ _ _ h => h) (Or.inl ⟨by rfl, ?_⟩) hHeld ?_ ?_
                                        rotate_left
                                        · rintro w' ⟨s0, s1, s2, s3⟩
                                          go_simp
                                          with_reducible rfl
                                        rotate_left
                                        · simp only [Act.put, List.setIfInBounds_toArray, List.set_cons_zero, List.set_cons_succ, i64_w, i32_w]
                                          rfl
                                        refine pure_ (i := 5) (N := some 57) (v := ?_) (a' := ?_) #[true, true, true, true, true, true, false, true, false, false, true, false] rfl rfl (any_of HT_.out (by kernel_rfl)) (fun _ _ _ h => h) (Or.inl ⟨by rfl, ?_⟩) ?_ ?_
                                        rotate_left
                                        · intro w'
                                          go_simp
                                          with_reducible rfl
                                        rotate_left
                                        · simp only [Act.put, List.setIfInBounds_toArray, List.set_cons_zero, List.set_cons_succ, i64_w, i32_w]
                                          rfl
                                        refine pure_ (i := 6) (N := some 58) (v := ?_) (a' := ?_) #[true, true, true, true, true, true, true, true, false, false, true, false] rfl rfl (any_of HT_.out (by kernel_rfl)) (fun _ _ _ h => h) (Or.inl ⟨by rfl, ?_⟩) ?_ ?_
                                        rotate_left
                                        · intro w'
                                          go_simp
                                          with_reducible rfl
                                        rotate_left
                                        · simp only [Act.put, List.setIfInBounds_toArray, List.set_cons_zero, List.set_cons_succ, i64_w, i32_w]
                                          rfl
                                        refine take_ (i := 8) (N := some 60) (v := ?_) (a' := ?_) #[true, true, true, true, true, true, true, true, true, false, true, false] rfl rfl (take_ofW HT_.out HW_.out (by kernel_rfl)) (fun _ _ _ h => h) (Or.inl ⟨by rfl, ?_⟩) hHeld ?_ ?_
                                        rotate_left
                                        · rintro w' ⟨s0, s1, s2, s3⟩
                                          go_simp
                                          with_reducible rfl
                                        rotate_left
                                        · simp only [Act.put, List.setIfInBounds_toArray, List.set_cons_zero, List.set_cons_succ, i64_w, i32_w]
                                          rfl
                                        refine pure_ (i := 9) (N := some 61) (v := ?_) (a' := ?_) #[true, true, true, true, true, true, true, true, true, true, true, false] rfl rfl (any_of HT_.out (by kernel_rfl)) (fun _ _ _ h => h) (Or.inl ⟨by rfl, ?_⟩) ?_ ?_
                                        rotate_left
                                        · intro w'
                                          go_simp
                                          with_reducible rfl
                                        rotate_left
                                        · simp only [Act.put, List.setIfInBounds_toArray, List.set_cons_zero, List.set_cons_succ, i64_w, i32_w]
                                          rfl
                                        refine one_ (i := 11) (N := some 63) #[true, true, true, true, true, true, true, true, true, true, true, true] rfl rfl (one_of HT_.out (by kernel_rfl)) (by decide) (fun K hK => ?_)
                                        refine goes_ Try.func73 (by kernel_rfl) rfl #[.slice (some ad198) l0.length c0, .slice A40 (((rd_T55 l0 x29_3).f0).drop ((((rd_T55 l0 x22_2).f0).length : Int) : Int).toNat).length (c200_0 - (((rd_T55 l0 x22_2).f0).length : Int).toNat), .int .i64 (((rd_T55 l0 x29_3).f0).length : Int), .int .i64 a1] (by rfl) rfl rfl (by (try simp only [List.map_toArray, List.map_cons, List.map_nil]); first | done | (rw [show (((rd_T55 l0 x29_3).f0).drop ((((rd_T55 l0 x22_2).f0).length : Int) : Int).toNat).length = (((rd_T55 l0 x29_3).f0).length - (((rd_T55 l0 x22_2).f0).length : Int).toNat) from List.length_drop] <;> rfl) | rfl | (simp only [List.length_drop, List.length_take]; rfl)) ?_
                                        with_reducible refine (impl_meets.calls kj18 _ _ l0 _ _ (((rd_T55 l0 x29_3).f0).drop ((((rd_T55 l0 x22_2).f0).length : Int) : Int).toNat) (((rd_T55 l0 x29_3).f0).length : Int) a1 false _ ?side1 ?side2 ?side3 ?side4 A34.out).mono ?_
                                        (case side1 => repeat (first | exact (Kd.C_below HR0.out HB.out) | (with_reducible refine Kd.C_alloc ?_ _) | (with_reducible refine Kd.C_drewN ?_ _) | (with_reducible refine Kd.C_drew ?_)))
                                        (case side2 => exact HC0.out)
                                        (case side3 => repeat (first | exact (Kd.C_below HR203.out HB.out) | (with_reducible refine Kd.C_alloc ?_ _) | (with_reducible refine Kd.C_drewN ?_ _) | (with_reducible refine Kd.C_drew ?_)))
                                        (case side4 => exact HC203.out)
                                        rintro e w41 ⟨rfl, hb⟩
                                        refine ⟨_, rfl, ?_⟩
                                        have n0_ := Aside0.mk (blk_below (g := gb199) (o := .cells #[.slice A198_0 ((rd_T55 l0 x22_2).f0).length c198_0, .int .i64 ((rd_T55 l0 x22_2).f1)] 55 (0, 0)) (by (with_reducible repeat (first | refine blk_drewN ?_ _ | refine blk_drew ?_ | refine blk_alloc ?_ _)); exact BK199.out) hb)
                                        have n1_ := Aside0.mk (blk_below (g := gb201) (o := .cells #[.slice A200_0 ((rd_T55 l0 x29_3).f0).length c200_0, .int .i64 ((rd_T55 l0 x29_3).f1)] 55 (0, 0)) (by (with_reducible repeat (first | refine blk_drewN ?_ _ | refine blk_drew ?_ | refine blk_alloc ?_ _)); exact BK201.out) hb)
                                        have n2_ := Aside0.mk (below_step (by repeat (first | (with_reducible first | exact HB.out | apply below_alloc | apply pw_below_drewN | apply below_drew1 | refine below_set ?_ GE199.out | refine below_set ?_ GE201.out) | exact HB.out)) hb)
                                        clear BK199
                                        clear BK201
                                        clear HB
                                        have BK199 := n0_
                                        have BK201 := n1_
                                        have HB := n2_
                                        clear n0_ n1_ n2_
                                        (try clear hb)
                                        (try clear hb2)
                                        (try clear hk)
                                        (try clear hi)
                                        refine hK.out _ _ ⟨(blk_cell BK201.out 0).trans rfl, (blk_cell BK201.out 1).trans rfl, (blk_cell BK199.out 0).trans rfl, (blk_cell BK199.out 1).trans rfl⟩ (fun hHeld => ?_)
                                        clear hK K
                                        refine norm_ (a' := ?_) ?_ ?_
                                        rotate_left
                                        · show Act.put _ (some 63) _ = _
                                          simp only [Act.put, List.setIfInBounds_toArray, List.set_cons_zero, List.set_cons_succ, i64_w, i32_w]
                                          rfl
                                        refine done_ (done_of HT_.out (by kernel_rfl)) ?_
                                        try go_wp2
                                        go_roundg kj18
                                        case measure => have := HJ2.out; have := HK2.out; have := HK3.out; have := HJ18.out; omega
                                        case rel => exact ⟨(wrap64 (x29_3 + 1)), (by first | rfl | (simp; done) | (simp [*]; done)), H', ⟨by have := HJ2.out; have := HK2.out; have := HK3.out; have := HJ18.out; omega⟩, ⟨by (with_reducible repeat (first | refine blk_drewN ?_ _ | refine blk_drew ?_ | refine blk_alloc ?_ _)); exact BK199.out⟩, ⟨by repeat (first | (with_reducible first | exact HB.out | apply below_alloc | apply pw_below_drewN | apply below_drew1 | refine below_set ?_ GE199.out | refine below_set ?_ GE201.out) | exact HB.out)⟩⟩
                                    · rw [if_neg c33] at H
                                      exact absurd H (by simp)
                                  · rw [if_neg c32] at H
                                    exact absurd H (by simp)
                          · rw [if_neg c18] at H
                            exact absurd H (by simp)
                        · rw [if_neg c17] at H
                          exact absurd H (by simp)
                      · rw [if_neg c16] at H
                        have c16b0 : decide (x29_3 < (l0.length : Int)) = false := decide_eq_false c16
                        clear c16
                        have H' := Aside0.mk H
                        clear H
                        go_wp2
                        go_roundg k3
                        case measure => have := HJ2.out; have := HK2.out; have := HK3.out; omega
                        case rel => exact ⟨(wrap64 (x22_2 + 1)), (by first | rfl | (simp; done) | (simp [*]; done)), H', ⟨by have := HJ2.out; have := HK2.out; have := HK3.out; omega⟩, ⟨by repeat (first | (with_reducible first | exact HB.out | apply below_alloc | apply pw_below_drewN | apply below_drew1 | refine below_set ?_ GE199.out) | exact HB.out)⟩⟩
                · rw [if_neg c13] at H
                  exact absurd H (by simp)
              · rw [if_neg c12] at H
                exact absurd H (by simp)
            · rw [if_neg c11] at H
              have c11b0 : decide (x22_2 < (l0.length : Int)) = false := decide_eq_false c11
              clear c11
              obtain rfl := Option.some.inj H
              go_wp2
              go_ret
              exact ⟨by first | rfl | (simp [errW_none, errW_some] <;> rfl) | (simp [*, errW_none, errW_some] <;> rfl), by repeat (first | (with_reducible first | exact HB.out | apply below_alloc | apply pw_below_drewN | apply below_drew1) | exact HB.out)⟩

def hitOne (L : List S55) (n : Int) (i : Nat) (f : S55) (k : Nat) (g : S55) : Bool := !(decide (i = k)) && (decide ((g.f0.length : Int) ≤ n) && (isPre f.f0 g.f0 && meetsP L n 40 (g.f0.drop f.f0.length) (g.f0.length : Int)))
def hitRow (L : List S55) (n : Int) (i : Nat) (f : S55) : Nat → List S55 → Bool
  | _, [] => false
  | k, g :: gs => hitOne L n i f k g || hitRow L n i f (k + 1) gs
def hitAll (L : List S55) (n : Int) : Nat → List S55 → Bool
  | _, [] => false
  | i, f :: fs => hitRow L n i f 0 L || hitAll L n (i + 1) fs
def clearI (L : List S55) (n : Int) : Bool := fsOk L && (decide (0 ≤ n ∧ n ≤ 5) && !(hitAll L n 0 L))
theorem pw_ne {L : List S55} (hv : FsV L) {i q : Nat} (hi : i < L.length) (hq : q < L.length) (h : i ≠ q) : (rd_T55 L (i : Int)).f0 ≠ (rd_T55 L (q : Int)).f0 := by
  have e : ∀ j (hj : j < L.length), rd_T55 L (j : Int) = L[j] := by
    intro j hj
    unfold rd_T55
    rw [Int.toNat_natCast, List.getD_eq_getElem?_getD, List.getElem?_eq_getElem hj]; rfl
  rw [e i hi, e q hq]
  have hp := List.pairwise_iff_getElem.1 hv.pw
  rcases Nat.lt_or_gt_of_ne h with h | h
  · exact hp i q hi hq h
  · exact fun e => hp q i hq hi h e.symm
theorem drop_rd (L : List S55) {q : Nat} (hq : q < L.length) : L.drop q = rd_T55 L (q : Int) :: L.drop (q + 1) := by
  rw [List.drop_eq_getElem_cons hq]
  unfold rd_T55
  rw [Int.toNat_natCast, List.getD_eq_getElem?_getD, List.getElem?_eq_getElem hq]; rfl
theorem clear_row {L : List S55} (hv : FsV L) {n : Int} (hn0 : 0 ≤ n) (hn : n ≤ 5) {i : Nat} (hi : i < L.length) {R : Bool}
    (nxt : Ev (fun k => impl_FormulasClear.l0 k L n L (L.length : Int) ((i : Int) + 1)) R) :
    ∀ (d q : Nat), q + d = L.length → Ev (fun k => impl_FormulasClear.l1 k L n (i : Int) L (L.length : Int) (i : Int) L (L.length : Int) (q : Int) (rd_T55 L (i : Int)).f0 (rd_T55 L (i : Int)).f1) (!(hitRow L n i (rd_T55 L (i : Int)) q (L.drop q)) && R)
  | 0, q, e => by
    have hll := hv.len
    refine Ev.succ ?_
    simp only [impl_FormulasClear.l1]
    rw [List.drop_eq_nil_of_le (by omega), w64 (x := (i : Int) + 1) (by omega) (by omega)]
    exact Ev.neg (by omega) (Ev.eqr nxt (by simp [hitRow]))
  | d + 1, q, e => by
    have hll := hv.len
    have hq : q < L.length := by omega
    have ih := clear_row hv hn0 hn hi nxt d (q + 1) (by omega)
    have e4 : ((q + 1 : Nat) : Int) = (q : Int) + 1 := by omega
    rw [e4] at ih
    rw [drop_rd L hq]
    simp only [hitRow]
    have hf := hv.one _ (rd_mem (l := L) (k := (i : Int)) (by omega) (by omega))
    have hg := hv.one _ (rd_mem (l := L) (k := (q : Int)) (by omega) (by omega))
    have hne := pw_ne hv hi hq
    refine Ev.succ ?_
    simp only [impl_FormulasClear.l1]
    generalize rd_T55 L (i : Int) = f at hf hne ih ⊢
    generalize rd_T55 L (q : Int) = g at hg hne ⊢
    refine Ev.pos (by omega) (Ev.pos (by omega) (Ev.pos (by omega) ?_))
    have skip : hitOne L n i f q g = false → Ev (fun k => impl_FormulasClear.j3 k L n (i : Int) L (L.length : Int) (i : Int) L (L.length : Int) (q : Int) true f.f0 f.f1 g.f0 g.f1) (!(hitOne L n i f q g || hitRow L n i f (q + 1) (L.drop (q + 1))) && R) := by
      intro h
      rw [h, Bool.false_or]
      refine Ev.succ ?_
      simp only [impl_FormulasClear.j3]
      rw [w64 (x := (q : Int) + 1) (by omega) (by omega)]
      exact Ev.pos trivial ih
    by_cases hiq : i = q
    · exact Ev.pos (by omega) (skip (by unfold hitOne; rw [decide_eq_true hiq]; simp))
    refine Ev.neg (by omega) ?_
    by_cases hgn : (g.f0.length : Int) > n
    · exact Ev.pos hgn (skip (by unfold hitOne; rw [decide_eq_false (show ¬ (g.f0.length : Int) ≤ n by omega)]; simp))
    refine Ev.neg hgn (Ev.bind (impl_begins_ev _ _ (by omega)) ?_)
    cases hp : isPre f.f0 g.f0
    · exact skip (by unfold hitOne; rw [hp]; simp)
    have hlt := isPre_lt hp (hne hiq)
    refine Ev.succ ?_
    simp only [impl_FormulasClear.j3]
    refine Ev.neg (by simp) (Ev.pos (by omega) (Ev.pos (by omega) ?_))
    rw [Int.toNat_natCast, w64 (x := (q : Int) + 1) (by omega) (by omega)]
    refine Ev.bind (impl_meets_ev hv n hn 40 (g.f0.drop f.f0.length) (g.f0.length : Int) (by rw [List.length_drop]; omega) (by rw [List.length_drop]; omega) (by omega) (by omega) (by rw [List.length_drop]; omega)) ?_
    have hone : hitOne L n i f q g = meetsP L n 40 (g.f0.drop f.f0.length) (g.f0.length : Int) := by
      unfold hitOne
      rw [decide_eq_false hiq, decide_eq_true (show (g.f0.length : Int) ≤ n by omega), hp]; simp
    rw [hone]
    cases hr : meetsP L n 40 (g.f0.drop f.f0.length) (g.f0.length : Int)
    · rw [Bool.false_or]
      exact Ev.neg (by simp) ih
    · exact Ev.pos rfl (Ev.eqr (Ev.now _) (by simp))
theorem clear_all {L : List S55} (hv : FsV L) {n : Int} (hn0 : 0 ≤ n) (hn : n ≤ 5) :
    ∀ (d i : Nat), i + d = L.length → Ev (fun k => impl_FormulasClear.l0 k L n L (L.length : Int) (i : Int)) (!(hitAll L n i (L.drop i)))
  | 0, i, e => by
    refine Ev.succ ?_
    simp only [impl_FormulasClear.l0]
    rw [List.drop_eq_nil_of_le (by omega)]
    exact Ev.neg (by omega) (Ev.eqr (Ev.now _) (by simp [hitAll]))
  | d + 1, i, e => by
    have hi : i < L.length := by omega
    have ih := clear_all hv hn0 hn d (i + 1) (by omega)
    have e4 : ((i + 1 : Nat) : Int) = (i : Int) + 1 := by omega
    rw [e4] at ih
    rw [drop_rd L hi]
    simp only [hitAll]
    refine Ev.succ ?_
    simp only [impl_FormulasClear.l0]
    refine Ev.pos (by omega) (Ev.pos (by omega) (Ev.pos (by omega) ?_))
    have := clear_row hv hn0 hn hi ih L.length 0 (by omega)
    rw [List.drop_zero] at this
    refine Ev.eqr this ?_
    cases hitRow L n i (rd_T55 L (i : Int)) 0 L <;> simp
theorem impl_FormulasClear_ev (L : List S55) (n : Int) (hl : ∀ x ∈ L, x.f0.length ≤ 1000000000000) : Ev (fun k => impl_FormulasClear.f k L n) (clearI L n) := by
  unfold impl_FormulasClear.f clearI
  refine Ev.bind (impl_FormulasValid_ev L hl) ?_
  have no : Ev (fun k => impl_FormulasClear.j0 k L n true) false := by
    refine Ev.succ ?_
    simp only [impl_FormulasClear.j0]
    exact Ev.pos trivial (Ev.now _)
  cases hok : fsOk L
  · exact Ev.neg (by simp) (Ev.eqr no (by simp))
  refine Ev.pos rfl ?_
  by_cases h0 : n < 0
  · refine Ev.pos h0 (Ev.eqr no ?_)
    rw [decide_eq_false (by omega)]; simp
  refine Ev.neg h0 ?_
  by_cases h1 : n > 5
  · rw [decide_eq_true h1]
    refine Ev.eqr no ?_
    rw [decide_eq_false (by omega)]; simp
  rw [decide_eq_false h1]
  refine Ev.succ ?_
  simp only [impl_FormulasClear.j0]
  have := clear_all (n := n) (FsV.of hok) (by omega) (by omega) L.length 0 (by omega)
  rw [List.drop_zero] at this
  refine Ev.neg (by simp) (Ev.eqr this ?_)
  rw [decide_eq_true (by omega)]; simp

end Go.Proofs.Ytnemcppllfmioaa.Pure
