/- Lemmas on the printed functions for the law FnExactFormulasBest. -/
import Derived.Test.YtkmganbgnjphfaaQFnExactFormulasBestq0
import Derived.Test.YtkmganbgnjphfaaQFnExactFormulasBestq1
import Derived.Test.YtkmganbgnjphfaaQFnExactFormulasBestq2
import Derived.Test.YtkmganbgnjphfaaQFnExactFormulasBestq3
import Derived.Test.YtkmganbgnjphfaaQFnExactFormulasBestq4
import Derived.Test.YtkmganbgnjphfaaQFnExactFormulasBestq5
import Derived.Test.YtkmganbgnjphfaaQFnExactFormulasBestq6
import Derived.Deep.RegionHeld3
import Derived.BigRegion
import Derived.Deep.Slices
import Derived.Laws.CopyOwn
namespace Go.Proofs.Ytkmganbgnjphfaa.Pure
set_option linter.unusedVariables false
set_option linter.unusedSimpArgs false
open Go Go.RowKit Go.Proofs.Ytkmganbgnjphfaa.PFnExactFormulasBest Go.Proofs.YtkmganbgnjphfaaW.PrintWords Go.Proofs.YtkmganbgnjphfaaW.PrintLast Go.Proofs.YtkmganbgnjphfaaW.PrintMore

/-! spec_l6fLeast: as the print has it, but the cut list has a name of its own -/
mutual
def spec_l6fLeast.l0 : Nat → List (S37) → List Int → Bool → List Int → Int → Option (List Int)
  | 0, _, _, _, _, _ => none
  | k + 1, x0, x1, x2, x8, x9 => if x9 ≥ 0 then (if 0 ≤ x9 then (if x9 < (x8.length : Int) then (spec_l6fLeast.l1 k x0 x1 x2 (x8.set (x9 : Int).toNat (-1)) x9 0) else (none)) else (none)) else (some x8)
def spec_l6fLeast.l1 : Nat → List (S37) → List Int → Bool → List Int → Int → Int → Option (List Int)
  | 0, _, _, _, _, _, _ => none
  | k + 1, x0, x1, x2, x8, x9, x10 => if x10 < (x0.length : Int) then (if 0 ≤ x10 then ((spec_l6fAt.f k ((rd_T37 x0 x10).f0) ((rd_T37 x0 x10).f1) x1 x9).bind fun t150 => (if t150 = true then (if 0 ≤ (wrap64 (x9 + (((rd_T37 x0 x10).f0).length : Int))) then (if (wrap64 (x9 + (((rd_T37 x0 x10).f0).length : Int))) < (x8.length : Int) then (spec_l6fLeast.j2 k x0 x1 x2 x8 x9 x10 (decide ((rd x8 (wrap64 (x9 + (((rd_T37 x0 x10).f0).length : Int)))) < 0))) else (none)) else (none)) else (spec_l6fLeast.j2 k x0 x1 x2 x8 x9 x10 true))) else (none)) else (spec_l6fLeast.l0 k x0 x1 x2 x8 (wrap64 (x9 - 1)))
def spec_l6fLeast.j2 : Nat → List (S37) → List Int → Bool → List Int → Int → Int → Bool → Option (List Int)
  | 0, _, _, _, _, _, _, _ => none
  | k + 1, x0, x1, x2, x8, x9, x10, x53 => if x53 = true then (spec_l6fLeast.l1 k x0 x1 x2 x8 x9 (wrap64 (x10 + 1))) else (if 0 ≤ x10 then (if x10 < (x0.length : Int) then (if 0 ≤ (wrap64 (x9 + (((rd_T37 x0 x10).f0).length : Int))) then (if (wrap64 (x9 + (((rd_T37 x0 x10).f0).length : Int))) < (x8.length : Int) then (if x2 = true then (if 0 ≤ x9 then (if x9 < (x8.length : Int) then (if (rd x8 x9) < 0 then (spec_l6fLeast.l1 k x0 x1 x2 (x8.set (x9 : Int).toNat (wrap64 ((rd x8 (wrap64 (x9 + (((rd_T37 x0 x10).f0).length : Int)))) + 1))) x9 (wrap64 (x10 + 1))) else (if (wrap64 ((rd x8 (wrap64 (x9 + (((rd_T37 x0 x10).f0).length : Int)))) + 1)) < (rd x8 x9) then (spec_l6fLeast.l1 k x0 x1 x2 (x8.set (x9 : Int).toNat (wrap64 ((rd x8 (wrap64 (x9 + (((rd_T37 x0 x10).f0).length : Int)))) + 1))) x9 (wrap64 (x10 + 1))) else (spec_l6fLeast.l1 k x0 x1 x2 x8 x9 (wrap64 (x10 + 1))))) else (none)) else (none)) else (if 0 ≤ x9 then (if x9 < (x8.length : Int) then (if (rd x8 x9) < 0 then (spec_l6fLeast.l1 k x0 x1 x2 (x8.set (x9 : Int).toNat (wrap64 ((rd x8 (wrap64 (x9 + (((rd_T37 x0 x10).f0).length : Int)))) + ((rd_T37 x0 x10).f1)))) x9 (wrap64 (x10 + 1))) else (if (wrap64 ((rd x8 (wrap64 (x9 + (((rd_T37 x0 x10).f0).length : Int)))) + ((rd_T37 x0 x10).f1))) < (rd x8 x9) then (spec_l6fLeast.l1 k x0 x1 x2 (x8.set (x9 : Int).toNat (wrap64 ((rd x8 (wrap64 (x9 + (((rd_T37 x0 x10).f0).length : Int)))) + ((rd_T37 x0 x10).f1)))) x9 (wrap64 (x10 + 1))) else (spec_l6fLeast.l1 k x0 x1 x2 x8 x9 (wrap64 (x10 + 1))))) else (none)) else (none))) else (none)) else (none)) else (none)) else (none))
end
def spec_l6fLeast.f (k : Nat) (l0 : List (S37)) (l1 : List Int) (a2 : Bool) : Option (List Int) := if 0 ≤ (wrap64 ((l1.length : Int) + 1)) then (if (wrap64 ((l1.length : Int) + 1) : Int).toNat ≤ 35184372088832 then (spec_l6fLeast.l0 k l0 l1 a2 (List.replicate (wrap64 ((l1.length : Int) + 1) : Int).toNat 0) (wrap64 ((l1.length : Int) - 1))) else (none)) else (none)
theorem spec_l6fLeast.mono_l : ∀ k, (∀ y0 y1 y2 y3 y4, LeO (spec_l6fLeast.l0 k y0 y1 y2 y3 y4) (spec_l6fLeast.l0 (k + 1) y0 y1 y2 y3 y4)) ∧ (∀ y0 y1 y2 y3 y4 y5, LeO (spec_l6fLeast.l1 k y0 y1 y2 y3 y4 y5) (spec_l6fLeast.l1 (k + 1) y0 y1 y2 y3 y4 y5)) ∧ (∀ y0 y1 y2 y3 y4 y5 y6, LeO (spec_l6fLeast.j2 k y0 y1 y2 y3 y4 y5 y6) (spec_l6fLeast.j2 (k + 1) y0 y1 y2 y3 y4 y5 y6))
  | 0 => ⟨fun _ _ _ _ _ r h => by simp [spec_l6fLeast.l0] at h, fun _ _ _ _ _ _ r h => by simp [spec_l6fLeast.l1] at h, fun _ _ _ _ _ _ _ r h => by simp [spec_l6fLeast.j2] at h⟩
  | k + 1 => by
    obtain ⟨ih0, ih1, ih2⟩ := spec_l6fLeast.mono_l k
    refine ⟨?_, ?_, ?_⟩
    · intro y0 y1 y2 y3 y4
      unfold spec_l6fLeast.l0
      repeat' first
      | (with_reducible exact ih0 _ _ _ _ _)
      | (with_reducible exact ih1 _ _ _ _ _ _)
      | (with_reducible exact ih2 _ _ _ _ _ _ _)
      | (with_reducible exact spec_l6fAt.mono _ _ _ _ _)
      | (with_reducible exact LeO.refl _)
      | (with_reducible exact LeO.none _)
      | (with_reducible refine LeO.ite ?_ ?_)
      | (with_reducible refine LeO.bind ?_ (fun _ => ?_))
      | exact ih0 _ _ _ _ _
      | exact ih1 _ _ _ _ _ _
      | exact ih2 _ _ _ _ _ _ _
      | exact spec_l6fAt.mono _ _ _ _ _
      | exact LeO.none _
      | refine LeO.ite ?_ ?_
      | refine LeO.bind ?_ (fun _ => ?_)
    · intro y0 y1 y2 y3 y4 y5
      unfold spec_l6fLeast.l1
      repeat' first
      | (with_reducible exact ih0 _ _ _ _ _)
      | (with_reducible exact ih1 _ _ _ _ _ _)
      | (with_reducible exact ih2 _ _ _ _ _ _ _)
      | (with_reducible exact spec_l6fAt.mono _ _ _ _ _)
      | (with_reducible exact LeO.refl _)
      | (with_reducible exact LeO.none _)
      | (with_reducible refine LeO.ite ?_ ?_)
      | (with_reducible refine LeO.bind ?_ (fun _ => ?_))
      | exact ih0 _ _ _ _ _
      | exact ih1 _ _ _ _ _ _
      | exact ih2 _ _ _ _ _ _ _
      | exact spec_l6fAt.mono _ _ _ _ _
      | exact LeO.none _
      | refine LeO.ite ?_ ?_
      | refine LeO.bind ?_ (fun _ => ?_)
    · intro y0 y1 y2 y3 y4 y5 y6
      unfold spec_l6fLeast.j2
      repeat' first
      | (with_reducible exact ih0 _ _ _ _ _)
      | (with_reducible exact ih1 _ _ _ _ _ _)
      | (with_reducible exact ih2 _ _ _ _ _ _ _)
      | (with_reducible exact spec_l6fAt.mono _ _ _ _ _)
      | (with_reducible exact LeO.refl _)
      | (with_reducible exact LeO.none _)
      | (with_reducible refine LeO.ite ?_ ?_)
      | (with_reducible refine LeO.bind ?_ (fun _ => ?_))
      | exact ih0 _ _ _ _ _
      | exact ih1 _ _ _ _ _ _
      | exact ih2 _ _ _ _ _ _ _
      | exact spec_l6fAt.mono _ _ _ _ _
      | exact LeO.none _
      | refine LeO.ite ?_ ?_
      | refine LeO.bind ?_ (fun _ => ?_)
theorem spec_l6fLeast.mono : ∀ a0 a1 a2 k, LeO (spec_l6fLeast.f k a0 a1 a2) (spec_l6fLeast.f (k + 1) a0 a1 a2) := by
  intro a0 a1 a2 k
  obtain ⟨ih0, ih1, ih2⟩ := spec_l6fLeast.mono_l k
  unfold spec_l6fLeast.f
  repeat' first
      | (with_reducible exact ih0 _ _ _ _ _)
      | (with_reducible exact ih1 _ _ _ _ _ _)
      | (with_reducible exact ih2 _ _ _ _ _ _ _)
      | (with_reducible exact spec_l6fAt.mono _ _ _ _ _)
      | (with_reducible exact LeO.refl _)
      | (with_reducible exact LeO.none _)
      | (with_reducible refine LeO.ite ?_ ?_)
      | (with_reducible refine LeO.bind ?_ (fun _ => ?_))
      | exact ih0 _ _ _ _ _
      | exact ih1 _ _ _ _ _ _
      | exact ih2 _ _ _ _ _ _ _
      | exact spec_l6fAt.mono _ _ _ _ _
      | exact LeO.none _
      | refine LeO.ite ?_ ?_
      | refine LeO.bind ?_ (fun _ => ?_)
set_option maxHeartbeats 8000000 in
set_option maxRecDepth 100000 in
theorem spec_l6fLeast.calls (k : Nat) (A0 : Option Addr) (c0 : Nat) (l0 : List (S37)) (A1 : Option Addr) (c1 : Nat) (l1 : List Int) (a2 : Bool) (r : List Int) (w : World) (hr0 : Kd.C k37 w A0 l0.length l0) (hc0 : l0.length ≤ c0) (hr1 : Kd.C (Kd.int .i64) w A1 l1.length l1) (hc1 : l1.length ≤ c1) (h : spec_l6fLeast.f k l0 l1 a2 = some r) :
    Calls Try.prog 59 #[.slice A0 l0.length c0, .slice A1 l1.length c1, .bool a2] w fun e w' => ∃ v0_ : Value, e = .returned (v0_) ∧ Kd.R (Kd.int .i64) 3 w' w.heap.size (fun _ => True) v0_ r ∧ Below w.heap.size w w' := by
  have hu37 := Try.underlying37
  have HR0 := Aside0.mk hr0
  have HC0 := Aside0.mk hc0
  clear hr0 hc0
  have HR1 := Aside0.mk hr1
  have HC1 := Aside0.mk hc1
  clear hr1 hc1
  have HB := Aside0.mk (Below.refl w.heap.size w)
  have H : (if 0 ≤ (wrap64 ((l1.length : Int) + 1)) then (if (wrap64 ((l1.length : Int) + 1) : Int).toNat ≤ 35184372088832 then (spec_l6fLeast.l0 k l0 l1 a2 (List.replicate (wrap64 ((l1.length : Int) + 1) : Int).toNat 0) (wrap64 ((l1.length : Int) - 1))) else (none)) else (none)) = some r := h
  clear h
  obtain ⟨ji4, hji4⟩ : ∃ j_ : Int, (wrap64 ((l1.length : Int) + 1)) = j_ := ⟨_, rfl⟩
  replace H : (if 0 ≤ (ji4) then (if (ji4 : Int).toNat ≤ 35184372088832 then (spec_l6fLeast.l0 k l0 l1 a2 (List.replicate (ji4 : Int).toNat 0) (wrap64 ((l1.length : Int) - 1))) else (none)) else (none)) = some r := by first | (rw [hji4] at H; exact H) | (simp only [hji4] at H ⊢; exact H)
  have hji4w : (IntKind.i64.wrap ((l1.length : Int) + 1)) = ji4 := (i64_w _).trans hji4
  by_cases c5 : 0 ≤ (ji4)
  · rw [if_pos c5] at H
    have c5b0 := eq_true c5
    have c5b1 : decide (0 ≤ (ji4)) = true := decide_eq_true c5
    clear c5
    by_cases c6 : (ji4 : Int).toNat ≤ 35184372088832
    · rw [if_pos c6] at H
      have c6b0 := eq_true c6
      have c6b1 : decide ((ji4 : Int).toNat ≤ 35184372088832) = true := decide_eq_true c6
      clear c6
      obtain ⟨y145, hy145⟩ : ∃ y_ : List Int, y_ = (List.replicate (ji4 : Int).toNat 0) := ⟨_, rfl⟩
      replace H : (spec_l6fLeast.l0 k l0 l1 a2 y145 (wrap64 ((l1.length : Int) - 1))) = some r := by first | (rw [hy145]; with_reducible exact H) | (have H2_ := (Option.bind_some _ _).symm.trans H; rw [hy145]; with_reducible exact H2_) | (have H2_ := (Option.bind_some _ _).symm.trans H; with_reducible exact H2_) | with_reducible exact H | (rw [hy145]; exact H) | exact H
      have Ny145 := Aside0.mk hy145
      clear hy145
      have H' := Aside0.mk H
      clear H
      go_enter Try.func59, Try.ntmps59
      go_wp2_with (first | ((with_reducible refine gate_dst (N := 16) rfl ?_); (try (refine gate_guard (by rfl) ?_; dsimp only)); refine Kd.R_make (Kd.int .i64) _ 3 rfl (N := 16) rfl 29 _ _ rfl ji4 rfl rfl Try.underlying29 (.int .i64 0) 8 info3 rfl (by decide) (by omega) 0 (ok := fun _ => True) (okp := fun _ => True) rfl (fun _ hk => hk) trivial (of_decide_eq_true (by first | (with_reducible assumption) | assumption)) (Nat.le_trans (Nat.mul_le_mul_right _ (of_decide_eq_true (by first | (with_reducible assumption) | assumption) : ji4.toNat ≤ 35184372088832)) (by omega)) (Below.refl _ _) (Nat.le_refl _) ?_; intro v146 w7 ho8 hb hg_ hnew_; clear hg_ hnew_; (first | rw [← Ny145.out] at ho8 | (simp only [Int.reduceToNat] at ho8; rw [← Ny145.out] at ho8)); have n0_ := Aside0.mk (Kd.R_lower ho8 (below_size (by repeat (first | (with_reducible first | exact HB.out | apply below_alloc | apply pw_below_drewN | apply below_drew1) | exact HB.out)))); have n1_ := Aside0.mk (below_step (by repeat (first | (with_reducible first | exact HB.out | apply below_alloc | apply pw_below_drewN | apply below_drew1) | exact HB.out)) hb); clear HB; have HO147 := n0_; have HB := n1_; clear n0_ n1_; clear hb ho8))
      repeat (go_quiet (first | ((with_reducible refine gate_dst (N := 16) rfl ?_); (try (refine gate_guard (by rfl) ?_; dsimp only)); refine Kd.R_make (Kd.int .i64) _ 3 rfl (N := 16) rfl 29 _ _ rfl ji4 rfl rfl Try.underlying29 (.int .i64 0) 8 info3 rfl (by decide) (by omega) 0 (ok := fun _ => True) (okp := fun _ => True) rfl (fun _ hk => hk) trivial (of_decide_eq_true (by first | (with_reducible assumption) | assumption)) (Nat.le_trans (Nat.mul_le_mul_right _ (of_decide_eq_true (by first | (with_reducible assumption) | assumption) : ji4.toNat ≤ 35184372088832)) (by omega)) (Below.refl _ _) (Nat.le_refl _) ?_; intro v146 w7 ho8 hb hg_ hnew_; clear hg_ hnew_; (first | rw [← Ny145.out] at ho8 | (simp only [Int.reduceToNat] at ho8; rw [← Ny145.out] at ho8)); have n0_ := Aside0.mk (Kd.R_lower ho8 (below_size (by repeat (first | (with_reducible first | exact HB.out | apply below_alloc | apply pw_below_drewN | apply below_drew1) | exact HB.out)))); have n1_ := Aside0.mk (below_step (by repeat (first | (with_reducible first | exact HB.out | apply below_alloc | apply pw_below_drewN | apply below_drew1) | exact HB.out)) hb); clear HB; have HO147 := n0_; have HB := n1_; clear n0_ n1_; clear hb ho8)); try go_wp2_with (first | ((with_reducible refine gate_dst (N := 16) rfl ?_); (try (refine gate_guard (by rfl) ?_; dsimp only)); refine Kd.R_make (Kd.int .i64) _ 3 rfl (N := 16) rfl 29 _ _ rfl ji4 rfl rfl Try.underlying29 (.int .i64 0) 8 info3 rfl (by decide) (by omega) 0 (ok := fun _ => True) (okp := fun _ => True) rfl (fun _ hk => hk) trivial (of_decide_eq_true (by first | (with_reducible assumption) | assumption)) (Nat.le_trans (Nat.mul_le_mul_right _ (of_decide_eq_true (by first | (with_reducible assumption) | assumption) : ji4.toNat ≤ 35184372088832)) (by omega)) (Below.refl _ _) (Nat.le_refl _) ?_; intro v146 w7 ho8 hb hg_ hnew_; clear hg_ hnew_; (first | rw [← Ny145.out] at ho8 | (simp only [Int.reduceToNat] at ho8; rw [← Ny145.out] at ho8)); have n0_ := Aside0.mk (Kd.R_lower ho8 (below_size (by repeat (first | (with_reducible first | exact HB.out | apply below_alloc | apply pw_below_drewN | apply below_drew1) | exact HB.out)))); have n1_ := Aside0.mk (below_step (by repeat (first | (with_reducible first | exact HB.out | apply below_alloc | apply pw_below_drewN | apply below_drew1) | exact HB.out)) hb); clear HB; have HO147 := n0_; have HB := n1_; clear n0_ n1_; clear hb ho8)))
      go_loopg [9] k (fun kq v9 w' => ∃ (x8_1 : List Int) (x9_1 : Int), v9 = .int .i64 x9_1 ∧ Aside0 (spec_l6fLeast.l0 kq l0 l1 a2 x8_1 x9_1 = some r) ∧ Aside0 (kq ≤ k) ∧ Aside0 (Kd.R (Kd.int .i64) 3 w' w.heap.size (fun _ => True) v146 x8_1) ∧ Aside0 (Below w.heap.size w w'))
      case atStart => exact ⟨(y145), (wrap64 ((l1.length : Int) - 1)), (by first | rfl | (simp; done) | (simp [*]; done)), H', ⟨Nat.le_refl _⟩, ⟨by (with_reducible repeat (first | apply Kd.R_alloc | apply Kd.R_drewN | apply Kd.R_drew)); exact HO147.out⟩, ⟨by repeat (first | (with_reducible first | exact HB.out | apply below_alloc | apply pw_below_drewN | apply below_drew1) | exact HB.out)⟩⟩
      case round =>
        clear H'
        try clear c1
        try clear p2
        try clear c5
        try clear c5b0
        try clear c5b1
        try clear c6
        try clear c6b0
        try clear c6b1
        try clear p6
        obtain ⟨x8_1, x9_1, rfl, HA, HK1, HO_8, HB⟩ := hrel
        cases gk with
        | zero => exact absurd HA.out (by simp [spec_l6fLeast.l0])
        | succ k1 =>
          have H := HA.out
          clear HA
          simp only [spec_l6fLeast.l0] at H
          by_cases c9 : x9_1 ≥ 0
          · rw [if_pos c9] at H
            have c9b0 : decide (0 ≤ x9_1) = true := decide_eq_true c9
            clear c9
            by_cases c10 : 0 ≤ x9_1
            · rw [if_pos c10] at H
              have c10b0 : decide (0 ≤ x9_1) = true := decide_eq_true c10
              clear c10
              by_cases c11 : x9_1 < (x8_1.length : Int)
              · rw [if_pos c11] at H
                have c11b0 : decide (x9_1 < (x8_1.length : Int)) = true := decide_eq_true c11
                clear c11
                obtain ⟨y148, hy148⟩ : ∃ y_ : List Int, y_ = (x8_1.set (x9_1 : Int).toNat (-1)) := ⟨_, rfl⟩
                replace H : (spec_l6fLeast.l1 k1 l0 l1 a2 y148 x9_1 0) = some r := by first | (rw [hy148]; with_reducible exact H) | (have H2_ := (Option.bind_some _ _).symm.trans H; rw [hy148]; with_reducible exact H2_) | (have H2_ := (Option.bind_some _ _).symm.trans H; with_reducible exact H2_) | with_reducible exact H | (rw [hy148]; exact H) | exact H
                have Ny148 := Aside0.mk hy148
                clear hy148
                have H' := Aside0.mk H
                clear H
                have p12 : 0 ≤ (x9_1 : Int) := of_decide_eq_true (by first | (with_reducible assumption) | assumption)
                have q12 : (x9_1 : Int) < ((x8_1.length : Int) : Int) := of_decide_eq_true (by first | (with_reducible assumption) | assumption)
                obtain ⟨go12, co12, eo12, gb12, gl12, cl12, HG12⟩ := Kd.R_form HO_8.out (by omega)
                (first | cases eo12 | (injection eo12 with ea_ en_ ec_; (first | subst ea_ | (injection ea_ with ea_; subst ea_)); subst ec_; clear en_))
                have GB12 := Aside0.mk gb12
                have GG12 := Aside0.mk HG12
                clear gb12 gl12 HG12
                obtain ⟨hx12_0, hf12_0⟩ := Kd.R_celln 0 HO_8.out (x9_1 : Int) p12 q12
                replace p12 := eq_true p12
                replace q12 := eq_true q12
                have HP13 := Kd.R_putg HO_8.out (x9_1 : Int) (-1)
                go_wp2_with (first | ((with_reducible refine gate_store (t := 3) (p := 25) rfl ?_); (try (rw [drewN_self wr]; generalize hq_ : World.drewN wr _ = wr; have n0_ := Aside0.mk (Kd.R_at hq_ HO_8.out); have n1_ := Aside0.mk (below_at hq_ HB.out); clear hq_ HO_8 HB; have HO_8 := n0_; have HB := n1_; clear n0_ n1_; (try (have HP13 := Kd.R_putg HO_8.out (x9_1 : Int) (-1))))); refine store_event (t := 3) (p := 25) (v := ?vo_w14) (w1 := (wr.setCell ⟨go12, (x9_1 : Int).toNat, none⟩ (.int .i64 (-1)))) ?hg ?ho ?hn ?hr ?_; (case ho => rfl); (case hg => rfl); (case hn => rfl); (case hr => first | (go_simp; done) | (go_simp; rfl)); intro w14 hw; have hg : wr.grownBy w14 (some go12) := (by rw [hw]; exact HP13.2); have hp_ : Kd.R (Kd.int .i64) 3 w14 w.heap.size (fun _ => True) (.slice (some ⟨go12, 0, none⟩) x8_1.length co12) y148 := (by rw [hw, Ny148.out]; exact HP13.1); clear HP13; have n0_ := Aside0.mk (hp_); have n1_ := Aside0.mk ((by rw [hw]; exact below_set (HB.out) GB12.out : Below w.heap.size w w14)); clear HO_8; clear HB; have HO_8 := n0_; have HB := n1_; clear n0_ n1_; clear hg hw hp_))
                repeat (go_quiet (first | ((with_reducible refine gate_store (t := 3) (p := 25) rfl ?_); (try (rw [drewN_self wr]; generalize hq_ : World.drewN wr _ = wr; have n0_ := Aside0.mk (Kd.R_at hq_ HO_8.out); have n1_ := Aside0.mk (below_at hq_ HB.out); clear hq_ HO_8 HB; have HO_8 := n0_; have HB := n1_; clear n0_ n1_; (try (have HP13 := Kd.R_putg HO_8.out (x9_1 : Int) (-1))))); refine store_event (t := 3) (p := 25) (v := ?vo_w14) (w1 := (wr.setCell ⟨go12, (x9_1 : Int).toNat, none⟩ (.int .i64 (-1)))) ?hg ?ho ?hn ?hr ?_; (case ho => rfl); (case hg => rfl); (case hn => rfl); (case hr => first | (go_simp; done) | (go_simp; rfl)); intro w14 hw; have hg : wr.grownBy w14 (some go12) := (by rw [hw]; exact HP13.2); have hp_ : Kd.R (Kd.int .i64) 3 w14 w.heap.size (fun _ => True) (.slice (some ⟨go12, 0, none⟩) x8_1.length co12) y148 := (by rw [hw, Ny148.out]; exact HP13.1); clear HP13; have n0_ := Aside0.mk (hp_); have n1_ := Aside0.mk ((by rw [hw]; exact below_set (HB.out) GB12.out : Below w.heap.size w w14)); clear HO_8; clear HB; have HO_8 := n0_; have HB := n1_; clear n0_ n1_; clear hg hw hp_)); try go_wp2_with (first | ((with_reducible refine gate_store (t := 3) (p := 25) rfl ?_); (try (rw [drewN_self wr]; generalize hq_ : World.drewN wr _ = wr; have n0_ := Aside0.mk (Kd.R_at hq_ HO_8.out); have n1_ := Aside0.mk (below_at hq_ HB.out); clear hq_ HO_8 HB; have HO_8 := n0_; have HB := n1_; clear n0_ n1_; (try (have HP13 := Kd.R_putg HO_8.out (x9_1 : Int) (-1))))); refine store_event (t := 3) (p := 25) (v := ?vo_w14) (w1 := (wr.setCell ⟨go12, (x9_1 : Int).toNat, none⟩ (.int .i64 (-1)))) ?hg ?ho ?hn ?hr ?_; (case ho => rfl); (case hg => rfl); (case hn => rfl); (case hr => first | (go_simp; done) | (go_simp; rfl)); intro w14 hw; have hg : wr.grownBy w14 (some go12) := (by rw [hw]; exact HP13.2); have hp_ : Kd.R (Kd.int .i64) 3 w14 w.heap.size (fun _ => True) (.slice (some ⟨go12, 0, none⟩) x8_1.length co12) y148 := (by rw [hw, Ny148.out]; exact HP13.1); clear HP13; have n0_ := Aside0.mk (hp_); have n1_ := Aside0.mk ((by rw [hw]; exact below_set (HB.out) GB12.out : Below w.heap.size w w14)); clear HO_8; clear HB; have HO_8 := n0_; have HB := n1_; clear n0_ n1_; clear hg hw hp_)))
                go_loopg [10] k1 (fun kq v10 w' => ∃ (x8_2 : List Int) (x10_2 : Int), v10 = .int .i64 x10_2 ∧ Aside0 (spec_l6fLeast.l1 kq l0 l1 a2 x8_2 x9_1 x10_2 = some r) ∧ Aside0 (kq ≤ k1) ∧ Aside0 (Kd.R (Kd.int .i64) 3 w' w.heap.size (fun _ => True) (.slice (some ⟨go12, 0, none⟩) x8_1.length co12) x8_2) ∧ Aside0 (Below w.heap.size w w'))
                case atStart => exact ⟨(y148), (0), (by first | rfl | (simp; done) | (simp [*]; done)), H', ⟨Nat.le_refl _⟩, ⟨by (with_reducible repeat (first | apply Kd.R_alloc | apply Kd.R_drewN | apply Kd.R_drew)); exact HO_8.out⟩, ⟨by repeat (first | (with_reducible first | exact HB.out | apply below_alloc | apply pw_below_drewN | apply below_drew1) | exact HB.out)⟩⟩
                case round =>
                  clear H'
                  try clear c1
                  try clear p1
                  try clear q1
                  try clear hx1
                  try clear p2
                  try clear c5
                  try clear c5b0
                  try clear c5b1
                  try clear c6
                  try clear c6b0
                  try clear c6b1
                  try clear p6
                  try clear c9
                  try clear c9b0
                  try clear c10
                  try clear c10b0
                  try clear c11
                  try clear c11b0
                  try clear p12
                  try clear q12
                  try clear hx12
                  try clear hf12
                  try clear hx12_0
                  try clear p12
                  try clear p2
                  try clear p6
                  try clear q12
                  obtain ⟨x8_2, x10_2, rfl, HA, HK2, HO_8, HB⟩ := hrel
                  have hl8_2 := (Kd.R_reads' HO_8.out).1
                  rw [hl8_2] at HO_8
                  (try simp only [hl8_2])
                  cases gk with
                  | zero => exact absurd HA.out (by simp [spec_l6fLeast.l1])
                  | succ k2 =>
                    have H := HA.out
                    clear HA
                    simp only [spec_l6fLeast.l1] at H
                    by_cases c15 : x10_2 < (l0.length : Int)
                    · rw [if_pos c15] at H
                      have c15b0 : decide (x10_2 < (l0.length : Int)) = true := decide_eq_true c15
                      clear c15
                      have HC16 := Aside0.mk H
                      clear H
                      go_upto_region 10 with (fail)
                      repeat (go_quiet (fail); go_upto_region 10 with (fail))
                      go_cut [53] (fun v53 wc => ∃ (kq : Nat) (x53_15 : Bool), v53 = .bool x53_15 ∧ Aside0 (spec_l6fLeast.j2 kq l0 l1 a2 x8_2 x9_1 x10_2 x53_15 = some r) ∧ Aside0 (kq ≤ k2) ∧ Aside0 (Kd.R (Kd.int .i64) 3 wc w.heap.size (fun _ => True) (.slice (some ⟨go12, 0, none⟩) x8_2.length co12) x8_2) ∧ Aside0 (Below w.heap.size w wc))
                      case first =>
                        have H := HC16.out
                        clear HC16
                        by_cases c17 : 0 ≤ x10_2
                        · rw [if_pos c17] at H
                          have c17b0 : decide (0 ≤ x10_2) = true := decide_eq_true c17
                          clear c17
                          (first | rw [c17b0] | (simp only [i64_w, i32_w]; rw [c17b0]) | skip)
                          replace H := Option.bind_eq_some_iff.mp H
                          obtain ⟨t150, A180, H⟩ := H
                          replace H : (if t150 = true then (if 0 ≤ (wrap64 (x9_1 + (((rd_T37 l0 x10_2).f0).length : Int))) then (if (wrap64 (x9_1 + (((rd_T37 l0 x10_2).f0).length : Int))) < (x8_2.length : Int) then (spec_l6fLeast.j2 k2 l0 l1 a2 x8_2 x9_1 x10_2 (decide ((rd x8_2 (wrap64 (x9_1 + (((rd_T37 l0 x10_2).f0).length : Int)))) < 0))) else (none)) else (none)) else (spec_l6fLeast.j2 k2 l0 l1 a2 x8_2 x9_1 x10_2 true)) = some r := H
                          have A18 := Aside0.mk A180
                          clear A180
                          by_cases c19 : t150 = true
                          · subst c19
                            have H1 : (if 0 ≤ (wrap64 (x9_1 + (((rd_T37 l0 x10_2).f0).length : Int))) then (if (wrap64 (x9_1 + (((rd_T37 l0 x10_2).f0).length : Int))) < (x8_2.length : Int) then (spec_l6fLeast.j2 k2 l0 l1 a2 x8_2 x9_1 x10_2 (decide ((rd x8_2 (wrap64 (x9_1 + (((rd_T37 l0 x10_2).f0).length : Int)))) < 0))) else (none)) else (none)) = some r := by rw [if_pos rfl] at H; exact H
                            clear H
                            have H := H1
                            clear H1
                            obtain ⟨ji20, hji20⟩ : ∃ j_ : Int, (wrap64 (x9_1 + (((rd_T37 l0 x10_2).f0).length : Int))) = j_ := ⟨_, rfl⟩
                            replace H : (if 0 ≤ (ji20) then (if (ji20) < (x8_2.length : Int) then (spec_l6fLeast.j2 k2 l0 l1 a2 x8_2 x9_1 x10_2 (decide ((rd x8_2 (ji20)) < 0))) else (none)) else (none)) = some r := by first | (rw [hji20] at H; exact H) | (simp only [hji20] at H ⊢; exact H)
                            (try rw [hji20] at A18)
                            have hji20w : (IntKind.i64.wrap (x9_1 + (((rd_T37 l0 x10_2).f0).length : Int))) = ji20 := (i64_w _).trans hji20
                            by_cases c21 : 0 ≤ (ji20)
                            · rw [if_pos c21] at H
                              have c21b0 : decide (0 ≤ (ji20)) = true := decide_eq_true c21
                              clear c21
                              by_cases c22 : (ji20) < (x8_2.length : Int)
                              · rw [if_pos c22] at H
                                have c22b0 : decide ((ji20) < (x8_2.length : Int)) = true := decide_eq_true c22
                                clear c22
                                have H' := Aside0.mk H
                                clear H
                                have p149 : 0 ≤ (x10_2 : Int) := of_decide_eq_true (by first | (with_reducible assumption) | assumption)
                                have q149 : x10_2 < (l0.length : Int) := of_decide_eq_true (by first | (with_reducible assumption) | assumption)
                                obtain ⟨ad149, A149_0, c149_0, e149, hx149_0, hx149_1, hl149_0, hi149_0⟩ := at_T37 HR0.out x10_2 p149 q149
                                cases e149
                                replace hx149_0 := (HB.out.cell (World.block_lt_of_cell? w _ hx149_0)).trans hx149_0
                                replace hx149_1 := (HB.out.cell (World.block_lt_of_cell? w _ hx149_1)).trans hx149_1
                                have HR149_0 := Aside0.mk hi149_0
                                have HC149_0 := Aside0.mk hl149_0
                                clear hi149_0 hl149_0
                                replace p149 := eq_true p149
                                replace q149 := eq_true q149
                                go_wp2_with (first | (go_at_call 62; (with_reducible refine (spec_l6fAt.calls k2 _ _ ((rd_T37 l0 x10_2).f0) ((rd_T37 l0 x10_2).f1) _ _ l1 x9_1 true _ ?side1 ?side2 ?side3 ?side4 A18.out).mono ?_); (case side1 => repeat (first | exact (Kd.C_below HR149_0.out HB.out) | (with_reducible refine Kd.C_alloc ?_ _) | (with_reducible refine Kd.C_drewN ?_ _) | (with_reducible refine Kd.C_drew ?_))); (case side2 => exact HC149_0.out); (case side3 => repeat (first | exact (Kd.C_below HR1.out HB.out) | (with_reducible refine Kd.C_alloc ?_ _) | (with_reducible refine Kd.C_drewN ?_ _) | (with_reducible refine Kd.C_drew ?_))); (case side4 => exact HC1.out); rintro e w23 ⟨rfl, hb⟩; have n0_ := Aside0.mk (Kd.R_below (by (with_reducible repeat (first | apply Kd.R_alloc | apply Kd.R_drewN | apply Kd.R_drew)); exact HO_8.out) hb); have n1_ := Aside0.mk (below_step (by repeat (first | (with_reducible first | exact HB.out | apply below_alloc | apply pw_below_drewN | apply below_drew1) | exact HB.out)) hb); clear HO_8; clear HB; have HO_8 := n0_; have HB := n1_; clear n0_ n1_; (try clear hb); (try clear hb2); (try clear hk); (try clear hi); have p151 : 0 ≤ (x10_2 : Int) := of_decide_eq_true (by first | (with_reducible assumption) | assumption); have q151 : x10_2 < (l0.length : Int) := of_decide_eq_true (by first | (with_reducible assumption) | assumption); obtain ⟨ad151, A151_0, c151_0, e151, hx151_0, hx151_1, hl151_0, hi151_0⟩ := at_T37 HR0.out x10_2 p151 q151; obtain rfl : ad149 = ad151 := (by injection e151); replace hx151_0 := (HB.out.cell (World.block_lt_of_cell? w _ hx151_0)).trans hx151_0; replace hx151_1 := (HB.out.cell (World.block_lt_of_cell? w _ hx151_1)).trans hx151_1; have HR151_0 := Aside0.mk hi151_0; have HC151_0 := Aside0.mk hl151_0; clear hi151_0 hl151_0; replace p151 := eq_true p151; replace q151 := eq_true q151; have p152 : 0 ≤ ((ji20) : Int) := of_decide_eq_true (by first | (with_reducible assumption) | assumption); have q152 : (ji20) < (x8_2.length : Int) := of_decide_eq_true (by first | (with_reducible assumption) | assumption); obtain ⟨ad152, e152, hx152_0⟩ := Kd.at_int (Kd.R_reads' HO_8.out).2.2 (ji20) p152 q152; obtain rfl : (⟨go12, 0, none⟩ : Addr) = ad152 := (by injection e152); (first | simp only [add_plain] at hx152_0 | simp only [add_at] at hx152_0 | simp only [Addr.add, Nat.zero_add] at hx152_0 | skip); replace p152 := eq_true p152; replace q152 := eq_true q152))
                                repeat (go_quiet (first | (go_at_call 62; (with_reducible refine (spec_l6fAt.calls k2 _ _ ((rd_T37 l0 x10_2).f0) ((rd_T37 l0 x10_2).f1) _ _ l1 x9_1 true _ ?side1 ?side2 ?side3 ?side4 A18.out).mono ?_); (case side1 => repeat (first | exact (Kd.C_below HR149_0.out HB.out) | (with_reducible refine Kd.C_alloc ?_ _) | (with_reducible refine Kd.C_drewN ?_ _) | (with_reducible refine Kd.C_drew ?_))); (case side2 => exact HC149_0.out); (case side3 => repeat (first | exact (Kd.C_below HR1.out HB.out) | (with_reducible refine Kd.C_alloc ?_ _) | (with_reducible refine Kd.C_drewN ?_ _) | (with_reducible refine Kd.C_drew ?_))); (case side4 => exact HC1.out); rintro e w23 ⟨rfl, hb⟩; have n0_ := Aside0.mk (Kd.R_below (by (with_reducible repeat (first | apply Kd.R_alloc | apply Kd.R_drewN | apply Kd.R_drew)); exact HO_8.out) hb); have n1_ := Aside0.mk (below_step (by repeat (first | (with_reducible first | exact HB.out | apply below_alloc | apply pw_below_drewN | apply below_drew1) | exact HB.out)) hb); clear HO_8; clear HB; have HO_8 := n0_; have HB := n1_; clear n0_ n1_; (try clear hb); (try clear hb2); (try clear hk); (try clear hi); have p151 : 0 ≤ (x10_2 : Int) := of_decide_eq_true (by first | (with_reducible assumption) | assumption); have q151 : x10_2 < (l0.length : Int) := of_decide_eq_true (by first | (with_reducible assumption) | assumption); obtain ⟨ad151, A151_0, c151_0, e151, hx151_0, hx151_1, hl151_0, hi151_0⟩ := at_T37 HR0.out x10_2 p151 q151; obtain rfl : ad149 = ad151 := (by injection e151); replace hx151_0 := (HB.out.cell (World.block_lt_of_cell? w _ hx151_0)).trans hx151_0; replace hx151_1 := (HB.out.cell (World.block_lt_of_cell? w _ hx151_1)).trans hx151_1; have HR151_0 := Aside0.mk hi151_0; have HC151_0 := Aside0.mk hl151_0; clear hi151_0 hl151_0; replace p151 := eq_true p151; replace q151 := eq_true q151; have p152 : 0 ≤ ((ji20) : Int) := of_decide_eq_true (by first | (with_reducible assumption) | assumption); have q152 : (ji20) < (x8_2.length : Int) := of_decide_eq_true (by first | (with_reducible assumption) | assumption); obtain ⟨ad152, e152, hx152_0⟩ := Kd.at_int (Kd.R_reads' HO_8.out).2.2 (ji20) p152 q152; obtain rfl : (⟨go12, 0, none⟩ : Addr) = ad152 := (by injection e152); (first | simp only [add_plain] at hx152_0 | simp only [add_at] at hx152_0 | simp only [Addr.add, Nat.zero_add] at hx152_0 | skip); replace p152 := eq_true p152; replace q152 := eq_true q152)); try go_wp2_with (first | (go_at_call 62; (with_reducible refine (spec_l6fAt.calls k2 _ _ ((rd_T37 l0 x10_2).f0) ((rd_T37 l0 x10_2).f1) _ _ l1 x9_1 true _ ?side1 ?side2 ?side3 ?side4 A18.out).mono ?_); (case side1 => repeat (first | exact (Kd.C_below HR149_0.out HB.out) | (with_reducible refine Kd.C_alloc ?_ _) | (with_reducible refine Kd.C_drewN ?_ _) | (with_reducible refine Kd.C_drew ?_))); (case side2 => exact HC149_0.out); (case side3 => repeat (first | exact (Kd.C_below HR1.out HB.out) | (with_reducible refine Kd.C_alloc ?_ _) | (with_reducible refine Kd.C_drewN ?_ _) | (with_reducible refine Kd.C_drew ?_))); (case side4 => exact HC1.out); rintro e w23 ⟨rfl, hb⟩; have n0_ := Aside0.mk (Kd.R_below (by (with_reducible repeat (first | apply Kd.R_alloc | apply Kd.R_drewN | apply Kd.R_drew)); exact HO_8.out) hb); have n1_ := Aside0.mk (below_step (by repeat (first | (with_reducible first | exact HB.out | apply below_alloc | apply pw_below_drewN | apply below_drew1) | exact HB.out)) hb); clear HO_8; clear HB; have HO_8 := n0_; have HB := n1_; clear n0_ n1_; (try clear hb); (try clear hb2); (try clear hk); (try clear hi); have p151 : 0 ≤ (x10_2 : Int) := of_decide_eq_true (by first | (with_reducible assumption) | assumption); have q151 : x10_2 < (l0.length : Int) := of_decide_eq_true (by first | (with_reducible assumption) | assumption); obtain ⟨ad151, A151_0, c151_0, e151, hx151_0, hx151_1, hl151_0, hi151_0⟩ := at_T37 HR0.out x10_2 p151 q151; obtain rfl : ad149 = ad151 := (by injection e151); replace hx151_0 := (HB.out.cell (World.block_lt_of_cell? w _ hx151_0)).trans hx151_0; replace hx151_1 := (HB.out.cell (World.block_lt_of_cell? w _ hx151_1)).trans hx151_1; have HR151_0 := Aside0.mk hi151_0; have HC151_0 := Aside0.mk hl151_0; clear hi151_0 hl151_0; replace p151 := eq_true p151; replace q151 := eq_true q151; have p152 : 0 ≤ ((ji20) : Int) := of_decide_eq_true (by first | (with_reducible assumption) | assumption); have q152 : (ji20) < (x8_2.length : Int) := of_decide_eq_true (by first | (with_reducible assumption) | assumption); obtain ⟨ad152, e152, hx152_0⟩ := Kd.at_int (Kd.R_reads' HO_8.out).2.2 (ji20) p152 q152; obtain rfl : (⟨go12, 0, none⟩ : Addr) = ad152 := (by injection e152); (first | simp only [add_plain] at hx152_0 | simp only [add_at] at hx152_0 | simp only [Addr.add, Nat.zero_add] at hx152_0 | skip); replace p152 := eq_true p152; replace q152 := eq_true q152)))
                                go_meet
                                case rel => exact ⟨_, (decide ((rd x8_2 (ji20)) < 0)), (by first | rfl | (simp; done) | (simp only [← hji20] <;> (first | rfl | simp)) | (simp [*]; done)), H', ⟨by have := HK1.out; have := HK2.out; first | omega | exact Nat.le_refl _⟩, ⟨by (try simp only [hl8_2]); (with_reducible repeat (first | apply Kd.R_alloc | apply Kd.R_drewN | apply Kd.R_drew)); exact HO_8.out⟩, ⟨by repeat (first | (with_reducible first | exact HB.out | apply below_alloc | apply pw_below_drewN | apply below_drew1) | exact HB.out)⟩⟩
                              · rw [if_neg c22] at H
                                exact absurd H (by simp)
                            · rw [if_neg c21] at H
                              exact absurd H (by simp)
                          · replace c19 := Bool.eq_false_iff.mpr c19
                            subst c19
                            have H1 : (spec_l6fLeast.j2 k2 l0 l1 a2 x8_2 x9_1 x10_2 true) = some r := by rw [if_neg (show ¬ (false = true) by decide)] at H; exact H
                            clear H
                            have H := H1
                            clear H1
                            have H' := Aside0.mk H
                            clear H
                            have p149 : 0 ≤ (x10_2 : Int) := of_decide_eq_true (by first | (with_reducible assumption) | assumption)
                            have q149 : x10_2 < (l0.length : Int) := of_decide_eq_true (by first | (with_reducible assumption) | assumption)
                            obtain ⟨ad149, A149_0, c149_0, e149, hx149_0, hx149_1, hl149_0, hi149_0⟩ := at_T37 HR0.out x10_2 p149 q149
                            cases e149
                            replace hx149_0 := (HB.out.cell (World.block_lt_of_cell? w _ hx149_0)).trans hx149_0
                            replace hx149_1 := (HB.out.cell (World.block_lt_of_cell? w _ hx149_1)).trans hx149_1
                            have HR149_0 := Aside0.mk hi149_0
                            have HC149_0 := Aside0.mk hl149_0
                            clear hi149_0 hl149_0
                            replace p149 := eq_true p149
                            replace q149 := eq_true q149
                            go_wp2_with (first | (go_at_call 62; (with_reducible refine (spec_l6fAt.calls k2 _ _ ((rd_T37 l0 x10_2).f0) ((rd_T37 l0 x10_2).f1) _ _ l1 x9_1 false _ ?side1 ?side2 ?side3 ?side4 A18.out).mono ?_); (case side1 => repeat (first | exact (Kd.C_below HR149_0.out HB.out) | (with_reducible refine Kd.C_alloc ?_ _) | (with_reducible refine Kd.C_drewN ?_ _) | (with_reducible refine Kd.C_drew ?_))); (case side2 => exact HC149_0.out); (case side3 => repeat (first | exact (Kd.C_below HR1.out HB.out) | (with_reducible refine Kd.C_alloc ?_ _) | (with_reducible refine Kd.C_drewN ?_ _) | (with_reducible refine Kd.C_drew ?_))); (case side4 => exact HC1.out); rintro e w24 ⟨rfl, hb⟩; have n0_ := Aside0.mk (Kd.R_below (by (with_reducible repeat (first | apply Kd.R_alloc | apply Kd.R_drewN | apply Kd.R_drew)); exact HO_8.out) hb); have n1_ := Aside0.mk (below_step (by repeat (first | (with_reducible first | exact HB.out | apply below_alloc | apply pw_below_drewN | apply below_drew1) | exact HB.out)) hb); clear HO_8; clear HB; have HO_8 := n0_; have HB := n1_; clear n0_ n1_; (try clear hb); (try clear hb2); (try clear hk); (try clear hi)))
                            repeat (go_quiet (first | (go_at_call 62; (with_reducible refine (spec_l6fAt.calls k2 _ _ ((rd_T37 l0 x10_2).f0) ((rd_T37 l0 x10_2).f1) _ _ l1 x9_1 false _ ?side1 ?side2 ?side3 ?side4 A18.out).mono ?_); (case side1 => repeat (first | exact (Kd.C_below HR149_0.out HB.out) | (with_reducible refine Kd.C_alloc ?_ _) | (with_reducible refine Kd.C_drewN ?_ _) | (with_reducible refine Kd.C_drew ?_))); (case side2 => exact HC149_0.out); (case side3 => repeat (first | exact (Kd.C_below HR1.out HB.out) | (with_reducible refine Kd.C_alloc ?_ _) | (with_reducible refine Kd.C_drewN ?_ _) | (with_reducible refine Kd.C_drew ?_))); (case side4 => exact HC1.out); rintro e w24 ⟨rfl, hb⟩; have n0_ := Aside0.mk (Kd.R_below (by (with_reducible repeat (first | apply Kd.R_alloc | apply Kd.R_drewN | apply Kd.R_drew)); exact HO_8.out) hb); have n1_ := Aside0.mk (below_step (by repeat (first | (with_reducible first | exact HB.out | apply below_alloc | apply pw_below_drewN | apply below_drew1) | exact HB.out)) hb); clear HO_8; clear HB; have HO_8 := n0_; have HB := n1_; clear n0_ n1_; (try clear hb); (try clear hb2); (try clear hk); (try clear hi))); try go_wp2_with (first | (go_at_call 62; (with_reducible refine (spec_l6fAt.calls k2 _ _ ((rd_T37 l0 x10_2).f0) ((rd_T37 l0 x10_2).f1) _ _ l1 x9_1 false _ ?side1 ?side2 ?side3 ?side4 A18.out).mono ?_); (case side1 => repeat (first | exact (Kd.C_below HR149_0.out HB.out) | (with_reducible refine Kd.C_alloc ?_ _) | (with_reducible refine Kd.C_drewN ?_ _) | (with_reducible refine Kd.C_drew ?_))); (case side2 => exact HC149_0.out); (case side3 => repeat (first | exact (Kd.C_below HR1.out HB.out) | (with_reducible refine Kd.C_alloc ?_ _) | (with_reducible refine Kd.C_drewN ?_ _) | (with_reducible refine Kd.C_drew ?_))); (case side4 => exact HC1.out); rintro e w24 ⟨rfl, hb⟩; have n0_ := Aside0.mk (Kd.R_below (by (with_reducible repeat (first | apply Kd.R_alloc | apply Kd.R_drewN | apply Kd.R_drew)); exact HO_8.out) hb); have n1_ := Aside0.mk (below_step (by repeat (first | (with_reducible first | exact HB.out | apply below_alloc | apply pw_below_drewN | apply below_drew1) | exact HB.out)) hb); clear HO_8; clear HB; have HO_8 := n0_; have HB := n1_; clear n0_ n1_; (try clear hb); (try clear hb2); (try clear hk); (try clear hi))))
                            go_meet
                            case rel => exact ⟨_, (true), (by first | rfl | (simp; done) | (simp [*]; done)), H', ⟨by have := HK1.out; have := HK2.out; first | omega | exact Nat.le_refl _⟩, ⟨by (try simp only [hl8_2]); (with_reducible repeat (first | apply Kd.R_alloc | apply Kd.R_drewN | apply Kd.R_drew)); exact HO_8.out⟩, ⟨by repeat (first | (with_reducible first | exact HB.out | apply below_alloc | apply pw_below_drewN | apply below_drew1) | exact HB.out)⟩⟩
                        · rw [if_neg c17] at H
                          exact absurd H (by simp)
                      case rest =>
                        clear HC16
                        try clear c1
                        try clear p1
                        try clear q1
                        try clear hx1
                        try clear c2
                        try clear p2
                        try clear c5
                        try clear c5b0
                        try clear c5b1
                        try clear c6
                        try clear c6b0
                        try clear c6b1
                        try clear p6
                        try clear c9
                        try clear c9b0
                        try clear c10
                        try clear c10b0
                        try clear c11
                        try clear c11b0
                        try clear p12
                        try clear q12
                        try clear hx12
                        try clear hf12
                        try clear c14
                        try clear p14
                        try clear q14
                        try clear hx14
                        try clear c15
                        try clear c15b0
                        try clear p15
                        try clear q15
                        try clear hx15
                        try clear c17
                        try clear c17b0
                        try clear c19
                        try clear c21
                        try clear c21b0
                        try clear c22
                        try clear c22b0
                        try clear hx12_0
                        try clear hx149_0
                        try clear hx149_1
                        try clear hx151_0
                        try clear hx151_1
                        try clear hx152_0
                        try clear p1
                        try clear p12
                        try clear p149
                        try clear p151
                        try clear p152
                        try clear p2
                        try clear p6
                        try clear q1
                        try clear q12
                        try clear q149
                        try clear q151
                        try clear q152
                        obtain ⟨kq, x53_15, rfl, HA, HJ15, HO_8, HB⟩ := hcut
                        cases kq with
                        | zero => exact absurd HA.out (by simp [spec_l6fLeast.j2])
                        | succ kj15 =>
                          have H := HA.out
                          clear HA
                          simp only [spec_l6fLeast.j2] at H
                          by_cases c25 : x53_15 = true
                          · subst c25
                            have H1 : (spec_l6fLeast.l1 kj15 l0 l1 a2 x8_2 x9_1 (wrap64 (x10_2 + 1))) = some r := by rw [if_pos rfl] at H; exact H
                            clear H
                            have H := H1
                            clear H1
                            have H' := Aside0.mk H
                            clear H
                            go_wp2
                            repeat (go_quiet (fail); try go_wp2)
                            (try simp only [← hl8_2])
                            go_roundg kj15
                            case measure => have := HK1.out; have := HK2.out; have := HJ15.out; omega
                            case rel => exact ⟨(x8_2), (wrap64 (x10_2 + 1)), (by first | rfl | (simp; done) | (simp [*]; done)), H', ⟨by have := HK1.out; have := HK2.out; have := HJ15.out; omega⟩, ⟨by (try simp only [hl8_2]); (with_reducible repeat (first | apply Kd.R_alloc | apply Kd.R_drewN | apply Kd.R_drew)); exact HO_8.out⟩, ⟨by repeat (first | (with_reducible first | exact HB.out | apply below_alloc | apply pw_below_drewN | apply below_drew1) | exact HB.out)⟩⟩
                          · replace c25 := Bool.eq_false_iff.mpr c25
                            subst c25
                            have H1 : (if 0 ≤ x10_2 then (if x10_2 < (l0.length : Int) then (if 0 ≤ (wrap64 (x9_1 + (((rd_T37 l0 x10_2).f0).length : Int))) then (if (wrap64 (x9_1 + (((rd_T37 l0 x10_2).f0).length : Int))) < (x8_2.length : Int) then (if a2 = true then (if 0 ≤ x9_1 then (if x9_1 < (x8_2.length : Int) then (if (rd x8_2 x9_1) < 0 then (spec_l6fLeast.l1 kj15 l0 l1 a2 (x8_2.set (x9_1 : Int).toNat (wrap64 ((rd x8_2 (wrap64 (x9_1 + (((rd_T37 l0 x10_2).f0).length : Int)))) + 1))) x9_1 (wrap64 (x10_2 + 1))) else (if (wrap64 ((rd x8_2 (wrap64 (x9_1 + (((rd_T37 l0 x10_2).f0).length : Int)))) + 1)) < (rd x8_2 x9_1) then (spec_l6fLeast.l1 kj15 l0 l1 a2 (x8_2.set (x9_1 : Int).toNat (wrap64 ((rd x8_2 (wrap64 (x9_1 + (((rd_T37 l0 x10_2).f0).length : Int)))) + 1))) x9_1 (wrap64 (x10_2 + 1))) else (spec_l6fLeast.l1 kj15 l0 l1 a2 x8_2 x9_1 (wrap64 (x10_2 + 1))))) else (none)) else (none)) else (if 0 ≤ x9_1 then (if x9_1 < (x8_2.length : Int) then (if (rd x8_2 x9_1) < 0 then (spec_l6fLeast.l1 kj15 l0 l1 a2 (x8_2.set (x9_1 : Int).toNat (wrap64 ((rd x8_2 (wrap64 (x9_1 + (((rd_T37 l0 x10_2).f0).length : Int)))) + ((rd_T37 l0 x10_2).f1)))) x9_1 (wrap64 (x10_2 + 1))) else (if (wrap64 ((rd x8_2 (wrap64 (x9_1 + (((rd_T37 l0 x10_2).f0).length : Int)))) + ((rd_T37 l0 x10_2).f1))) < (rd x8_2 x9_1) then (spec_l6fLeast.l1 kj15 l0 l1 a2 (x8_2.set (x9_1 : Int).toNat (wrap64 ((rd x8_2 (wrap64 (x9_1 + (((rd_T37 l0 x10_2).f0).length : Int)))) + ((rd_T37 l0 x10_2).f1)))) x9_1 (wrap64 (x10_2 + 1))) else (spec_l6fLeast.l1 kj15 l0 l1 a2 x8_2 x9_1 (wrap64 (x10_2 + 1))))) else (none)) else (none))) else (none)) else (none)) else (none)) else (none)) = some r := by rw [if_neg (show ¬ (false = true) by decide)] at H; exact H
                            clear H
                            have H := H1
                            clear H1
                            by_cases c26 : 0 ≤ x10_2
                            · rw [if_pos c26] at H
                              have c26b0 : decide (0 ≤ x10_2) = true := decide_eq_true c26
                              clear c26
                              by_cases c27 : x10_2 < (l0.length : Int)
                              · rw [if_pos c27] at H
                                have c27b0 : decide (x10_2 < (l0.length : Int)) = true := decide_eq_true c27
                                clear c27
                                obtain ⟨ji28, hji28⟩ : ∃ j_ : Int, (wrap64 (x9_1 + (((rd_T37 l0 x10_2).f0).length : Int))) = j_ := ⟨_, rfl⟩
                                replace H : (if 0 ≤ (ji28) then (if (ji28) < (x8_2.length : Int) then (if a2 = true then (if 0 ≤ x9_1 then (if x9_1 < (x8_2.length : Int) then (if (rd x8_2 x9_1) < 0 then (spec_l6fLeast.l1 kj15 l0 l1 a2 (x8_2.set (x9_1 : Int).toNat (wrap64 ((rd x8_2 (ji28)) + 1))) x9_1 (wrap64 (x10_2 + 1))) else (if (wrap64 ((rd x8_2 (ji28)) + 1)) < (rd x8_2 x9_1) then (spec_l6fLeast.l1 kj15 l0 l1 a2 (x8_2.set (x9_1 : Int).toNat (wrap64 ((rd x8_2 (ji28)) + 1))) x9_1 (wrap64 (x10_2 + 1))) else (spec_l6fLeast.l1 kj15 l0 l1 a2 x8_2 x9_1 (wrap64 (x10_2 + 1))))) else (none)) else (none)) else (if 0 ≤ x9_1 then (if x9_1 < (x8_2.length : Int) then (if (rd x8_2 x9_1) < 0 then (spec_l6fLeast.l1 kj15 l0 l1 a2 (x8_2.set (x9_1 : Int).toNat (wrap64 ((rd x8_2 (ji28)) + ((rd_T37 l0 x10_2).f1)))) x9_1 (wrap64 (x10_2 + 1))) else (if (wrap64 ((rd x8_2 (ji28)) + ((rd_T37 l0 x10_2).f1))) < (rd x8_2 x9_1) then (spec_l6fLeast.l1 kj15 l0 l1 a2 (x8_2.set (x9_1 : Int).toNat (wrap64 ((rd x8_2 (ji28)) + ((rd_T37 l0 x10_2).f1)))) x9_1 (wrap64 (x10_2 + 1))) else (spec_l6fLeast.l1 kj15 l0 l1 a2 x8_2 x9_1 (wrap64 (x10_2 + 1))))) else (none)) else (none))) else (none)) else (none)) = some r := by first | (rw [hji28] at H; exact H) | (simp only [hji28] at H ⊢; exact H)
                                have hji28w : (IntKind.i64.wrap (x9_1 + (((rd_T37 l0 x10_2).f0).length : Int))) = ji28 := (i64_w _).trans hji28
                                by_cases c29 : 0 ≤ (ji28)
                                · rw [if_pos c29] at H
                                  have c29b0 : decide (0 ≤ (ji28)) = true := decide_eq_true c29
                                  clear c29
                                  by_cases c30 : (ji28) < (x8_2.length : Int)
                                  · rw [if_pos c30] at H
                                    have c30b0 : decide ((ji28) < (x8_2.length : Int)) = true := decide_eq_true c30
                                    clear c30
                                    by_cases c31 : a2 = true
                                    · subst c31
                                      have H1 : (if 0 ≤ x9_1 then (if x9_1 < (x8_2.length : Int) then (if (rd x8_2 x9_1) < 0 then (spec_l6fLeast.l1 kj15 l0 l1 true (x8_2.set (x9_1 : Int).toNat (wrap64 ((rd x8_2 (ji28)) + 1))) x9_1 (wrap64 (x10_2 + 1))) else (if (wrap64 ((rd x8_2 (ji28)) + 1)) < (rd x8_2 x9_1) then (spec_l6fLeast.l1 kj15 l0 l1 true (x8_2.set (x9_1 : Int).toNat (wrap64 ((rd x8_2 (ji28)) + 1))) x9_1 (wrap64 (x10_2 + 1))) else (spec_l6fLeast.l1 kj15 l0 l1 true x8_2 x9_1 (wrap64 (x10_2 + 1))))) else (none)) else (none)) = some r := by rw [if_pos rfl] at H; exact H
                                      clear H
                                      have H := H1
                                      clear H1
                                      by_cases c32 : 0 ≤ x9_1
                                      · rw [if_pos c32] at H
                                        have c32b0 : decide (0 ≤ x9_1) = true := decide_eq_true c32
                                        clear c32
                                        by_cases c33 : x9_1 < (x8_2.length : Int)
                                        · rw [if_pos c33] at H
                                          have c33b0 : decide (x9_1 < (x8_2.length : Int)) = true := decide_eq_true c33
                                          clear c33
                                          by_cases c34 : (rd x8_2 x9_1) < 0
                                          · rw [if_pos c34] at H
                                            have c34b0 : decide ((rd x8_2 x9_1) < 0) = true := decide_eq_true c34
                                            clear c34
                                            obtain ⟨y159, hy159⟩ : ∃ y_ : List Int, y_ = (x8_2.set (x9_1 : Int).toNat (wrap64 ((rd x8_2 (ji28)) + 1))) := ⟨_, rfl⟩
                                            replace H : (spec_l6fLeast.l1 kj15 l0 l1 true y159 x9_1 (wrap64 (x10_2 + 1))) = some r := by first | (rw [hy159]; with_reducible exact H) | (have H2_ := (Option.bind_some _ _).symm.trans H; rw [hy159]; with_reducible exact H2_) | (have H2_ := (Option.bind_some _ _).symm.trans H; with_reducible exact H2_) | with_reducible exact H | (rw [hy159]; exact H) | exact H
                                            have Ny159 := Aside0.mk hy159
                                            clear hy159
                                            have H' := Aside0.mk H
                                            clear H
                                            have p153 : 0 ≤ (x10_2 : Int) := of_decide_eq_true (by first | (with_reducible assumption) | assumption)
                                            have q153 : x10_2 < (l0.length : Int) := of_decide_eq_true (by first | (with_reducible assumption) | assumption)
                                            obtain ⟨ad153, A153_0, c153_0, e153, hx153_0, hx153_1, hl153_0, hi153_0⟩ := at_T37 HR0.out x10_2 p153 q153
                                            cases e153
                                            replace hx153_0 := (HB.out.cell (World.block_lt_of_cell? w _ hx153_0)).trans hx153_0
                                            replace hx153_1 := (HB.out.cell (World.block_lt_of_cell? w _ hx153_1)).trans hx153_1
                                            have HR153_0 := Aside0.mk hi153_0
                                            have HC153_0 := Aside0.mk hl153_0
                                            clear hi153_0 hl153_0
                                            replace p153 := eq_true p153
                                            replace q153 := eq_true q153
                                            have p154 : 0 ≤ ((ji28) : Int) := of_decide_eq_true (by first | (with_reducible assumption) | assumption)
                                            have q154 : (ji28) < (x8_2.length : Int) := of_decide_eq_true (by first | (with_reducible assumption) | assumption)
                                            obtain ⟨ad154, e154, hx154_0⟩ := Kd.at_int (Kd.R_reads' HO_8.out).2.2 (ji28) p154 q154
                                            obtain rfl : (⟨go12, 0, none⟩ : Addr) = ad154 := (by injection e154)
                                            (first | simp only [add_plain] at hx154_0 | simp only [add_at] at hx154_0 | simp only [Addr.add, Nat.zero_add] at hx154_0 | skip)
                                            replace p154 := eq_true p154
                                            replace q154 := eq_true q154
                                            have p155 : 0 ≤ (x10_2 : Int) := of_decide_eq_true (by first | (with_reducible assumption) | assumption)
                                            have q155 : x10_2 < (l0.length : Int) := of_decide_eq_true (by first | (with_reducible assumption) | assumption)
                                            obtain ⟨ad155, A155_0, c155_0, e155, hx155_0, hx155_1, hl155_0, hi155_0⟩ := at_T37 HR0.out x10_2 p155 q155
                                            obtain rfl : ad153 = ad155 := (by injection e155)
                                            replace hx155_0 := (HB.out.cell (World.block_lt_of_cell? w _ hx155_0)).trans hx155_0
                                            replace hx155_1 := (HB.out.cell (World.block_lt_of_cell? w _ hx155_1)).trans hx155_1
                                            have HR155_0 := Aside0.mk hi155_0
                                            have HC155_0 := Aside0.mk hl155_0
                                            clear hi155_0 hl155_0
                                            replace p155 := eq_true p155
                                            replace q155 := eq_true q155
                                            have ea_ := Option.some.inj (hx153_0.symm.trans hx155_0)
                                            injection ea_ with ea_ en_ ec_
                                            subst ea_
                                            subst ec_
                                            clear en_
                                            have p156 : 0 ≤ (x10_2 : Int) := of_decide_eq_true (by first | (with_reducible assumption) | assumption)
                                            have q156 : x10_2 < (l0.length : Int) := of_decide_eq_true (by first | (with_reducible assumption) | assumption)
                                            obtain ⟨ad156, A156_0, c156_0, e156, hx156_0, hx156_1, hl156_0, hi156_0⟩ := at_T37 HR0.out x10_2 p156 q156
                                            obtain rfl : ad153 = ad156 := (by injection e156)
                                            replace hx156_0 := (HB.out.cell (World.block_lt_of_cell? w _ hx156_0)).trans hx156_0
                                            replace hx156_1 := (HB.out.cell (World.block_lt_of_cell? w _ hx156_1)).trans hx156_1
                                            have HR156_0 := Aside0.mk hi156_0
                                            have HC156_0 := Aside0.mk hl156_0
                                            clear hi156_0 hl156_0
                                            replace p156 := eq_true p156
                                            replace q156 := eq_true q156
                                            have ea_ := Option.some.inj (hx153_0.symm.trans hx156_0)
                                            injection ea_ with ea_ en_ ec_
                                            subst ea_
                                            subst ec_
                                            clear en_
                                            have p157 : 0 ≤ ((ji28) : Int) := of_decide_eq_true (by first | (with_reducible assumption) | assumption)
                                            have q157 : (ji28) < (x8_2.length : Int) := of_decide_eq_true (by first | (with_reducible assumption) | assumption)
                                            obtain ⟨ad157, e157, hx157_0⟩ := Kd.at_int (Kd.R_reads' HO_8.out).2.2 (ji28) p157 q157
                                            obtain rfl : (⟨go12, 0, none⟩ : Addr) = ad157 := (by injection e157)
                                            (first | simp only [add_plain] at hx157_0 | simp only [add_at] at hx157_0 | simp only [Addr.add, Nat.zero_add] at hx157_0 | skip)
                                            replace p157 := eq_true p157
                                            replace q157 := eq_true q157
                                            have p158 : 0 ≤ (x9_1 : Int) := of_decide_eq_true (by first | (with_reducible assumption) | assumption)
                                            have q158 : x9_1 < (x8_2.length : Int) := of_decide_eq_true (by first | (with_reducible assumption) | assumption)
                                            obtain ⟨ad158, e158, hx158_0⟩ := Kd.at_int (Kd.R_reads' HO_8.out).2.2 x9_1 p158 q158
                                            obtain rfl : (⟨go12, 0, none⟩ : Addr) = ad158 := (by injection e158)
                                            (first | simp only [add_plain] at hx158_0 | simp only [add_at] at hx158_0 | simp only [Addr.add, Nat.zero_add] at hx158_0 | skip)
                                            replace p158 := eq_true p158
                                            replace q158 := eq_true q158
                                            have p35 : 0 ≤ (x9_1 : Int) := of_decide_eq_true (by first | (with_reducible assumption) | assumption)
                                            have q35 : (x9_1 : Int) < ((x8_2.length : Int) : Int) := of_decide_eq_true (by first | (with_reducible assumption) | assumption)
                                            obtain ⟨hx35_0, hf35_0⟩ := Kd.R_celln 0 HO_8.out (x9_1 : Int) p35 q35
                                            replace p35 := eq_true p35
                                            replace q35 := eq_true q35
                                            have HP36 := Kd.R_putg HO_8.out (x9_1 : Int) (wrap64 ((rd x8_2 (ji28)) + 1))
                                            go_wp2_with (first | ((with_reducible refine gate_store (t := 3) (p := 100) rfl ?_); (try (rw [drewN_self wc]; generalize hq_ : World.drewN wc _ = wc; have n0_ := Aside0.mk (Kd.R_at hq_ HO_8.out); have n1_ := Aside0.mk (below_at hq_ HB.out); clear hq_ HO_8 HB; have HO_8 := n0_; have HB := n1_; clear n0_ n1_; (try (have HP36 := Kd.R_putg HO_8.out (x9_1 : Int) (wrap64 ((rd x8_2 (ji28)) + 1)))))); refine store_event (t := 3) (p := 100) (v := ?vo_w37) (w1 := (wc.setCell ⟨go12, (x9_1 : Int).toNat, none⟩ (.int .i64 (wrap64 ((rd x8_2 (ji28)) + 1))))) ?hg ?ho ?hn ?hr ?_; (case ho => rfl); (case hg => rfl); (case hn => rfl); (case hr => first | (go_simp; done) | (go_simp; rfl)); intro w37 hw; have hg : wc.grownBy w37 (some go12) := (by rw [hw]; exact HP36.2); have hp_ : Kd.R (Kd.int .i64) 3 w37 w.heap.size (fun _ => True) (.slice (some ⟨go12, 0, none⟩) x8_2.length co12) y159 := (by rw [hw, Ny159.out]; exact HP36.1); clear HP36; have n0_ := Aside0.mk (hp_); have n1_ := Aside0.mk ((by rw [hw]; exact below_set (HB.out) GB12.out : Below w.heap.size w w37)); clear HO_8; clear HB; have HO_8 := n0_; have HB := n1_; clear n0_ n1_; clear hg hw hp_))
                                            repeat (go_quiet (first | ((with_reducible refine gate_store (t := 3) (p := 100) rfl ?_); (try (rw [drewN_self wc]; generalize hq_ : World.drewN wc _ = wc; have n0_ := Aside0.mk (Kd.R_at hq_ HO_8.out); have n1_ := Aside0.mk (below_at hq_ HB.out); clear hq_ HO_8 HB; have HO_8 := n0_; have HB := n1_; clear n0_ n1_; (try (have HP36 := Kd.R_putg HO_8.out (x9_1 : Int) (wrap64 ((rd x8_2 (ji28)) + 1)))))); refine store_event (t := 3) (p := 100) (v := ?vo_w37) (w1 := (wc.setCell ⟨go12, (x9_1 : Int).toNat, none⟩ (.int .i64 (wrap64 ((rd x8_2 (ji28)) + 1))))) ?hg ?ho ?hn ?hr ?_; (case ho => rfl); (case hg => rfl); (case hn => rfl); (case hr => first | (go_simp; done) | (go_simp; rfl)); intro w37 hw; have hg : wc.grownBy w37 (some go12) := (by rw [hw]; exact HP36.2); have hp_ : Kd.R (Kd.int .i64) 3 w37 w.heap.size (fun _ => True) (.slice (some ⟨go12, 0, none⟩) x8_2.length co12) y159 := (by rw [hw, Ny159.out]; exact HP36.1); clear HP36; have n0_ := Aside0.mk (hp_); have n1_ := Aside0.mk ((by rw [hw]; exact below_set (HB.out) GB12.out : Below w.heap.size w w37)); clear HO_8; clear HB; have HO_8 := n0_; have HB := n1_; clear n0_ n1_; clear hg hw hp_)); try go_wp2_with (first | ((with_reducible refine gate_store (t := 3) (p := 100) rfl ?_); (try (rw [drewN_self wc]; generalize hq_ : World.drewN wc _ = wc; have n0_ := Aside0.mk (Kd.R_at hq_ HO_8.out); have n1_ := Aside0.mk (below_at hq_ HB.out); clear hq_ HO_8 HB; have HO_8 := n0_; have HB := n1_; clear n0_ n1_; (try (have HP36 := Kd.R_putg HO_8.out (x9_1 : Int) (wrap64 ((rd x8_2 (ji28)) + 1)))))); refine store_event (t := 3) (p := 100) (v := ?vo_w37) (w1 := (wc.setCell ⟨go12, (x9_1 : Int).toNat, none⟩ (.int .i64 (wrap64 ((rd x8_2 (ji28)) + 1))))) ?hg ?ho ?hn ?hr ?_; (case ho => rfl); (case hg => rfl); (case hn => rfl); (case hr => first | (go_simp; done) | (go_simp; rfl)); intro w37 hw; have hg : wc.grownBy w37 (some go12) := (by rw [hw]; exact HP36.2); have hp_ : Kd.R (Kd.int .i64) 3 w37 w.heap.size (fun _ => True) (.slice (some ⟨go12, 0, none⟩) x8_2.length co12) y159 := (by rw [hw, Ny159.out]; exact HP36.1); clear HP36; have n0_ := Aside0.mk (hp_); have n1_ := Aside0.mk ((by rw [hw]; exact below_set (HB.out) GB12.out : Below w.heap.size w w37)); clear HO_8; clear HB; have HO_8 := n0_; have HB := n1_; clear n0_ n1_; clear hg hw hp_)))
                                            (try simp only [← hl8_2])
                                            go_roundg kj15
                                            case measure => have := HK1.out; have := HK2.out; have := HJ15.out; omega
                                            case rel => exact ⟨(y159), (wrap64 (x10_2 + 1)), (by first | rfl | (simp; done) | (simp [*]; done)), H', ⟨by have := HK1.out; have := HK2.out; have := HJ15.out; omega⟩, ⟨by (try simp only [hl8_2]); (with_reducible repeat (first | apply Kd.R_alloc | apply Kd.R_drewN | apply Kd.R_drew)); first | exact HO_8.out | (rw [Ny159.out]; exact (Kd.R_putg (Kd.R_drewN HO_8.out _) (x9_1 : Int) _).1)⟩, ⟨by first | ((repeat (first | (with_reducible first | exact HB.out | apply below_alloc | apply pw_below_drewN | apply below_drew1) | exact HB.out)); done) | exact below_set (pw_below_drewN HB.out _) GB12.out⟩⟩
                                          · rw [if_neg c34] at H
                                            have c34b0 : decide ((rd x8_2 x9_1) < 0) = false := decide_eq_false c34
                                            clear c34
                                            by_cases c38 : (wrap64 ((rd x8_2 (ji28)) + 1)) < (rd x8_2 x9_1)
                                            · rw [if_pos c38] at H
                                              have c38b0 : decide ((wrap64 ((rd x8_2 (ji28)) + 1)) < (rd x8_2 x9_1)) = true := decide_eq_true c38
                                              clear c38
                                              obtain ⟨y161, hy161⟩ : ∃ y_ : List Int, y_ = (x8_2.set (x9_1 : Int).toNat (wrap64 ((rd x8_2 (ji28)) + 1))) := ⟨_, rfl⟩
                                              replace H : (spec_l6fLeast.l1 kj15 l0 l1 true y161 x9_1 (wrap64 (x10_2 + 1))) = some r := by first | (rw [hy161]; with_reducible exact H) | (have H2_ := (Option.bind_some _ _).symm.trans H; rw [hy161]; with_reducible exact H2_) | (have H2_ := (Option.bind_some _ _).symm.trans H; with_reducible exact H2_) | with_reducible exact H | (rw [hy161]; exact H) | exact H
                                              have Ny161 := Aside0.mk hy161
                                              clear hy161
                                              have H' := Aside0.mk H
                                              clear H
                                              have p153 : 0 ≤ (x10_2 : Int) := of_decide_eq_true (by first | (with_reducible assumption) | assumption)
                                              have q153 : x10_2 < (l0.length : Int) := of_decide_eq_true (by first | (with_reducible assumption) | assumption)
                                              obtain ⟨ad153, A153_0, c153_0, e153, hx153_0, hx153_1, hl153_0, hi153_0⟩ := at_T37 HR0.out x10_2 p153 q153
                                              cases e153
                                              replace hx153_0 := (HB.out.cell (World.block_lt_of_cell? w _ hx153_0)).trans hx153_0
                                              replace hx153_1 := (HB.out.cell (World.block_lt_of_cell? w _ hx153_1)).trans hx153_1
                                              have HR153_0 := Aside0.mk hi153_0
                                              have HC153_0 := Aside0.mk hl153_0
                                              clear hi153_0 hl153_0
                                              replace p153 := eq_true p153
                                              replace q153 := eq_true q153
                                              have p154 : 0 ≤ ((ji28) : Int) := of_decide_eq_true (by first | (with_reducible assumption) | assumption)
                                              have q154 : (ji28) < (x8_2.length : Int) := of_decide_eq_true (by first | (with_reducible assumption) | assumption)
                                              obtain ⟨ad154, e154, hx154_0⟩ := Kd.at_int (Kd.R_reads' HO_8.out).2.2 (ji28) p154 q154
                                              obtain rfl : (⟨go12, 0, none⟩ : Addr) = ad154 := (by injection e154)
                                              (first | simp only [add_plain] at hx154_0 | simp only [add_at] at hx154_0 | simp only [Addr.add, Nat.zero_add] at hx154_0 | skip)
                                              replace p154 := eq_true p154
                                              replace q154 := eq_true q154
                                              have p155 : 0 ≤ (x10_2 : Int) := of_decide_eq_true (by first | (with_reducible assumption) | assumption)
                                              have q155 : x10_2 < (l0.length : Int) := of_decide_eq_true (by first | (with_reducible assumption) | assumption)
                                              obtain ⟨ad155, A155_0, c155_0, e155, hx155_0, hx155_1, hl155_0, hi155_0⟩ := at_T37 HR0.out x10_2 p155 q155
                                              obtain rfl : ad153 = ad155 := (by injection e155)
                                              replace hx155_0 := (HB.out.cell (World.block_lt_of_cell? w _ hx155_0)).trans hx155_0
                                              replace hx155_1 := (HB.out.cell (World.block_lt_of_cell? w _ hx155_1)).trans hx155_1
                                              have HR155_0 := Aside0.mk hi155_0
                                              have HC155_0 := Aside0.mk hl155_0
                                              clear hi155_0 hl155_0
                                              replace p155 := eq_true p155
                                              replace q155 := eq_true q155
                                              have ea_ := Option.some.inj (hx153_0.symm.trans hx155_0)
                                              injection ea_ with ea_ en_ ec_
                                              subst ea_
                                              subst ec_
                                              clear en_
                                              have p156 : 0 ≤ (x10_2 : Int) := of_decide_eq_true (by first | (with_reducible assumption) | assumption)
                                              have q156 : x10_2 < (l0.length : Int) := of_decide_eq_true (by first | (with_reducible assumption) | assumption)
                                              obtain ⟨ad156, A156_0, c156_0, e156, hx156_0, hx156_1, hl156_0, hi156_0⟩ := at_T37 HR0.out x10_2 p156 q156
                                              obtain rfl : ad153 = ad156 := (by injection e156)
                                              replace hx156_0 := (HB.out.cell (World.block_lt_of_cell? w _ hx156_0)).trans hx156_0
                                              replace hx156_1 := (HB.out.cell (World.block_lt_of_cell? w _ hx156_1)).trans hx156_1
                                              have HR156_0 := Aside0.mk hi156_0
                                              have HC156_0 := Aside0.mk hl156_0
                                              clear hi156_0 hl156_0
                                              replace p156 := eq_true p156
                                              replace q156 := eq_true q156
                                              have ea_ := Option.some.inj (hx153_0.symm.trans hx156_0)
                                              injection ea_ with ea_ en_ ec_
                                              subst ea_
                                              subst ec_
                                              clear en_
                                              have p157 : 0 ≤ ((ji28) : Int) := of_decide_eq_true (by first | (with_reducible assumption) | assumption)
                                              have q157 : (ji28) < (x8_2.length : Int) := of_decide_eq_true (by first | (with_reducible assumption) | assumption)
                                              obtain ⟨ad157, e157, hx157_0⟩ := Kd.at_int (Kd.R_reads' HO_8.out).2.2 (ji28) p157 q157
                                              obtain rfl : (⟨go12, 0, none⟩ : Addr) = ad157 := (by injection e157)
                                              (first | simp only [add_plain] at hx157_0 | simp only [add_at] at hx157_0 | simp only [Addr.add, Nat.zero_add] at hx157_0 | skip)
                                              replace p157 := eq_true p157
                                              replace q157 := eq_true q157
                                              have p158 : 0 ≤ (x9_1 : Int) := of_decide_eq_true (by first | (with_reducible assumption) | assumption)
                                              have q158 : x9_1 < (x8_2.length : Int) := of_decide_eq_true (by first | (with_reducible assumption) | assumption)
                                              obtain ⟨ad158, e158, hx158_0⟩ := Kd.at_int (Kd.R_reads' HO_8.out).2.2 x9_1 p158 q158
                                              obtain rfl : (⟨go12, 0, none⟩ : Addr) = ad158 := (by injection e158)
                                              (first | simp only [add_plain] at hx158_0 | simp only [add_at] at hx158_0 | simp only [Addr.add, Nat.zero_add] at hx158_0 | skip)
                                              replace p158 := eq_true p158
                                              replace q158 := eq_true q158
                                              have p160 : 0 ≤ (x9_1 : Int) := of_decide_eq_true (by first | (with_reducible assumption) | assumption)
                                              have q160 : x9_1 < (x8_2.length : Int) := of_decide_eq_true (by first | (with_reducible assumption) | assumption)
                                              obtain ⟨ad160, e160, hx160_0⟩ := Kd.at_int (Kd.R_reads' HO_8.out).2.2 x9_1 p160 q160
                                              obtain rfl : (⟨go12, 0, none⟩ : Addr) = ad160 := (by injection e160)
                                              (first | simp only [add_plain] at hx160_0 | simp only [add_at] at hx160_0 | simp only [Addr.add, Nat.zero_add] at hx160_0 | skip)
                                              replace p160 := eq_true p160
                                              replace q160 := eq_true q160
                                              have p39 : 0 ≤ (x9_1 : Int) := of_decide_eq_true (by first | (with_reducible assumption) | assumption)
                                              have q39 : (x9_1 : Int) < ((x8_2.length : Int) : Int) := of_decide_eq_true (by first | (with_reducible assumption) | assumption)
                                              obtain ⟨hx39_0, hf39_0⟩ := Kd.R_celln 0 HO_8.out (x9_1 : Int) p39 q39
                                              replace p39 := eq_true p39
                                              replace q39 := eq_true q39
                                              have HP40 := Kd.R_putg HO_8.out (x9_1 : Int) (wrap64 ((rd x8_2 (ji28)) + 1))
                                              go_wp2_with (first | ((with_reducible refine gate_store (t := 3) (p := 100) rfl ?_); (try (rw [drewN_self wc]; generalize hq_ : World.drewN wc _ = wc; have n0_ := Aside0.mk (Kd.R_at hq_ HO_8.out); have n1_ := Aside0.mk (below_at hq_ HB.out); clear hq_ HO_8 HB; have HO_8 := n0_; have HB := n1_; clear n0_ n1_; (try (have HP40 := Kd.R_putg HO_8.out (x9_1 : Int) (wrap64 ((rd x8_2 (ji28)) + 1)))))); refine store_event (t := 3) (p := 100) (v := ?vo_w41) (w1 := (wc.setCell ⟨go12, (x9_1 : Int).toNat, none⟩ (.int .i64 (wrap64 ((rd x8_2 (ji28)) + 1))))) ?hg ?ho ?hn ?hr ?_; (case ho => rfl); (case hg => rfl); (case hn => rfl); (case hr => first | (go_simp; done) | (go_simp; rfl)); intro w41 hw; have hg : wc.grownBy w41 (some go12) := (by rw [hw]; exact HP40.2); have hp_ : Kd.R (Kd.int .i64) 3 w41 w.heap.size (fun _ => True) (.slice (some ⟨go12, 0, none⟩) x8_2.length co12) y161 := (by rw [hw, Ny161.out]; exact HP40.1); clear HP40; have n0_ := Aside0.mk (hp_); have n1_ := Aside0.mk ((by rw [hw]; exact below_set (HB.out) GB12.out : Below w.heap.size w w41)); clear HO_8; clear HB; have HO_8 := n0_; have HB := n1_; clear n0_ n1_; clear hg hw hp_))
                                              repeat (go_quiet (first | ((with_reducible refine gate_store (t := 3) (p := 100) rfl ?_); (try (rw [drewN_self wc]; generalize hq_ : World.drewN wc _ = wc; have n0_ := Aside0.mk (Kd.R_at hq_ HO_8.out); have n1_ := Aside0.mk (below_at hq_ HB.out); clear hq_ HO_8 HB; have HO_8 := n0_; have HB := n1_; clear n0_ n1_; (try (have HP40 := Kd.R_putg HO_8.out (x9_1 : Int) (wrap64 ((rd x8_2 (ji28)) + 1)))))); refine store_event (t := 3) (p := 100) (v := ?vo_w41) (w1 := (wc.setCell ⟨go12, (x9_1 : Int).toNat, none⟩ (.int .i64 (wrap64 ((rd x8_2 (ji28)) + 1))))) ?hg ?ho ?hn ?hr ?_; (case ho => rfl); (case hg => rfl); (case hn => rfl); (case hr => first | (go_simp; done) | (go_simp; rfl)); intro w41 hw; have hg : wc.grownBy w41 (some go12) := (by rw [hw]; exact HP40.2); have hp_ : Kd.R (Kd.int .i64) 3 w41 w.heap.size (fun _ => True) (.slice (some ⟨go12, 0, none⟩) x8_2.length co12) y161 := (by rw [hw, Ny161.out]; exact HP40.1); clear HP40; have n0_ := Aside0.mk (hp_); have n1_ := Aside0.mk ((by rw [hw]; exact below_set (HB.out) GB12.out : Below w.heap.size w w41)); clear HO_8; clear HB; have HO_8 := n0_; have HB := n1_; clear n0_ n1_; clear hg hw hp_)); try go_wp2_with (first | ((with_reducible refine gate_store (t := 3) (p := 100) rfl ?_); (try (rw [drewN_self wc]; generalize hq_ : World.drewN wc _ = wc; have n0_ := Aside0.mk (Kd.R_at hq_ HO_8.out); have n1_ := Aside0.mk (below_at hq_ HB.out); clear hq_ HO_8 HB; have HO_8 := n0_; have HB := n1_; clear n0_ n1_; (try (have HP40 := Kd.R_putg HO_8.out (x9_1 : Int) (wrap64 ((rd x8_2 (ji28)) + 1)))))); refine store_event (t := 3) (p := 100) (v := ?vo_w41) (w1 := (wc.setCell ⟨go12, (x9_1 : Int).toNat, none⟩ (.int .i64 (wrap64 ((rd x8_2 (ji28)) + 1))))) ?hg ?ho ?hn ?hr ?_; (case ho => rfl); (case hg => rfl); (case hn => rfl); (case hr => first | (go_simp; done) | (go_simp; rfl)); intro w41 hw; have hg : wc.grownBy w41 (some go12) := (by rw [hw]; exact HP40.2); have hp_ : Kd.R (Kd.int .i64) 3 w41 w.heap.size (fun _ => True) (.slice (some ⟨go12, 0, none⟩) x8_2.length co12) y161 := (by rw [hw, Ny161.out]; exact HP40.1); clear HP40; have n0_ := Aside0.mk (hp_); have n1_ := Aside0.mk ((by rw [hw]; exact below_set (HB.out) GB12.out : Below w.heap.size w w41)); clear HO_8; clear HB; have HO_8 := n0_; have HB := n1_; clear n0_ n1_; clear hg hw hp_)))
                                              (try simp only [← hl8_2])
                                              go_roundg kj15
                                              case measure => have := HK1.out; have := HK2.out; have := HJ15.out; omega
                                              case rel => exact ⟨(y161), (wrap64 (x10_2 + 1)), (by first | rfl | (simp; done) | (simp [*]; done)), H', ⟨by have := HK1.out; have := HK2.out; have := HJ15.out; omega⟩, ⟨by (try simp only [hl8_2]); (with_reducible repeat (first | apply Kd.R_alloc | apply Kd.R_drewN | apply Kd.R_drew)); first | exact HO_8.out | (rw [Ny161.out]; exact (Kd.R_putg (Kd.R_drewN HO_8.out _) (x9_1 : Int) _).1)⟩, ⟨by first | ((repeat (first | (with_reducible first | exact HB.out | apply below_alloc | apply pw_below_drewN | apply below_drew1) | exact HB.out)); done) | exact below_set (pw_below_drewN HB.out _) GB12.out⟩⟩
                                            · rw [if_neg c38] at H
                                              have c38b0 : decide ((wrap64 ((rd x8_2 (ji28)) + 1)) < (rd x8_2 x9_1)) = false := decide_eq_false c38
                                              clear c38
                                              have H' := Aside0.mk H
                                              clear H
                                              have p153 : 0 ≤ (x10_2 : Int) := of_decide_eq_true (by first | (with_reducible assumption) | assumption)
                                              have q153 : x10_2 < (l0.length : Int) := of_decide_eq_true (by first | (with_reducible assumption) | assumption)
                                              obtain ⟨ad153, A153_0, c153_0, e153, hx153_0, hx153_1, hl153_0, hi153_0⟩ := at_T37 HR0.out x10_2 p153 q153
                                              cases e153
                                              replace hx153_0 := (HB.out.cell (World.block_lt_of_cell? w _ hx153_0)).trans hx153_0
                                              replace hx153_1 := (HB.out.cell (World.block_lt_of_cell? w _ hx153_1)).trans hx153_1
                                              have HR153_0 := Aside0.mk hi153_0
                                              have HC153_0 := Aside0.mk hl153_0
                                              clear hi153_0 hl153_0
                                              replace p153 := eq_true p153
                                              replace q153 := eq_true q153
                                              have p154 : 0 ≤ ((ji28) : Int) := of_decide_eq_true (by first | (with_reducible assumption) | assumption)
                                              have q154 : (ji28) < (x8_2.length : Int) := of_decide_eq_true (by first | (with_reducible assumption) | assumption)
                                              obtain ⟨ad154, e154, hx154_0⟩ := Kd.at_int (Kd.R_reads' HO_8.out).2.2 (ji28) p154 q154
                                              obtain rfl : (⟨go12, 0, none⟩ : Addr) = ad154 := (by injection e154)
                                              (first | simp only [add_plain] at hx154_0 | simp only [add_at] at hx154_0 | simp only [Addr.add, Nat.zero_add] at hx154_0 | skip)
                                              replace p154 := eq_true p154
                                              replace q154 := eq_true q154
                                              have p155 : 0 ≤ (x10_2 : Int) := of_decide_eq_true (by first | (with_reducible assumption) | assumption)
                                              have q155 : x10_2 < (l0.length : Int) := of_decide_eq_true (by first | (with_reducible assumption) | assumption)
                                              obtain ⟨ad155, A155_0, c155_0, e155, hx155_0, hx155_1, hl155_0, hi155_0⟩ := at_T37 HR0.out x10_2 p155 q155
                                              obtain rfl : ad153 = ad155 := (by injection e155)
                                              replace hx155_0 := (HB.out.cell (World.block_lt_of_cell? w _ hx155_0)).trans hx155_0
                                              replace hx155_1 := (HB.out.cell (World.block_lt_of_cell? w _ hx155_1)).trans hx155_1
                                              have HR155_0 := Aside0.mk hi155_0
                                              have HC155_0 := Aside0.mk hl155_0
                                              clear hi155_0 hl155_0
                                              replace p155 := eq_true p155
                                              replace q155 := eq_true q155
                                              have ea_ := Option.some.inj (hx153_0.symm.trans hx155_0)
                                              injection ea_ with ea_ en_ ec_
                                              subst ea_
                                              subst ec_
                                              clear en_
                                              have p156 : 0 ≤ (x10_2 : Int) := of_decide_eq_true (by first | (with_reducible assumption) | assumption)
                                              have q156 : x10_2 < (l0.length : Int) := of_decide_eq_true (by first | (with_reducible assumption) | assumption)
                                              obtain ⟨ad156, A156_0, c156_0, e156, hx156_0, hx156_1, hl156_0, hi156_0⟩ := at_T37 HR0.out x10_2 p156 q156
                                              obtain rfl : ad153 = ad156 := (by injection e156)
                                              replace hx156_0 := (HB.out.cell (World.block_lt_of_cell? w _ hx156_0)).trans hx156_0
                                              replace hx156_1 := (HB.out.cell (World.block_lt_of_cell? w _ hx156_1)).trans hx156_1
                                              have HR156_0 := Aside0.mk hi156_0
                                              have HC156_0 := Aside0.mk hl156_0
                                              clear hi156_0 hl156_0
                                              replace p156 := eq_true p156
                                              replace q156 := eq_true q156
                                              have ea_ := Option.some.inj (hx153_0.symm.trans hx156_0)
                                              injection ea_ with ea_ en_ ec_
                                              subst ea_
                                              subst ec_
                                              clear en_
                                              have p157 : 0 ≤ ((ji28) : Int) := of_decide_eq_true (by first | (with_reducible assumption) | assumption)
                                              have q157 : (ji28) < (x8_2.length : Int) := of_decide_eq_true (by first | (with_reducible assumption) | assumption)
                                              obtain ⟨ad157, e157, hx157_0⟩ := Kd.at_int (Kd.R_reads' HO_8.out).2.2 (ji28) p157 q157
                                              obtain rfl : (⟨go12, 0, none⟩ : Addr) = ad157 := (by injection e157)
                                              (first | simp only [add_plain] at hx157_0 | simp only [add_at] at hx157_0 | simp only [Addr.add, Nat.zero_add] at hx157_0 | skip)
                                              replace p157 := eq_true p157
                                              replace q157 := eq_true q157
                                              have p158 : 0 ≤ (x9_1 : Int) := of_decide_eq_true (by first | (with_reducible assumption) | assumption)
                                              have q158 : x9_1 < (x8_2.length : Int) := of_decide_eq_true (by first | (with_reducible assumption) | assumption)
                                              obtain ⟨ad158, e158, hx158_0⟩ := Kd.at_int (Kd.R_reads' HO_8.out).2.2 x9_1 p158 q158
                                              obtain rfl : (⟨go12, 0, none⟩ : Addr) = ad158 := (by injection e158)
                                              (first | simp only [add_plain] at hx158_0 | simp only [add_at] at hx158_0 | simp only [Addr.add, Nat.zero_add] at hx158_0 | skip)
                                              replace p158 := eq_true p158
                                              replace q158 := eq_true q158
                                              have p160 : 0 ≤ (x9_1 : Int) := of_decide_eq_true (by first | (with_reducible assumption) | assumption)
                                              have q160 : x9_1 < (x8_2.length : Int) := of_decide_eq_true (by first | (with_reducible assumption) | assumption)
                                              obtain ⟨ad160, e160, hx160_0⟩ := Kd.at_int (Kd.R_reads' HO_8.out).2.2 x9_1 p160 q160
                                              obtain rfl : (⟨go12, 0, none⟩ : Addr) = ad160 := (by injection e160)
                                              (first | simp only [add_plain] at hx160_0 | simp only [add_at] at hx160_0 | simp only [Addr.add, Nat.zero_add] at hx160_0 | skip)
                                              replace p160 := eq_true p160
                                              replace q160 := eq_true q160
                                              go_wp2
                                              repeat (go_quiet (fail); try go_wp2)
                                              (try simp only [← hl8_2])
                                              go_roundg kj15
                                              case measure => have := HK1.out; have := HK2.out; have := HJ15.out; omega
                                              case rel => exact ⟨(x8_2), (wrap64 (x10_2 + 1)), (by first | rfl | (simp; done) | (simp [*]; done)), H', ⟨by have := HK1.out; have := HK2.out; have := HJ15.out; omega⟩, ⟨by (try simp only [hl8_2]); (with_reducible repeat (first | apply Kd.R_alloc | apply Kd.R_drewN | apply Kd.R_drew)); exact HO_8.out⟩, ⟨by repeat (first | (with_reducible first | exact HB.out | apply below_alloc | apply pw_below_drewN | apply below_drew1) | exact HB.out)⟩⟩
                                        · rw [if_neg c33] at H
                                          exact absurd H (by simp)
                                      · rw [if_neg c32] at H
                                        exact absurd H (by simp)
                                    · replace c31 := Bool.eq_false_iff.mpr c31
                                      subst c31
                                      have H1 : (if 0 ≤ x9_1 then (if x9_1 < (x8_2.length : Int) then (if (rd x8_2 x9_1) < 0 then (spec_l6fLeast.l1 kj15 l0 l1 false (x8_2.set (x9_1 : Int).toNat (wrap64 ((rd x8_2 (ji28)) + ((rd_T37 l0 x10_2).f1)))) x9_1 (wrap64 (x10_2 + 1))) else (if (wrap64 ((rd x8_2 (ji28)) + ((rd_T37 l0 x10_2).f1))) < (rd x8_2 x9_1) then (spec_l6fLeast.l1 kj15 l0 l1 false (x8_2.set (x9_1 : Int).toNat (wrap64 ((rd x8_2 (ji28)) + ((rd_T37 l0 x10_2).f1)))) x9_1 (wrap64 (x10_2 + 1))) else (spec_l6fLeast.l1 kj15 l0 l1 false x8_2 x9_1 (wrap64 (x10_2 + 1))))) else (none)) else (none)) = some r := by rw [if_neg (show ¬ (false = true) by decide)] at H; exact H
                                      clear H
                                      have H := H1
                                      clear H1
                                      by_cases c42 : 0 ≤ x9_1
                                      · rw [if_pos c42] at H
                                        have c42b0 : decide (0 ≤ x9_1) = true := decide_eq_true c42
                                        clear c42
                                        by_cases c43 : x9_1 < (x8_2.length : Int)
                                        · rw [if_pos c43] at H
                                          have c43b0 : decide (x9_1 < (x8_2.length : Int)) = true := decide_eq_true c43
                                          clear c43
                                          by_cases c44 : (rd x8_2 x9_1) < 0
                                          · rw [if_pos c44] at H
                                            have c44b0 : decide ((rd x8_2 x9_1) < 0) = true := decide_eq_true c44
                                            clear c44
                                            obtain ⟨y163, hy163⟩ : ∃ y_ : List Int, y_ = (x8_2.set (x9_1 : Int).toNat (wrap64 ((rd x8_2 (ji28)) + ((rd_T37 l0 x10_2).f1)))) := ⟨_, rfl⟩
                                            replace H : (spec_l6fLeast.l1 kj15 l0 l1 false y163 x9_1 (wrap64 (x10_2 + 1))) = some r := by first | (rw [hy163]; with_reducible exact H) | (have H2_ := (Option.bind_some _ _).symm.trans H; rw [hy163]; with_reducible exact H2_) | (have H2_ := (Option.bind_some _ _).symm.trans H; with_reducible exact H2_) | with_reducible exact H | (rw [hy163]; exact H) | exact H
                                            have Ny163 := Aside0.mk hy163
                                            clear hy163
                                            have H' := Aside0.mk H
                                            clear H
                                            have p153 : 0 ≤ (x10_2 : Int) := of_decide_eq_true (by first | (with_reducible assumption) | assumption)
                                            have q153 : x10_2 < (l0.length : Int) := of_decide_eq_true (by first | (with_reducible assumption) | assumption)
                                            obtain ⟨ad153, A153_0, c153_0, e153, hx153_0, hx153_1, hl153_0, hi153_0⟩ := at_T37 HR0.out x10_2 p153 q153
                                            cases e153
                                            replace hx153_0 := (HB.out.cell (World.block_lt_of_cell? w _ hx153_0)).trans hx153_0
                                            replace hx153_1 := (HB.out.cell (World.block_lt_of_cell? w _ hx153_1)).trans hx153_1
                                            have HR153_0 := Aside0.mk hi153_0
                                            have HC153_0 := Aside0.mk hl153_0
                                            clear hi153_0 hl153_0
                                            replace p153 := eq_true p153
                                            replace q153 := eq_true q153
                                            have p154 : 0 ≤ ((ji28) : Int) := of_decide_eq_true (by first | (with_reducible assumption) | assumption)
                                            have q154 : (ji28) < (x8_2.length : Int) := of_decide_eq_true (by first | (with_reducible assumption) | assumption)
                                            obtain ⟨ad154, e154, hx154_0⟩ := Kd.at_int (Kd.R_reads' HO_8.out).2.2 (ji28) p154 q154
                                            obtain rfl : (⟨go12, 0, none⟩ : Addr) = ad154 := (by injection e154)
                                            (first | simp only [add_plain] at hx154_0 | simp only [add_at] at hx154_0 | simp only [Addr.add, Nat.zero_add] at hx154_0 | skip)
                                            replace p154 := eq_true p154
                                            replace q154 := eq_true q154
                                            have p155 : 0 ≤ (x10_2 : Int) := of_decide_eq_true (by first | (with_reducible assumption) | assumption)
                                            have q155 : x10_2 < (l0.length : Int) := of_decide_eq_true (by first | (with_reducible assumption) | assumption)
                                            obtain ⟨ad155, A155_0, c155_0, e155, hx155_0, hx155_1, hl155_0, hi155_0⟩ := at_T37 HR0.out x10_2 p155 q155
                                            obtain rfl : ad153 = ad155 := (by injection e155)
                                            replace hx155_0 := (HB.out.cell (World.block_lt_of_cell? w _ hx155_0)).trans hx155_0
                                            replace hx155_1 := (HB.out.cell (World.block_lt_of_cell? w _ hx155_1)).trans hx155_1
                                            have HR155_0 := Aside0.mk hi155_0
                                            have HC155_0 := Aside0.mk hl155_0
                                            clear hi155_0 hl155_0
                                            replace p155 := eq_true p155
                                            replace q155 := eq_true q155
                                            have ea_ := Option.some.inj (hx153_0.symm.trans hx155_0)
                                            injection ea_ with ea_ en_ ec_
                                            subst ea_
                                            subst ec_
                                            clear en_
                                            have p162 : 0 ≤ (x9_1 : Int) := of_decide_eq_true (by first | (with_reducible assumption) | assumption)
                                            have q162 : x9_1 < (x8_2.length : Int) := of_decide_eq_true (by first | (with_reducible assumption) | assumption)
                                            obtain ⟨ad162, e162, hx162_0⟩ := Kd.at_int (Kd.R_reads' HO_8.out).2.2 x9_1 p162 q162
                                            obtain rfl : (⟨go12, 0, none⟩ : Addr) = ad162 := (by injection e162)
                                            (first | simp only [add_plain] at hx162_0 | simp only [add_at] at hx162_0 | simp only [Addr.add, Nat.zero_add] at hx162_0 | skip)
                                            replace p162 := eq_true p162
                                            replace q162 := eq_true q162
                                            have p45 : 0 ≤ (x9_1 : Int) := of_decide_eq_true (by first | (with_reducible assumption) | assumption)
                                            have q45 : (x9_1 : Int) < ((x8_2.length : Int) : Int) := of_decide_eq_true (by first | (with_reducible assumption) | assumption)
                                            obtain ⟨hx45_0, hf45_0⟩ := Kd.R_celln 0 HO_8.out (x9_1 : Int) p45 q45
                                            replace p45 := eq_true p45
                                            replace q45 := eq_true q45
                                            have HP46 := Kd.R_putg HO_8.out (x9_1 : Int) (wrap64 ((rd x8_2 (ji28)) + ((rd_T37 l0 x10_2).f1)))
                                            go_wp2_with (first | ((with_reducible refine gate_store (t := 3) (p := 100) rfl ?_); (try (rw [drewN_self wc]; generalize hq_ : World.drewN wc _ = wc; have n0_ := Aside0.mk (Kd.R_at hq_ HO_8.out); have n1_ := Aside0.mk (below_at hq_ HB.out); clear hq_ HO_8 HB; have HO_8 := n0_; have HB := n1_; clear n0_ n1_; (try (have HP46 := Kd.R_putg HO_8.out (x9_1 : Int) (wrap64 ((rd x8_2 (ji28)) + ((rd_T37 l0 x10_2).f1))))))); refine store_event (t := 3) (p := 100) (v := ?vo_w47) (w1 := (wc.setCell ⟨go12, (x9_1 : Int).toNat, none⟩ (.int .i64 (wrap64 ((rd x8_2 (ji28)) + ((rd_T37 l0 x10_2).f1)))))) ?hg ?ho ?hn ?hr ?_; (case ho => rfl); (case hg => rfl); (case hn => rfl); (case hr => first | (go_simp; done) | (go_simp; rfl)); intro w47 hw; have hg : wc.grownBy w47 (some go12) := (by rw [hw]; exact HP46.2); have hp_ : Kd.R (Kd.int .i64) 3 w47 w.heap.size (fun _ => True) (.slice (some ⟨go12, 0, none⟩) x8_2.length co12) y163 := (by rw [hw, Ny163.out]; exact HP46.1); clear HP46; have n0_ := Aside0.mk (hp_); have n1_ := Aside0.mk ((by rw [hw]; exact below_set (HB.out) GB12.out : Below w.heap.size w w47)); clear HO_8; clear HB; have HO_8 := n0_; have HB := n1_; clear n0_ n1_; clear hg hw hp_))
                                            repeat (go_quiet (first | ((with_reducible refine gate_store (t := 3) (p := 100) rfl ?_); (try (rw [drewN_self wc]; generalize hq_ : World.drewN wc _ = wc; have n0_ := Aside0.mk (Kd.R_at hq_ HO_8.out); have n1_ := Aside0.mk (below_at hq_ HB.out); clear hq_ HO_8 HB; have HO_8 := n0_; have HB := n1_; clear n0_ n1_; (try (have HP46 := Kd.R_putg HO_8.out (x9_1 : Int) (wrap64 ((rd x8_2 (ji28)) + ((rd_T37 l0 x10_2).f1))))))); refine store_event (t := 3) (p := 100) (v := ?vo_w47) (w1 := (wc.setCell ⟨go12, (x9_1 : Int).toNat, none⟩ (.int .i64 (wrap64 ((rd x8_2 (ji28)) + ((rd_T37 l0 x10_2).f1)))))) ?hg ?ho ?hn ?hr ?_; (case ho => rfl); (case hg => rfl); (case hn => rfl); (case hr => first | (go_simp; done) | (go_simp; rfl)); intro w47 hw; have hg : wc.grownBy w47 (some go12) := (by rw [hw]; exact HP46.2); have hp_ : Kd.R (Kd.int .i64) 3 w47 w.heap.size (fun _ => True) (.slice (some ⟨go12, 0, none⟩) x8_2.length co12) y163 := (by rw [hw, Ny163.out]; exact HP46.1); clear HP46; have n0_ := Aside0.mk (hp_); have n1_ := Aside0.mk ((by rw [hw]; exact below_set (HB.out) GB12.out : Below w.heap.size w w47)); clear HO_8; clear HB; have HO_8 := n0_; have HB := n1_; clear n0_ n1_; clear hg hw hp_)); try go_wp2_with (first | ((with_reducible refine gate_store (t := 3) (p := 100) rfl ?_); (try (rw [drewN_self wc]; generalize hq_ : World.drewN wc _ = wc; have n0_ := Aside0.mk (Kd.R_at hq_ HO_8.out); have n1_ := Aside0.mk (below_at hq_ HB.out); clear hq_ HO_8 HB; have HO_8 := n0_; have HB := n1_; clear n0_ n1_; (try (have HP46 := Kd.R_putg HO_8.out (x9_1 : Int) (wrap64 ((rd x8_2 (ji28)) + ((rd_T37 l0 x10_2).f1))))))); refine store_event (t := 3) (p := 100) (v := ?vo_w47) (w1 := (wc.setCell ⟨go12, (x9_1 : Int).toNat, none⟩ (.int .i64 (wrap64 ((rd x8_2 (ji28)) + ((rd_T37 l0 x10_2).f1)))))) ?hg ?ho ?hn ?hr ?_; (case ho => rfl); (case hg => rfl); (case hn => rfl); (case hr => first | (go_simp; done) | (go_simp; rfl)); intro w47 hw; have hg : wc.grownBy w47 (some go12) := (by rw [hw]; exact HP46.2); have hp_ : Kd.R (Kd.int .i64) 3 w47 w.heap.size (fun _ => True) (.slice (some ⟨go12, 0, none⟩) x8_2.length co12) y163 := (by rw [hw, Ny163.out]; exact HP46.1); clear HP46; have n0_ := Aside0.mk (hp_); have n1_ := Aside0.mk ((by rw [hw]; exact below_set (HB.out) GB12.out : Below w.heap.size w w47)); clear HO_8; clear HB; have HO_8 := n0_; have HB := n1_; clear n0_ n1_; clear hg hw hp_)))
                                            (try simp only [← hl8_2])
                                            go_roundg kj15
                                            case measure => have := HK1.out; have := HK2.out; have := HJ15.out; omega
                                            case rel => exact ⟨(y163), (wrap64 (x10_2 + 1)), (by first | rfl | (simp; done) | (simp [*]; done)), H', ⟨by have := HK1.out; have := HK2.out; have := HJ15.out; omega⟩, ⟨by (try simp only [hl8_2]); (with_reducible repeat (first | apply Kd.R_alloc | apply Kd.R_drewN | apply Kd.R_drew)); first | exact HO_8.out | (rw [Ny163.out]; exact (Kd.R_putg (Kd.R_drewN HO_8.out _) (x9_1 : Int) _).1)⟩, ⟨by first | ((repeat (first | (with_reducible first | exact HB.out | apply below_alloc | apply pw_below_drewN | apply below_drew1) | exact HB.out)); done) | exact below_set (pw_below_drewN HB.out _) GB12.out⟩⟩
                                          · rw [if_neg c44] at H
                                            have c44b0 : decide ((rd x8_2 x9_1) < 0) = false := decide_eq_false c44
                                            clear c44
                                            by_cases c48 : (wrap64 ((rd x8_2 (ji28)) + ((rd_T37 l0 x10_2).f1))) < (rd x8_2 x9_1)
                                            · rw [if_pos c48] at H
                                              have c48b0 : decide ((wrap64 ((rd x8_2 (ji28)) + ((rd_T37 l0 x10_2).f1))) < (rd x8_2 x9_1)) = true := decide_eq_true c48
                                              clear c48
                                              obtain ⟨y165, hy165⟩ : ∃ y_ : List Int, y_ = (x8_2.set (x9_1 : Int).toNat (wrap64 ((rd x8_2 (ji28)) + ((rd_T37 l0 x10_2).f1)))) := ⟨_, rfl⟩
                                              replace H : (spec_l6fLeast.l1 kj15 l0 l1 false y165 x9_1 (wrap64 (x10_2 + 1))) = some r := by first | (rw [hy165]; with_reducible exact H) | (have H2_ := (Option.bind_some _ _).symm.trans H; rw [hy165]; with_reducible exact H2_) | (have H2_ := (Option.bind_some _ _).symm.trans H; with_reducible exact H2_) | with_reducible exact H | (rw [hy165]; exact H) | exact H
                                              have Ny165 := Aside0.mk hy165
                                              clear hy165
                                              have H' := Aside0.mk H
                                              clear H
                                              have p153 : 0 ≤ (x10_2 : Int) := of_decide_eq_true (by first | (with_reducible assumption) | assumption)
                                              have q153 : x10_2 < (l0.length : Int) := of_decide_eq_true (by first | (with_reducible assumption) | assumption)
                                              obtain ⟨ad153, A153_0, c153_0, e153, hx153_0, hx153_1, hl153_0, hi153_0⟩ := at_T37 HR0.out x10_2 p153 q153
                                              cases e153
                                              replace hx153_0 := (HB.out.cell (World.block_lt_of_cell? w _ hx153_0)).trans hx153_0
                                              replace hx153_1 := (HB.out.cell (World.block_lt_of_cell? w _ hx153_1)).trans hx153_1
                                              have HR153_0 := Aside0.mk hi153_0
                                              have HC153_0 := Aside0.mk hl153_0
                                              clear hi153_0 hl153_0
                                              replace p153 := eq_true p153
                                              replace q153 := eq_true q153
                                              have p154 : 0 ≤ ((ji28) : Int) := of_decide_eq_true (by first | (with_reducible assumption) | assumption)
                                              have q154 : (ji28) < (x8_2.length : Int) := of_decide_eq_true (by first | (with_reducible assumption) | assumption)
                                              obtain ⟨ad154, e154, hx154_0⟩ := Kd.at_int (Kd.R_reads' HO_8.out).2.2 (ji28) p154 q154
                                              obtain rfl : (⟨go12, 0, none⟩ : Addr) = ad154 := (by injection e154)
                                              (first | simp only [add_plain] at hx154_0 | simp only [add_at] at hx154_0 | simp only [Addr.add, Nat.zero_add] at hx154_0 | skip)
                                              replace p154 := eq_true p154
                                              replace q154 := eq_true q154
                                              have p155 : 0 ≤ (x10_2 : Int) := of_decide_eq_true (by first | (with_reducible assumption) | assumption)
                                              have q155 : x10_2 < (l0.length : Int) := of_decide_eq_true (by first | (with_reducible assumption) | assumption)
                                              obtain ⟨ad155, A155_0, c155_0, e155, hx155_0, hx155_1, hl155_0, hi155_0⟩ := at_T37 HR0.out x10_2 p155 q155
                                              obtain rfl : ad153 = ad155 := (by injection e155)
                                              replace hx155_0 := (HB.out.cell (World.block_lt_of_cell? w _ hx155_0)).trans hx155_0
                                              replace hx155_1 := (HB.out.cell (World.block_lt_of_cell? w _ hx155_1)).trans hx155_1
                                              have HR155_0 := Aside0.mk hi155_0
                                              have HC155_0 := Aside0.mk hl155_0
                                              clear hi155_0 hl155_0
                                              replace p155 := eq_true p155
                                              replace q155 := eq_true q155
                                              have ea_ := Option.some.inj (hx153_0.symm.trans hx155_0)
                                              injection ea_ with ea_ en_ ec_
                                              subst ea_
                                              subst ec_
                                              clear en_
                                              have p162 : 0 ≤ (x9_1 : Int) := of_decide_eq_true (by first | (with_reducible assumption) | assumption)
                                              have q162 : x9_1 < (x8_2.length : Int) := of_decide_eq_true (by first | (with_reducible assumption) | assumption)
                                              obtain ⟨ad162, e162, hx162_0⟩ := Kd.at_int (Kd.R_reads' HO_8.out).2.2 x9_1 p162 q162
                                              obtain rfl : (⟨go12, 0, none⟩ : Addr) = ad162 := (by injection e162)
                                              (first | simp only [add_plain] at hx162_0 | simp only [add_at] at hx162_0 | simp only [Addr.add, Nat.zero_add] at hx162_0 | skip)
                                              replace p162 := eq_true p162
                                              replace q162 := eq_true q162
                                              have p164 : 0 ≤ (x9_1 : Int) := of_decide_eq_true (by first | (with_reducible assumption) | assumption)
                                              have q164 : x9_1 < (x8_2.length : Int) := of_decide_eq_true (by first | (with_reducible assumption) | assumption)
                                              obtain ⟨ad164, e164, hx164_0⟩ := Kd.at_int (Kd.R_reads' HO_8.out).2.2 x9_1 p164 q164
                                              obtain rfl : (⟨go12, 0, none⟩ : Addr) = ad164 := (by injection e164)
                                              (first | simp only [add_plain] at hx164_0 | simp only [add_at] at hx164_0 | simp only [Addr.add, Nat.zero_add] at hx164_0 | skip)
                                              replace p164 := eq_true p164
                                              replace q164 := eq_true q164
                                              have p49 : 0 ≤ (x9_1 : Int) := of_decide_eq_true (by first | (with_reducible assumption) | assumption)
                                              have q49 : (x9_1 : Int) < ((x8_2.length : Int) : Int) := of_decide_eq_true (by first | (with_reducible assumption) | assumption)
                                              obtain ⟨hx49_0, hf49_0⟩ := Kd.R_celln 0 HO_8.out (x9_1 : Int) p49 q49
                                              replace p49 := eq_true p49
                                              replace q49 := eq_true q49
                                              have HP50 := Kd.R_putg HO_8.out (x9_1 : Int) (wrap64 ((rd x8_2 (ji28)) + ((rd_T37 l0 x10_2).f1)))
                                              go_wp2_with (first | ((with_reducible refine gate_store (t := 3) (p := 100) rfl ?_); (try (rw [drewN_self wc]; generalize hq_ : World.drewN wc _ = wc; have n0_ := Aside0.mk (Kd.R_at hq_ HO_8.out); have n1_ := Aside0.mk (below_at hq_ HB.out); clear hq_ HO_8 HB; have HO_8 := n0_; have HB := n1_; clear n0_ n1_; (try (have HP50 := Kd.R_putg HO_8.out (x9_1 : Int) (wrap64 ((rd x8_2 (ji28)) + ((rd_T37 l0 x10_2).f1))))))); refine store_event (t := 3) (p := 100) (v := ?vo_w51) (w1 := (wc.setCell ⟨go12, (x9_1 : Int).toNat, none⟩ (.int .i64 (wrap64 ((rd x8_2 (ji28)) + ((rd_T37 l0 x10_2).f1)))))) ?hg ?ho ?hn ?hr ?_; (case ho => rfl); (case hg => rfl); (case hn => rfl); (case hr => first | (go_simp; done) | (go_simp; rfl)); intro w51 hw; have hg : wc.grownBy w51 (some go12) := (by rw [hw]; exact HP50.2); have hp_ : Kd.R (Kd.int .i64) 3 w51 w.heap.size (fun _ => True) (.slice (some ⟨go12, 0, none⟩) x8_2.length co12) y165 := (by rw [hw, Ny165.out]; exact HP50.1); clear HP50; have n0_ := Aside0.mk (hp_); have n1_ := Aside0.mk ((by rw [hw]; exact below_set (HB.out) GB12.out : Below w.heap.size w w51)); clear HO_8; clear HB; have HO_8 := n0_; have HB := n1_; clear n0_ n1_; clear hg hw hp_))
                                              repeat (go_quiet (first | ((with_reducible refine gate_store (t := 3) (p := 100) rfl ?_); (try (rw [drewN_self wc]; generalize hq_ : World.drewN wc _ = wc; have n0_ := Aside0.mk (Kd.R_at hq_ HO_8.out); have n1_ := Aside0.mk (below_at hq_ HB.out); clear hq_ HO_8 HB; have HO_8 := n0_; have HB := n1_; clear n0_ n1_; (try (have HP50 := Kd.R_putg HO_8.out (x9_1 : Int) (wrap64 ((rd x8_2 (ji28)) + ((rd_T37 l0 x10_2).f1))))))); refine store_event (t := 3) (p := 100) (v := ?vo_w51) (w1 := (wc.setCell ⟨go12, (x9_1 : Int).toNat, none⟩ (.int .i64 (wrap64 ((rd x8_2 (ji28)) + ((rd_T37 l0 x10_2).f1)))))) ?hg ?ho ?hn ?hr ?_; (case ho => rfl); (case hg => rfl); (case hn => rfl); (case hr => first | (go_simp; done) | (go_simp; rfl)); intro w51 hw; have hg : wc.grownBy w51 (some go12) := (by rw [hw]; exact HP50.2); have hp_ : Kd.R (Kd.int .i64) 3 w51 w.heap.size (fun _ => True) (.slice (some ⟨go12, 0, none⟩) x8_2.length co12) y165 := (by rw [hw, Ny165.out]; exact HP50.1); clear HP50; have n0_ := Aside0.mk (hp_); have n1_ := Aside0.mk ((by rw [hw]; exact below_set (HB.out) GB12.out : Below w.heap.size w w51)); clear HO_8; clear HB; have HO_8 := n0_; have HB := n1_; clear n0_ n1_; clear hg hw hp_)); try go_wp2_with (first | ((with_reducible refine gate_store (t := 3) (p := 100) rfl ?_); (try (rw [drewN_self wc]; generalize hq_ : World.drewN wc _ = wc; have n0_ := Aside0.mk (Kd.R_at hq_ HO_8.out); have n1_ := Aside0.mk (below_at hq_ HB.out); clear hq_ HO_8 HB; have HO_8 := n0_; have HB := n1_; clear n0_ n1_; (try (have HP50 := Kd.R_putg HO_8.out (x9_1 : Int) (wrap64 ((rd x8_2 (ji28)) + ((rd_T37 l0 x10_2).f1))))))); refine store_event (t := 3) (p := 100) (v := ?vo_w51) (w1 := (wc.setCell ⟨go12, (x9_1 : Int).toNat, none⟩ (.int .i64 (wrap64 ((rd x8_2 (ji28)) + ((rd_T37 l0 x10_2).f1)))))) ?hg ?ho ?hn ?hr ?_; (case ho => rfl); (case hg => rfl); (case hn => rfl); (case hr => first | (go_simp; done) | (go_simp; rfl)); intro w51 hw; have hg : wc.grownBy w51 (some go12) := (by rw [hw]; exact HP50.2); have hp_ : Kd.R (Kd.int .i64) 3 w51 w.heap.size (fun _ => True) (.slice (some ⟨go12, 0, none⟩) x8_2.length co12) y165 := (by rw [hw, Ny165.out]; exact HP50.1); clear HP50; have n0_ := Aside0.mk (hp_); have n1_ := Aside0.mk ((by rw [hw]; exact below_set (HB.out) GB12.out : Below w.heap.size w w51)); clear HO_8; clear HB; have HO_8 := n0_; have HB := n1_; clear n0_ n1_; clear hg hw hp_)))
                                              (try simp only [← hl8_2])
                                              go_roundg kj15
                                              case measure => have := HK1.out; have := HK2.out; have := HJ15.out; omega
                                              case rel => exact ⟨(y165), (wrap64 (x10_2 + 1)), (by first | rfl | (simp; done) | (simp [*]; done)), H', ⟨by have := HK1.out; have := HK2.out; have := HJ15.out; omega⟩, ⟨by (try simp only [hl8_2]); (with_reducible repeat (first | apply Kd.R_alloc | apply Kd.R_drewN | apply Kd.R_drew)); first | exact HO_8.out | (rw [Ny165.out]; exact (Kd.R_putg (Kd.R_drewN HO_8.out _) (x9_1 : Int) _).1)⟩, ⟨by first | ((repeat (first | (with_reducible first | exact HB.out | apply below_alloc | apply pw_below_drewN | apply below_drew1) | exact HB.out)); done) | exact below_set (pw_below_drewN HB.out _) GB12.out⟩⟩
                                            · rw [if_neg c48] at H
                                              have c48b0 : decide ((wrap64 ((rd x8_2 (ji28)) + ((rd_T37 l0 x10_2).f1))) < (rd x8_2 x9_1)) = false := decide_eq_false c48
                                              clear c48
                                              have H' := Aside0.mk H
                                              clear H
                                              have p153 : 0 ≤ (x10_2 : Int) := of_decide_eq_true (by first | (with_reducible assumption) | assumption)
                                              have q153 : x10_2 < (l0.length : Int) := of_decide_eq_true (by first | (with_reducible assumption) | assumption)
                                              obtain ⟨ad153, A153_0, c153_0, e153, hx153_0, hx153_1, hl153_0, hi153_0⟩ := at_T37 HR0.out x10_2 p153 q153
                                              cases e153
                                              replace hx153_0 := (HB.out.cell (World.block_lt_of_cell? w _ hx153_0)).trans hx153_0
                                              replace hx153_1 := (HB.out.cell (World.block_lt_of_cell? w _ hx153_1)).trans hx153_1
                                              have HR153_0 := Aside0.mk hi153_0
                                              have HC153_0 := Aside0.mk hl153_0
                                              clear hi153_0 hl153_0
                                              replace p153 := eq_true p153
                                              replace q153 := eq_true q153
                                              have p154 : 0 ≤ ((ji28) : Int) := of_decide_eq_true (by first | (with_reducible assumption) | assumption)
                                              have q154 : (ji28) < (x8_2.length : Int) := of_decide_eq_true (by first | (with_reducible assumption) | assumption)
                                              obtain ⟨ad154, e154, hx154_0⟩ := Kd.at_int (Kd.R_reads' HO_8.out).2.2 (ji28) p154 q154
                                              obtain rfl : (⟨go12, 0, none⟩ : Addr) = ad154 := (by injection e154)
                                              (first | simp only [add_plain] at hx154_0 | simp only [add_at] at hx154_0 | simp only [Addr.add, Nat.zero_add] at hx154_0 | skip)
                                              replace p154 := eq_true p154
                                              replace q154 := eq_true q154
                                              have p155 : 0 ≤ (x10_2 : Int) := of_decide_eq_true (by first | (with_reducible assumption) | assumption)
                                              have q155 : x10_2 < (l0.length : Int) := of_decide_eq_true (by first | (with_reducible assumption) | assumption)
                                              obtain ⟨ad155, A155_0, c155_0, e155, hx155_0, hx155_1, hl155_0, hi155_0⟩ := at_T37 HR0.out x10_2 p155 q155
                                              obtain rfl : ad153 = ad155 := (by injection e155)
                                              replace hx155_0 := (HB.out.cell (World.block_lt_of_cell? w _ hx155_0)).trans hx155_0
                                              replace hx155_1 := (HB.out.cell (World.block_lt_of_cell? w _ hx155_1)).trans hx155_1
                                              have HR155_0 := Aside0.mk hi155_0
                                              have HC155_0 := Aside0.mk hl155_0
                                              clear hi155_0 hl155_0
                                              replace p155 := eq_true p155
                                              replace q155 := eq_true q155
                                              have ea_ := Option.some.inj (hx153_0.symm.trans hx155_0)
                                              injection ea_ with ea_ en_ ec_
                                              subst ea_
                                              subst ec_
                                              clear en_
                                              have p162 : 0 ≤ (x9_1 : Int) := of_decide_eq_true (by first | (with_reducible assumption) | assumption)
                                              have q162 : x9_1 < (x8_2.length : Int) := of_decide_eq_true (by first | (with_reducible assumption) | assumption)
                                              obtain ⟨ad162, e162, hx162_0⟩ := Kd.at_int (Kd.R_reads' HO_8.out).2.2 x9_1 p162 q162
                                              obtain rfl : (⟨go12, 0, none⟩ : Addr) = ad162 := (by injection e162)
                                              (first | simp only [add_plain] at hx162_0 | simp only [add_at] at hx162_0 | simp only [Addr.add, Nat.zero_add] at hx162_0 | skip)
                                              replace p162 := eq_true p162
                                              replace q162 := eq_true q162
                                              have p164 : 0 ≤ (x9_1 : Int) := of_decide_eq_true (by first | (with_reducible assumption) | assumption)
                                              have q164 : x9_1 < (x8_2.length : Int) := of_decide_eq_true (by first | (with_reducible assumption) | assumption)
                                              obtain ⟨ad164, e164, hx164_0⟩ := Kd.at_int (Kd.R_reads' HO_8.out).2.2 x9_1 p164 q164
                                              obtain rfl : (⟨go12, 0, none⟩ : Addr) = ad164 := (by injection e164)
                                              (first | simp only [add_plain] at hx164_0 | simp only [add_at] at hx164_0 | simp only [Addr.add, Nat.zero_add] at hx164_0 | skip)
                                              replace p164 := eq_true p164
                                              replace q164 := eq_true q164
                                              go_wp2
                                              repeat (go_quiet (fail); try go_wp2)
                                              (try simp only [← hl8_2])
                                              go_roundg kj15
                                              case measure => have := HK1.out; have := HK2.out; have := HJ15.out; omega
                                              case rel => exact ⟨(x8_2), (wrap64 (x10_2 + 1)), (by first | rfl | (simp; done) | (simp [*]; done)), H', ⟨by have := HK1.out; have := HK2.out; have := HJ15.out; omega⟩, ⟨by (try simp only [hl8_2]); (with_reducible repeat (first | apply Kd.R_alloc | apply Kd.R_drewN | apply Kd.R_drew)); exact HO_8.out⟩, ⟨by repeat (first | (with_reducible first | exact HB.out | apply below_alloc | apply pw_below_drewN | apply below_drew1) | exact HB.out)⟩⟩
                                        · rw [if_neg c43] at H
                                          exact absurd H (by simp)
                                      · rw [if_neg c42] at H
                                        exact absurd H (by simp)
                                  · rw [if_neg c30] at H
                                    exact absurd H (by simp)
                                · rw [if_neg c29] at H
                                  exact absurd H (by simp)
                              · rw [if_neg c27] at H
                                exact absurd H (by simp)
                            · rw [if_neg c26] at H
                              exact absurd H (by simp)
                    · rw [if_neg c15] at H
                      have c15b0 : decide (x10_2 < (l0.length : Int)) = false := decide_eq_false c15
                      clear c15
                      have H' := Aside0.mk H
                      clear H
                      go_wp2
                      repeat (go_quiet (fail); try go_wp2)
                      (try simp only [← hl8_2])
                      go_roundg k2
                      case measure => have := HK1.out; have := HK2.out; omega
                      case rel => exact ⟨(x8_2), (wrap64 (x9_1 - 1)), (by first | rfl | (simp; done) | (simp [*]; done)), H', ⟨by have := HK1.out; have := HK2.out; omega⟩, ⟨by (try simp only [hl8_2]); (with_reducible repeat (first | apply Kd.R_alloc | apply Kd.R_drewN | apply Kd.R_drew)); exact HO_8.out⟩, ⟨by repeat (first | (with_reducible first | exact HB.out | apply below_alloc | apply pw_below_drewN | apply below_drew1) | exact HB.out)⟩⟩
              · rw [if_neg c11] at H
                exact absurd H (by simp)
            · rw [if_neg c10] at H
              exact absurd H (by simp)
          · rw [if_neg c9] at H
            have c9b0 : decide (0 ≤ x9_1) = false := decide_eq_false c9
            clear c9
            obtain rfl := Option.some.inj H
            go_wp2
            repeat (go_quiet (fail); try go_wp2)
            go_ret
            exact ⟨_, by first | rfl | (simp [errW_none, errW_some] <;> rfl) | (simp only [← hji4]; first | rfl | (simp [errW_none, errW_some] <;> rfl)) | (simp [*, errW_none, errW_some] <;> rfl), by (with_reducible repeat (first | apply Kd.R_alloc | apply Kd.R_drewN | apply Kd.R_drew)); exact HO_8.out, by repeat (first | (with_reducible first | exact HB.out | apply below_alloc | apply pw_below_drewN | apply below_drew1) | exact HB.out)⟩
    · rw [if_neg c6] at H
      exact absurd H (by simp)
  · rw [if_neg c5] at H
    exact absurd H (by simp)

theorem spec_l2Same_ev (a b : List Int) (hl : a.length ≤ 1000000000000) : Ev (fun k => spec_l2Same.f k a b) (a == b) := by
  unfold spec_l2Same.f
  by_cases hlen : (a.length : Int) = (b.length : Int)
  · refine Ev.pos hlen ?_
    have := Ev.over (0 : Int) a (fun k (_ : Unit) i => spec_l2Same.l0 k a b i) (fun _ rest => rest == b.drop (a.length - rest.length)) (fun _ _ => True) (by
      intro s _
      refine Ev.succ ?_
      simp only [spec_l2Same.l0]
      refine Ev.eqr (Ev.neg (by omega) (Ev.now _)) ?_
      have : b.drop a.length = [] := List.drop_eq_nil_of_le (by omega)
      simp [this]) (by
      intro s i rest _ hi hdr ih
      have hrl : rest.length + 1 + i = a.length := by
        have := congrArg List.length hdr
        simp at this; omega
      refine Ev.succ ?_
      simp only [spec_l2Same.l0]
      rw [w64 (by omega) (by omega)]
      refine Ev.pos (by omega) (Ev.pos (by omega) (Ev.pos (by omega) ?_))
      have hra : rd a (i : Int) = a.getD i 0 := rfl
      have hrb : rd b (i : Int) = b.getD i 0 := rfl
      rw [hra, hrb]
      have e2 : a.length - (a.getD i 0 :: rest).length = i := by simp; omega
      have e1 : a.length - rest.length = i + 1 := by omega
      have e3 : b.drop i = b.getD i 0 :: b.drop (i + 1) := by
        rw [List.drop_eq_getElem_cons (by omega), List.getD_eq_getElem?_getD, List.getElem?_eq_getElem (by omega)]; rfl
      rw [e2, e3]
      have ih := ih () trivial
      rw [e1] at ih
      by_cases h : a.getD i 0 = b.getD i 0
      · refine Ev.pos h (Ev.eqr ih ?_)
        rw [h, Bool.eq_iff_iff]; simp
      · refine Ev.neg h (Ev.eqr (Ev.now _) ?_)
        symm; rw [beq_eq_false_iff_ne]; intro hc; exact h (List.cons.inj hc).1) 0 () (Nat.zero_le _) trivial
    simpa using this
  · refine Ev.neg hlen (Ev.eqr (Ev.now _) ?_)
    symm; rw [beq_eq_false_iff_ne]; rintro rfl; exact hlen rfl
theorem spec_l6fOne_ev (x : S37) (hl : x.f0.length ≤ 1000000000000) : Ev (fun k => spec_l6fOne.f k x.f0 x.f1) (fOk x) := by
  unfold spec_l6fOne.f
  have := Ev.over (0 : Int) x.f0 (fun k (_ : Unit) i => spec_l6fOne.l0 k i x.f0 x.f1) (fun _ rest => rest.all (inR (-7) 7) && (decide (1 ≤ (x.f0.length : Int) ∧ (x.f0.length : Int) ≤ 5) && decide (1 ≤ x.f1 ∧ x.f1 ≤ 9))) (fun _ _ => True) (by
    intro s _
    refine Ev.succ ?_
    simp only [spec_l6fOne.l0, List.all_nil, Bool.true_and]
    refine Ev.neg (by omega) (Ev.conb (spec_l6In_eq _ _ _) ?_)
    by_cases h : 1 ≤ (x.f0.length : Int) ∧ (x.f0.length : Int) ≤ 5
    · rw [decide_eq_true h]
      exact Ev.pos rfl (Ev.conb (spec_l6In_eq _ _ _) (Ev.now _))
    · rw [decide_eq_false h]
      exact Ev.neg (by simp) (Ev.now _)) (by
    intro s i rest _ hi _ ih
    refine Ev.succ ?_
    simp only [spec_l6fOne.l0, List.all_cons]
    rw [w64 (by omega) (by omega)]
    refine Ev.pos (by omega) (Ev.pos (by omega) (Ev.conb (spec_l6In_eq _ _ _) ?_))
    have hrd : rd x.f0 (i : Int) = x.f0.getD i 0 := rfl
    rw [hrd]
    show Ev _ ((decide (-7 ≤ x.f0.getD i 0 ∧ x.f0.getD i 0 ≤ 7) && _) && _)
    by_cases h : -7 ≤ x.f0.getD i 0 ∧ x.f0.getD i 0 ≤ 7
    · rw [decide_eq_true h]
      exact Ev.pos rfl (ih () trivial)
    · rw [decide_eq_false h]
      exact Ev.neg (by simp) (Ev.now _)) 0 () (Nat.zero_le _) trivial
  refine Ev.eqr (by simpa using this) ?_
  unfold fOk
  cases x.f0.all (inR (-7) 7) <;> simp
theorem spec_FormulasValid_ev (l : List S37) (hll : l.length ≤ 1000000000000) (hl : ∀ x ∈ l, x.f0.length ≤ 1000000000000) : Ev (fun k => spec_FormulasValid.f k l) (fsOk l) := by
  unfold spec_FormulasValid.f
  have := Ev.over z37 l (fun k (_ : Unit) i => spec_FormulasValid.l0 k l i) (fun _ rest => goF (l.take (l.length - rest.length)) rest && decide ((l.length : Int) ≤ 8)) (fun _ _ => True) (by
    intro s _
    refine Ev.succ ?_
    simp only [spec_FormulasValid.l0, goF, Bool.true_and]
    exact Ev.neg (by omega) (Ev.now _)) (by
    intro s i rest _ hi hdr ih
    have hrl : rest.length + 1 + i = l.length := by
      have := congrArg List.length hdr
      simp at this; omega
    have hm : l.getD i z37 ∈ l := by
      rw [List.getD_eq_getElem?_getD, List.getElem?_eq_getElem hi]; exact List.getElem_mem hi
    have hx := hl _ hm
    refine Ev.succ ?_
    simp only [spec_FormulasValid.l0]
    refine Ev.pos (by omega) (Ev.pos (by omega) ?_)
    have hrd : rd_T37 l (i : Int) = l.getD i z37 := rfl
    have e2 : l.length - (l.getD i z37 :: rest).length = i := by simp; omega
    have e1 : l.length - rest.length = i + 1 := by omega
    have ih := ih () trivial
    rw [e1, take_rd l i hi] at ih
    rw [e2]
    rw [← hrd] at hx ih ⊢
    simp only [goF]
    refine Ev.bind (spec_l6fOne_ev _ hx) ?_
    cases hf : fOk (rd_T37 l (i : Int))
    · exact Ev.neg (by simp) (Ev.now _)
    refine Ev.pos rfl ?_
    simp only [Bool.true_and]
    have htl : (l.take i).length = i := by simp; omega
    have inner := Ev.over z37 (l.take i) (fun k (_ : Unit) j => spec_FormulasValid.l1 k l i j) (fun _ rest' => (!(rest'.any (fun y => y.f0 == (rd_T37 l (i : Int)).f0)) && goF (l.take i ++ [rd_T37 l (i : Int)]) rest) && decide ((l.length : Int) ≤ 8)) (fun _ _ => True) (by
      intro s _
      refine Ev.succ ?_
      simp only [spec_FormulasValid.l1]
      refine Ev.neg (by omega) ?_
      rw [w64 (by omega) (by omega)]
      simpa using ih) (by
      intro s j rest' _ hj _ ih'
      have hjm : (l.take i).getD j z37 ∈ l := by
        rw [List.getD_eq_getElem?_getD, List.getElem?_eq_getElem hj]; exact List.mem_of_mem_take (List.getElem_mem hj)
      have hxj := hl _ hjm
      refine Ev.succ ?_
      simp only [spec_FormulasValid.l1]
      refine Ev.pos (by omega) (Ev.pos (by omega) (Ev.pos (by omega) (Ev.pos (by omega) (Ev.pos (by omega) ?_))))
      have hrd' : rd_T37 l (j : Int) = (l.take i).getD j z37 := by
        rw [List.getD_eq_getElem?_getD, List.getElem?_take, if_pos (by omega)]
        simp [rd_T37]
      rw [hrd']
      generalize (l.take i).getD j z37 = y at hxj
      refine Ev.bind (spec_l2Same_ev _ _ hx) ?_
      simp only [List.any_cons]
      have hcm : (y.f0 == (rd_T37 l (i : Int)).f0) = ((rd_T37 l (i : Int)).f0 == y.f0) := by rw [Bool.eq_iff_iff, beq_iff_eq, beq_iff_eq]; exact eq_comm
      rw [hcm]
      cases (rd_T37 l (i : Int)).f0 == y.f0
      · refine Ev.neg (by simp) ?_
        rw [w64 (by omega) (by omega)]
        simpa using ih' () trivial
      · exact Ev.pos rfl (Ev.now _)) 0 () (Nat.zero_le _) trivial
    simpa using inner) 0 () (Nat.zero_le _) trivial
  refine Ev.eqr (by simpa using this) ?_
  unfold fsOk
  rw [Bool.and_comm]

/-! the reference's counting of readings -/
theorem spec_l6fAt_ev (f : S37) (S : List Int) (i : Nat) (hi : i ≤ S.length) (hS : S.length ≤ 1000000) (hf : f.f0.length ≤ 1000000) : Ev (fun k => spec_l6fAt.f k f.f0 f.f1 S (i : Int)) (isPre f.f0 (S.drop i)) := by
  unfold spec_l6fAt.f isPre
  rw [w64 (by omega) (by omega)]
  by_cases h : (i : Int) + (f.f0.length : Int) ≤ (S.length : Int)
  · rw [decide_eq_true (by rw [List.length_drop]; omega : f.f0.length ≤ (S.drop i).length), Bool.true_and]
    refine Ev.pos h (Ev.pos (by omega) (Ev.pos (by omega) ?_))
    have e : ((S.take ((i : Int) + (f.f0.length : Int)).toNat).drop (i : Int).toNat) = (S.drop i).take f.f0.length := by
      have e1 : ((i : Int) + (f.f0.length : Int)).toNat = i + f.f0.length := by omega
      rw [e1, Int.toNat_natCast, List.drop_take]
      congr 1; omega
    rw [e]
    exact Ev.bind (spec_l2Same_ev _ _ (by rw [List.length_take, List.length_drop]; omega)) (Ev.now _)
  · rw [decide_eq_false (by rw [List.length_drop]; omega : ¬ f.f0.length ≤ (S.drop i).length)]
    exact Ev.neg h (Ev.now _)
theorem spec_l6fSteps_ev (S : List Int) (hS : S.length ≤ 1000000000000) : Ev (fun k => spec_l6fSteps.f k S) (decide (S.length ≤ 23) && S.all (inR (-20) 20)) := by
  unfold spec_l6fSteps.f
  have := Ev.over (0 : Int) S (fun k (_ : Unit) i => spec_l6fSteps.l0 k S i) (fun _ rest => rest.all (inR (-20) 20) && decide (S.length ≤ 23)) (fun _ _ => True) (by
    intro s _
    refine Ev.succ ?_
    simp only [spec_l6fSteps.l0]
    refine Ev.neg (by omega) (Ev.eqr (Ev.now _) ?_)
    simp only [List.all_nil, Bool.true_and]
    rw [Bool.eq_iff_iff]; simp; omega) (by
    intro s i rest _ hi _ ih
    refine Ev.succ ?_
    simp only [spec_l6fSteps.l0, List.all_cons]
    rw [w64 (by omega) (by omega)]
    refine Ev.pos (by omega) (Ev.pos (by omega) (Ev.conb (spec_l6In_eq _ _ _) ?_))
    have hrd : rd S (i : Int) = S.getD i 0 := rfl
    rw [hrd]
    show Ev _ ((decide (-20 ≤ S.getD i 0 ∧ S.getD i 0 ≤ 20) && _) && _)
    by_cases h : -20 ≤ S.getD i 0 ∧ S.getD i 0 ≤ 20
    · rw [decide_eq_true h]
      exact Ev.pos rfl (ih () trivial)
    · rw [decide_eq_false h]
      exact Ev.neg (by simp) (Ev.now _)) 0 () (Nat.zero_le _) trivial
  refine Ev.eqr (by simpa using this) ?_
  rw [Bool.and_comm]
theorem spec_l6fOk_ev (L : List S37) (S : List Int) (hll : L.length ≤ 1000000000000) (hl : ∀ x ∈ L, x.f0.length ≤ 1000000000000) (hS : S.length ≤ 1000000000000) : Ev (fun k => spec_l6fOk.f k L S) (okR L S) := by
  unfold spec_l6fOk.f okR
  refine Ev.bind (spec_FormulasValid_ev L hll hl) ?_
  cases fsOk L
  · exact Ev.neg (by simp) (Ev.now _)
  · refine Ev.pos rfl ?_
    rw [Bool.true_and]
    exact Ev.bind (spec_l6fSteps_ev S hS) (Ev.now _)

theorem getD_set_self {y : List Int} {i : Nat} (v : Int) (h : i < y.length) : (y.set i v).getD i 0 = v := by
  rw [List.getD_eq_getElem?_getD, List.getElem?_set_self h]; rfl
theorem getD_set_other {y : List Int} {i j : Nat} (v : Int) (h : i ≠ j) : (y.set i v).getD j 0 = y.getD j 0 := by
  rw [List.getD_eq_getElem?_getD, List.getElem?_set_ne h, ← List.getD_eq_getElem?_getD]
theorem ext_getD {a b : List Int} (h : a.length = b.length) (h' : ∀ j, j < a.length → a.getD j 0 = b.getD j 0) : a = b := by
  apply List.ext_getElem h
  intro j h1 h2
  have := h' j h1
  rw [List.getD_eq_getElem?_getD, List.getD_eq_getElem?_getD, List.getElem?_eq_getElem h1, List.getElem?_eq_getElem h2] at this
  exact this

/-! how much a reader finds at most -/
theorem goF_pw : ∀ {l acc : List S37}, goF acc l = true → (∀ a ∈ acc, ∀ b ∈ l, a.f0 ≠ b.f0) ∧ l.Pairwise (fun a b => a.f0 ≠ b.f0)
  | [], acc, _ => ⟨by simp, List.Pairwise.nil⟩
  | x :: xs, acc, h => by
    simp only [goF, Bool.and_eq_true, Bool.not_eq_true', List.any_eq_false, beq_iff_eq] at h
    obtain ⟨_, h1, h2⟩ := h
    obtain ⟨h3, h4⟩ := goF_pw h2
    refine ⟨fun a ha b hb => ?_, List.pairwise_cons.2 ⟨fun b hb => h3 x (by simp) b hb, h4⟩⟩
    rcases List.mem_cons.1 hb with rfl | hb
    · exact h1 a ha
    · exact h3 a (List.mem_append_left _ ha) b hb
def sumB (s : List Int) : List S37 → Nat
  | [] => 0
  | f :: fs => (if isPre f.f0 s = true then 2 ^ (s.length - f.f0.length) else 0) + sumB s fs
theorem sum_pow : ∀ (n : Nat) (ks : List Nat), ks.Nodup → (∀ k ∈ ks, 1 ≤ k ∧ k ≤ n) → (ks.map (fun k => 2 ^ (n - k))).sum + 1 ≤ 2 ^ n
  | 0, ks, _, h => by
    cases ks with
    | nil => simp
    | cons k ks => have := h k (by simp); omega
  | n + 1, ks, hn, h => by
    have key : ∀ l : List Nat, (∀ k ∈ l, k ≤ n) → (l.map (fun k => 2 ^ (n + 1 - k))).sum = 2 * (l.map (fun k => 2 ^ (n - k))).sum := by
      intro l
      induction l with
      | nil => intro _; rfl
      | cons k l ih =>
        intro hl
        have h1 := hl k (by simp)
        have e : n + 1 - k = (n - k) + 1 := by omega
        simp only [List.map_cons, List.sum_cons]
        rw [ih (fun k hk => hl k (by simp [hk])), e, Nat.pow_succ]; omega
    by_cases hm : n + 1 ∈ ks
    · have hp := List.perm_cons_erase hm
      have h1 := sum_pow n (ks.erase (n + 1)) (hn.erase _) (fun k hk => by
        have h2 := h k (List.mem_of_mem_erase hk)
        have : k ≠ n + 1 := fun e => by subst e; exact (List.Nodup.not_mem_erase hn) hk
        omega)
      have h2 := (hp.map (fun k => 2 ^ (n + 1 - k))).sum_nat
      rw [h2, List.map_cons, List.sum_cons, key _ (fun k hk => by
        have h2 := h k (List.mem_of_mem_erase hk)
        have : k ≠ n + 1 := fun e => by subst e; exact (List.Nodup.not_mem_erase hn) hk
        omega), Nat.sub_self, Nat.pow_succ]
      omega
    · rw [key _ (fun k hk => by have := h k hk; have : k ≠ n + 1 := fun e => hm (e ▸ hk); omega)]
      have h1 := sum_pow n ks hn (fun k hk => by have := h k hk; have : k ≠ n + 1 := fun e => hm (e ▸ hk); omega)
      rw [Nat.pow_succ]; omega
theorem isPre_take {p s : List Int} (h : isPre p s = true) : s.take p.length = p := by
  unfold isPre at h; simp at h; exact h.2
theorem sumB_eq (s : List Int) : ∀ L : List S37, sumB s L = (((L.filter (fun f => isPre f.f0 s)).map (fun f => f.f0.length)).map (fun k => 2 ^ (s.length - k))).sum
  | [] => rfl
  | f :: fs => by
    simp only [sumB]
    rw [sumB_eq s fs, List.filter_cons]
    cases isPre f.f0 s <;> simp
theorem sumB_le {s : List Int} {L : List S37} (hL : ∀ f ∈ L, 1 ≤ f.f0.length) (hp : L.Pairwise (fun a b => a.f0 ≠ b.f0)) : sumB s L ≤ 2 ^ s.length := by
  rw [sumB_eq]
  have h1 : ((L.filter (fun f => isPre f.f0 s)).map (fun f => f.f0.length)).Nodup := by
    rw [List.nodup_iff_pairwise_ne, List.pairwise_map]
    have h2 := hp.filter (fun f => isPre f.f0 s)
    refine List.Pairwise.imp_of_mem (fun {a b} ha hb h => ?_) h2
    intro e
    have h3 := isPre_take (List.mem_filter.1 ha).2
    have h4 := isPre_take (List.mem_filter.1 hb).2
    rw [e] at h3
    exact h (h3.symm.trans h4)
  have := sum_pow s.length _ h1 (fun k hk => by
    obtain ⟨f, hf, rfl⟩ := List.mem_map.1 hk
    obtain ⟨hf1, hf2⟩ := List.mem_filter.1 hf
    exact ⟨hL f hf1, isPre_len hf2⟩)
  omega
/-- A least sum, -1 for none. -/
def lA (c : S37 → Int) (g : List Int → Int) (s : List Int) : List S37 → Int → Int
  | [], a => a
  | f :: fs, a => if isPre f.f0 s = true then (if g (s.drop f.f0.length) < 0 then lA c g s fs a else lA c g s fs (if a < 0 ∨ g (s.drop f.f0.length) + c f < a then g (s.drop f.f0.length) + c f else a)) else lA c g s fs a
def oW (o : OutC) : Int := if o.f0 = 0 then -1 else o.f1
def oF (o : OutC) : Int := if o.f0 = 0 then -1 else o.f2
structure OBd (n : Nat) (o : OutC) : Prop where
  lo : 0 ≤ o.f0
  hi : o.f0 ≤ ((2 ^ n : Nat) : Int)
  w0 : o.f0 ≠ 0 → 0 ≤ o.f1
  w1 : o.f0 ≠ 0 → o.f1 ≤ 9 * (n : Int)
  f0 : o.f0 ≠ 0 → 0 ≤ o.f2
  f1 : o.f0 ≠ 0 → o.f2 ≤ (n : Int)
theorem OBd.oW {n : Nat} {o : OutC} (h : OBd n o) : -1 ≤ Pure.oW o ∧ Pure.oW o ≤ 9 * (n : Int) := by
  unfold Pure.oW
  by_cases hz : o.f0 = 0
  · rw [if_pos hz]; omega
  · rw [if_neg hz]; have := h.w0 hz; have := h.w1 hz; omega
theorem OBd.oF {n : Nat} {o : OutC} (h : OBd n o) : -1 ≤ Pure.oF o ∧ Pure.oF o ≤ (n : Int) := by
  unfold Pure.oF
  by_cases hz : o.f0 = 0
  · rw [if_pos hz]; omega
  · rw [if_neg hz]; have := h.f0 hz; have := h.f1 hz; omega
theorem outW_plain {n m : Nat} {o r : OutC} {f : S37} (hn : n ≤ 23) (hm : m + f.f0.length ≤ n) (hf : 1 ≤ f.f0.length) (hw : 1 ≤ f.f1 ∧ f.f1 ≤ 9) (h1 : OBd n o) (h2 : OBd m r) (hr : r.f0 ≠ 0) (hs : o.f0 + r.f0 ≤ ((2 ^ n : Nat) : Int)) :
    OBd n (outW o f r) ∧ (outW o f r).f0 = o.f0 + r.f0 ∧ oW (outW o f r) = (if oW o < 0 ∨ oW r + f.f1 < oW o then oW r + f.f1 else oW o) ∧ oF (outW o f r) = (if oF o < 0 ∨ oF r + 1 < oF o then oF r + 1 else oF o) := by
  have hp : (2 : Nat) ^ n ≤ 2 ^ 23 := Nat.pow_le_pow_right (by omega) hn
  have hp' : (2 : Nat) ^ 23 = 8388608 := rfl
  obtain ⟨a1, a2, a3, a4, a5, a6⟩ := h1
  obtain ⟨b1, b2, b3, b4, b5, b6⟩ := h2
  have b3 := b3 hr; have b4 := b4 hr; have b5 := b5 hr; have b6 := b6 hr
  have hne : o.f0 + r.f0 ≠ 0 := by omega
  unfold outW
  by_cases h : o.f0 > 0
  · have hz : o.f0 ≠ 0 := by omega
    have a3 := a3 hz; have a4 := a4 hz; have a5 := a5 hz; have a6 := a6 hz
    rw [if_pos h, w64 (x := o.f0 + r.f0) (by omega) (by omega), w64 (x := f.f1 + r.f1) (by omega) (by omega), w64 (x := 1 + r.f2) (by omega) (by omega)]
    have m1 := mn_le (f.f1 + r.f1) o.f1
    have m2 := mn_le (1 + r.f2) o.f2
    refine ⟨⟨by simp only []; omega, hs, fun _ => by simp only []; omega, fun _ => by simp only []; omega, fun _ => by simp only []; omega, fun _ => by simp only []; omega⟩, rfl, ?_, ?_⟩
    · unfold oW
      simp only []
      rw [if_neg hne, if_neg hz, if_neg hr]
      by_cases hc : r.f1 + f.f1 < o.f1
      · rw [if_pos (.inr hc)]; omega
      · rw [if_neg (by omega)]; omega
    · unfold oF
      simp only []
      rw [if_neg hne, if_neg hz, if_neg hr]
      by_cases hc : r.f2 + 1 < o.f2
      · rw [if_pos (.inr hc)]; omega
      · rw [if_neg (by omega)]; omega
  · have hz : o.f0 = 0 := by omega
    rw [if_neg h, w64 (x := o.f0 + r.f0) (by omega) (by omega), w64 (x := f.f1 + r.f1) (by omega) (by omega), w64 (x := 1 + r.f2) (by omega) (by omega)]
    refine ⟨⟨by simp only []; omega, hs, fun _ => by simp only []; omega, fun _ => by simp only []; omega, fun _ => by simp only []; omega, fun _ => by simp only []; omega⟩, rfl, ?_, ?_⟩
    · unfold oW
      simp only []
      rw [if_neg hne, if_pos hz, if_neg hr, if_pos (.inl (by omega))]; omega
    · unfold oF
      simp only []
      rw [if_neg hne, if_pos hz, if_neg hr, if_pos (.inl (by omega))]; omega
theorem rdA_plain {rec : List Int → OutC} {s : List Int} (hs : s.length ≤ 23) (hrec : ∀ k, 1 ≤ k → k ≤ s.length → OBd (s.length - k) (rec (s.drop k))) :
    ∀ (L : List S37) (acc : OutC), (∀ f ∈ L, 1 ≤ f.f0.length ∧ 1 ≤ f.f1 ∧ f.f1 ≤ 9) → OBd s.length acc → acc.f0 + (sumB s L : Int) ≤ ((2 ^ s.length : Nat) : Int) →
      OBd s.length (rdA rec s L acc) ∧ oW (rdA rec s L acc) = lA (fun f => f.f1) (fun t => oW (rec t)) s L (oW acc) ∧ oF (rdA rec s L acc) = lA (fun _ => 1) (fun t => oF (rec t)) s L (oF acc)
  | [], acc, _, h, _ => ⟨h, rfl, rfl⟩
  | f :: fs, acc, hL, h, hb => by
    have hf := hL f (by simp)
    have hL' := fun g hg => hL g (List.mem_cons_of_mem _ hg)
    simp only [rdA, lA, sumB] at hb ⊢
    by_cases hp : isPre f.f0 s = true
    · rw [if_pos hp] at hb
      rw [if_pos hp, if_pos hp, if_pos hp]
      have hl := isPre_len hp
      have hr := hrec f.f0.length hf.1 hl
      generalize rec (s.drop f.f0.length) = r at hr ⊢
      rw [Int.natCast_add] at hb
      have hbr := hr.hi
      by_cases hz : r.f0 = 0
      · have e1 : oW r = -1 := if_pos hz
        have e2 : oF r = -1 := if_pos hz
        rw [if_pos hz, if_pos (by rw [e1]; omega), if_pos (by rw [e2]; omega)]
        have := hr.lo
        exact rdA_plain hs hrec fs acc hL' h (by omega)
      · have e1 : ¬ oW r < 0 := by unfold oW; rw [if_neg hz]; have := hr.w0 hz; omega
        have e2 : ¬ oF r < 0 := by unfold oF; rw [if_neg hz]; have := hr.f0 hz; omega
        rw [if_neg hz, if_neg e1, if_neg e2]
        obtain ⟨o1, o2, o3, o4⟩ := outW_plain (n := s.length) (m := s.length - f.f0.length) (o := acc) (r := r) (f := f) hs (by omega) hf.1 hf.2 h hr hz (by omega)
        rw [← o3, ← o4]
        exact rdA_plain hs hrec fs (outW acc f r) hL' o1 (by rw [o2]; omega)
    · rw [if_neg hp] at hb
      rw [if_neg hp, if_neg hp, if_neg hp]
      exact rdA_plain hs hrec fs acc hL' h (by omega)
/-- What valid formulas are good for. -/
structure FsV (L : List S37) : Prop where
  len : L.length ≤ 8
  one : ∀ f ∈ L, 1 ≤ f.f0.length ∧ f.f0.length ≤ 5
  wt : ∀ f ∈ L, 1 ≤ f.f1 ∧ f.f1 ≤ 9
  pw : L.Pairwise (fun a b => a.f0 ≠ b.f0)
theorem FsV.of {L : List S37} (h : fsOk L = true) : FsV L :=
  ⟨fsOk_len h, fun f hf => fOk_len (fsOk_all h f hf), fun f hf => fOk_weight (fsOk_all h f hf), (goF_pw (acc := []) (by unfold fsOk at h; simp at h; exact h.2)).2⟩
theorem rdO_bd {L : List S37} (hv : FsV L) : ∀ (n : Nat) (s : List Int), s.length = n → n ≤ 23 → OBd n (rdO L s) := by
  intro n
  induction n using Nat.strongRecOn with
  | ind n ih =>
    intro s hs hn
    by_cases hne : s = []
    · subst hne
      simp at hs
      subst hs
      rw [rdO_nil]
      exact ⟨by simp, by simp, by simp, by simp, by simp, by simp⟩
    · rw [rdO_step (fun f hf => (hv.one f hf).1) hne]
      subst hs
      refine (rdA_plain hn (fun k hk hk' => ih (s.length - k) (by omega) _ (by rw [List.length_drop]) (by omega)) L ⟨0, 0, 0⟩ (fun f hf => ⟨(hv.one f hf).1, hv.wt f hf⟩) ⟨by simp, Int.natCast_nonneg _, by simp, by simp, by simp, by simp⟩ ?_).1
      have := sumB_le (s := s) (fun f hf => (hv.one f hf).1) hv.pw
      simp only [Int.zero_add]
      exact_mod_cast this
theorem rdO_least {L : List S37} (hv : FsV L) {s : List Int} (hs : s.length ≤ 23) (hne : s ≠ []) :
    oW (rdO L s) = lA (fun f => f.f1) (fun t => oW (rdO L t)) s L (-1) ∧ oF (rdO L s) = lA (fun _ => 1) (fun t => oF (rdO L t)) s L (-1) := by
  have h := rdA_plain (rec := rdO L) (s := s) hs (fun k hk hk' => rdO_bd hv (s.length - k) _ (by rw [List.length_drop]) (by omega)) L ⟨0, 0, 0⟩ (fun f hf => ⟨(hv.one f hf).1, hv.wt f hf⟩) ⟨by simp, Int.natCast_nonneg _, by simp, by simp, by simp, by simp⟩ (by
    have := sumB_le (s := s) (fun f hf => (hv.one f hf).1) hv.pw
    simp only [Int.zero_add]
    exact_mod_cast this)
  rw [rdO_step (fun f hf => (hv.one f hf).1) hne]
  exact ⟨h.2.1, h.2.2⟩

/-! the reference's least weights -/
theorem spec_l6fLeast_inner {L : List S37} {S : List Int} (hv : FsV L) (hS : S.length ≤ 23) (one : Bool) (i : Nat) (hi : i < S.length) (R : List Int) (c : S37 → Int) (hc : ∀ f ∈ L, c f = (if one = true then 1 else f.f1))
    (W : Nat → Int) (hWb : ∀ j, j ≤ S.length → -1 ≤ W j ∧ W j ≤ 9 * (S.length : Int)) (g : List Int → Int) (hg : ∀ j, W j = g (S.drop j)) (hWi : W i = lA c g (S.drop i) L (-1))
    (hnext : ∀ y : List Int, y.length = S.length + 1 → (∀ j, i ≤ j → j ≤ S.length → y.getD j 0 = W j) → Ev (fun k => spec_l6fLeast.l0 k L S one y ((i : Int) - 1)) R)
    (y : List Int) (hy : y.length = S.length + 1) (hy1 : ∀ j, i < j → j ≤ S.length → y.getD j 0 = W j) (hy2 : y.getD i 0 = -1) :
    Ev (fun k => spec_l6fLeast.l1 k L S one y (i : Int) 0) R := by
  have hll := hv.len
  have := Ev.over z37 L (fun k (y : List Int) q => spec_l6fLeast.l1 k L S one y (i : Int) q) (fun _ _ => R) (fun q y => y.length = S.length + 1 ∧ (∀ j, i < j → j ≤ S.length → y.getD j 0 = W j) ∧ lA c g (S.drop i) (L.drop q) (y.getD i 0) = W i) (by
    intro y ⟨h1, h2, h4⟩
    rw [List.drop_length] at h4
    simp only [lA] at h4
    refine Ev.succ ?_
    simp only [spec_l6fLeast.l1]
    refine Ev.neg (by omega) ?_
    rw [w64 (by omega) (by omega)]
    exact hnext y h1 (fun j hj hj' => by rcases Nat.lt_or_eq_of_le hj with h | h; exact h2 j h hj'; rw [← h]; exact h4)) (by
    intro y q rest ⟨h1, h2, h4⟩ hq hdr ih
    have hm : L.getD q z37 ∈ L := by
      rw [List.getD_eq_getElem?_getD, List.getElem?_eq_getElem hq]; exact List.getElem_mem hq
    have hf := hv.one _ hm
    have hw := hv.wt _ hm
    have hcf := hc _ hm
    have hrest : rest = L.drop (q + 1) := by
      rw [List.drop_eq_getElem_cons hq] at hdr
      exact ((List.cons.inj hdr).2).symm
    rw [hdr] at h4
    simp only [lA] at h4
    refine Ev.succ ?_
    simp only [spec_l6fLeast.l1]
    have hrd : rd_T37 L (q : Int) = L.getD q z37 := rfl
    rw [hrd]
    obtain ⟨f, hfe⟩ : ∃ f, f = L.getD q z37 := ⟨_, rfl⟩
    rw [← hfe] at hf h4 hw hcf hrd ⊢
    refine Ev.pos (by omega) (Ev.pos (by omega) (Ev.bind (spec_l6fAt_ev f S i (by omega) (by omega) (by omega)) ?_))
    cases hp : isPre f.f0 (S.drop i)
    · rw [if_neg (by rw [hp]; simp)] at h4
      refine Ev.neg (by simp) (Ev.succ ?_)
      simp only [spec_l6fLeast.j2]
      rw [w64 (x := (q : Int) + 1) (by omega) (by omega)]
      refine Ev.pos trivial (ih y ⟨h1, h2, ?_⟩)
      rw [← hrest]; exact h4
    · rw [if_pos hp] at h4
      have hl := isPre_len hp
      rw [List.length_drop] at hl
      have e2 : rd y ((i : Int) + (f.f0.length : Int)) = W (i + f.f0.length) := by
        have : ((i : Int) + (f.f0.length : Int)).toNat = i + f.f0.length := by omega
        unfold rd
        rw [this]; exact h2 _ (by omega) (by omega)
      have e1 : rd y (i : Int) = y.getD i 0 := rfl
      have hWb := hWb (i + f.f0.length) (by omega)
      rw [List.drop_drop, ← hg] at h4
      rw [w64 (x := (i : Int) + (f.f0.length : Int)) (by omega) (by omega), e2]
      refine Ev.pos rfl (Ev.pos (by omega) (Ev.pos (by omega) (Ev.succ ?_)))
      simp only [spec_l6fLeast.j2]
      rw [hrd, w64 (x := (i : Int) + (f.f0.length : Int)) (by omega) (by omega), e2, e1, w64 (x := (q : Int) + 1) (by omega) (by omega)]
      by_cases hneg : W (i + f.f0.length) < 0
      · rw [if_pos hneg] at h4
        refine Ev.pos (decide_eq_true hneg) (ih y ⟨h1, h2, ?_⟩)
        rw [← hrest]; exact h4
      · rw [if_neg hneg] at h4
        rw [w64 (x := W (i + f.f0.length) + 1) (by omega) (by omega), w64 (x := W (i + f.f0.length) + f.f1) (by omega) (by omega)]
        refine Ev.neg (by rw [decide_eq_false hneg]; simp) (Ev.pos (by omega) (Ev.pos (by omega) (Ev.pos (by omega) (Ev.pos (by omega) ?_))))
        have put : ∀ x : Int, x = W (i + f.f0.length) + c f → (y.getD i 0 < 0 ∨ x < y.getD i 0) → Ev (fun k => spec_l6fLeast.l1 k L S one (y.set i x) (i : Int) ((q : Int) + 1)) R := by
          intro x hx hlt
          subst hx
          rw [if_pos hlt] at h4
          refine ih _ ⟨by rw [List.length_set]; exact h1, fun j hj hj' => by rw [getD_set_other _ (by omega)]; exact h2 j hj hj', ?_⟩
          rw [getD_set_self _ (by omega), ← hrest]
          exact h4
        have keep : ∀ x : Int, x = W (i + f.f0.length) + c f → ¬ (y.getD i 0 < 0 ∨ x < y.getD i 0) → Ev (fun k => spec_l6fLeast.l1 k L S one y (i : Int) ((q : Int) + 1)) R := by
          intro x hx hlt
          subst hx
          rw [if_neg hlt] at h4
          exact ih y ⟨h1, h2, by rw [← hrest]; exact h4⟩
        cases one
        · rw [if_neg (by simp)] at hcf
          refine Ev.neg (by simp) (Ev.pos (by omega) (Ev.pos (by omega) ?_))
          rw [Int.toNat_natCast]
          by_cases a1 : y.getD i 0 < 0
          · exact Ev.pos a1 (put _ (by rw [hcf]) (.inl a1))
          · refine Ev.neg a1 ?_
            by_cases a2 : W (i + f.f0.length) + f.f1 < y.getD i 0
            · exact Ev.pos a2 (put _ (by rw [hcf]) (.inr a2))
            · exact Ev.neg a2 (keep _ (by rw [hcf]) (by omega))
        · rw [if_pos rfl] at hcf
          refine Ev.pos rfl (Ev.pos (by omega) (Ev.pos (by omega) ?_))
          rw [Int.toNat_natCast]
          by_cases a1 : y.getD i 0 < 0
          · exact Ev.pos a1 (put _ (by rw [hcf]) (.inl a1))
          · refine Ev.neg a1 ?_
            by_cases a2 : W (i + f.f0.length) + 1 < y.getD i 0
            · exact Ev.pos a2 (put _ (by rw [hcf]) (.inr a2))
            · exact Ev.neg a2 (keep _ (by rw [hcf]) (by omega))) 0 y (Nat.zero_le _) ⟨hy, hy1, by rw [hy2, List.drop_zero]; exact hWi.symm⟩
  simpa using this
def oL (one : Bool) (o : OutC) : Int := if one = true then oF o else oW o
def leastL (L : List S37) (S : List Int) (one : Bool) : List Int := (List.range (S.length + 1)).map (fun j => oL one (rdO L (S.drop j)))
theorem leastL_get {L : List S37} {S : List Int} {one : Bool} {j : Nat} (h : j ≤ S.length) : (leastL L S one).getD j 0 = oL one (rdO L (S.drop j)) := by
  unfold leastL
  rw [List.getD_eq_getElem?_getD, List.getElem?_map, List.getElem?_range (by omega)]; rfl
theorem leastL_len {L : List S37} {S : List Int} {one : Bool} : (leastL L S one).length = S.length + 1 := by unfold leastL; simp
theorem oL_bd {L : List S37} (hv : FsV L) {S : List Int} (hS : S.length ≤ 23) (one : Bool) (j : Nat) (_hj : j ≤ S.length) : -1 ≤ oL one (rdO L (S.drop j)) ∧ oL one (rdO L (S.drop j)) ≤ 9 * (S.length : Int) := by
  have h := rdO_bd hv (S.length - j) (S.drop j) (by rw [List.length_drop]) (by omega)
  have h1 := h.oW
  have h2 := h.oF
  unfold oL
  cases one
  · rw [if_neg (by simp)]; omega
  · rw [if_pos rfl]; omega
theorem oL_nil (L : List S37) (one : Bool) : oL one (rdO L []) = 0 := by rw [rdO_nil]; cases one <;> simp [oL, oF, oW]
theorem spec_l6fLeast_ev {L : List S37} {S : List Int} (hv : FsV L) (hS : S.length ≤ 23) (one : Bool) : Ev (fun k => spec_l6fLeast.f k L S one) (leastL L S one) := by
  have hlo : ∀ i, i < S.length → oL one (rdO L (S.drop i)) = lA (fun f => if one = true then 1 else f.f1) (fun t => oL one (rdO L t)) (S.drop i) L (-1) := by
    intro i hi
    have h := rdO_least hv (s := S.drop i) (by rw [List.length_drop]; omega) (by intro h; have := congrArg List.length h; rw [List.length_drop, List.length_nil] at this; omega)
    unfold oL
    cases one
    · simp only [Bool.false_eq_true, if_false]; exact h.1
    · simp only [if_true]; exact h.2
  have key : ∀ m, m ≤ S.length → ∀ y : List Int, y.length = S.length + 1 → (∀ j, m ≤ j → j ≤ S.length → y.getD j 0 = oL one (rdO L (S.drop j))) → Ev (fun k => spec_l6fLeast.l0 k L S one y ((m : Int) - 1)) (leastL L S one) := by
    intro m
    induction m with
    | zero =>
      intro _ y h1 h2
      refine Ev.succ ?_
      simp only [spec_l6fLeast.l0]
      refine Ev.neg (by omega) (Ev.eqr (Ev.now _) ?_)
      refine ext_getD (by rw [h1, leastL_len]) (fun j hj => ?_)
      rw [h2 j (Nat.zero_le _) (by omega), leastL_get (by omega)]
    | succ m ih =>
      intro hm y h1 h2
      refine Ev.succ ?_
      simp only [spec_l6fLeast.l0]
      have e : ((m + 1 : Nat) : Int) - 1 = (m : Int) := by omega
      rw [e, Int.toNat_natCast]
      refine Ev.pos (by omega) (Ev.pos (by omega) (Ev.pos (by omega) ?_))
      exact spec_l6fLeast_inner hv hS one m (by omega) _ (fun f => if one = true then 1 else f.f1) (fun _ _ => rfl) (fun j => oL one (rdO L (S.drop j))) (fun j hj => oL_bd hv hS one j hj) (fun t => oL one (rdO L t)) (fun _ => rfl) (hlo m (by omega)) (fun y h1 h2 => ih (by omega) y h1 h2) _ (by rw [List.length_set]; exact h1) (fun j hj hj' => by rw [getD_set_other _ (by omega)]; exact h2 j (by omega) hj') (by rw [getD_set_self _ (by omega)])
  unfold spec_l6fLeast.f
  rw [w64 (x := (S.length : Int) + 1) (by omega) (by omega), w64 (x := (S.length : Int) - 1) (by omega) (by omega)]
  have e : ((S.length : Int) + 1).toNat = S.length + 1 := by omega
  rw [e]
  refine Ev.pos (by omega) (Ev.pos (by omega) ?_)
  refine key S.length (Nat.le_refl _) _ (by simp) (fun j hj hj' => ?_)
  obtain rfl : j = S.length := by omega
  rw [List.drop_length, oL_nil, List.getD_eq_getElem?_getD, List.getElem?_replicate, if_pos (by omega)]; rfl

end Go.Proofs.Ytkmganbgnjphfaa.Pure
