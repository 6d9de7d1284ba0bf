/- Functions that the law FnReadFew reaches: written by a program of this claim (the kit's print over stand-ins for some functions). -/
import Derived.Test.YtkmganbgnjphfaaGFnReadFewg0
import Derived.Test.YtkmganbgnjphfaaGFnReadFewg25
namespace Go.Proofs.Ytkmganbgnjphfaa.PFnReadFew
open Go.RowKit Go.Proofs.YtkmganbgnjphfaaW.PrintWords Go.Proofs.YtkmganbgnjphfaaW.PrintLast Go.Proofs.YtkmganbgnjphfaaW.PrintMore
attribute [local go_sem] max2_int min2_int max_two min_two max_three min_three max_four min_four   -- for this text's walks alone
set_option linter.unusedVariables false
set_option linter.unusedSimpArgs false

/-! ### spec_l6fLeast: as the print has it, but the cut list has a name of its own -/
mutual
def spec_l6fLeast.l0 : Nat → List (S37) → List Int → Bool → List Int → Int → Option (List Int)
  | 0, _, _, _, _, _ => none
  | k + 1, x0, x1, x2, x8, x9 => if x9 ≥ 0 then (if 0 ≤ x9 then (if x9 < (x8.length : Int) then (spec_l6fLeast.l1 k x0 x1 x2 (x8.set (x9 : Int).toNat (-1)) x9 0) else (none)) else (none)) else (some x8)
def spec_l6fLeast.l1 : Nat → List (S37) → List Int → Bool → List Int → Int → Int → Option (List Int)
  | 0, _, _, _, _, _, _ => none
  | k + 1, x0, x1, x2, x8, x9, x10 => if x10 < (x0.length : Int) then (if 0 ≤ x10 then ((spec_l6fAt.f k ((rd_T37 x0 x10).f0) ((rd_T37 x0 x10).f1) x1 x9).bind fun t272 => (if t272 = true then (if 0 ≤ (wrap64 (x9 + (((rd_T37 x0 x10).f0).length : Int))) then (if (wrap64 (x9 + (((rd_T37 x0 x10).f0).length : Int))) < (x8.length : Int) then (spec_l6fLeast.j2 k x0 x1 x2 x8 x9 x10 (decide ((rd x8 (wrap64 (x9 + (((rd_T37 x0 x10).f0).length : Int)))) < 0))) else (none)) else (none)) else (spec_l6fLeast.j2 k x0 x1 x2 x8 x9 x10 true))) else (none)) else (spec_l6fLeast.l0 k x0 x1 x2 x8 (wrap64 (x9 - 1)))
def spec_l6fLeast.j2 : Nat → List (S37) → List Int → Bool → List Int → Int → Int → Bool → Option (List Int)
  | 0, _, _, _, _, _, _, _ => none
  | k + 1, x0, x1, x2, x8, x9, x10, x53 => if x53 = true then (spec_l6fLeast.l1 k x0 x1 x2 x8 x9 (wrap64 (x10 + 1))) else (if 0 ≤ x10 then (if x10 < (x0.length : Int) then (if 0 ≤ (wrap64 (x9 + (((rd_T37 x0 x10).f0).length : Int))) then (if (wrap64 (x9 + (((rd_T37 x0 x10).f0).length : Int))) < (x8.length : Int) then (if x2 = true then (if 0 ≤ x9 then (if x9 < (x8.length : Int) then (if (rd x8 x9) < 0 then (spec_l6fLeast.l1 k x0 x1 x2 (x8.set (x9 : Int).toNat (wrap64 ((rd x8 (wrap64 (x9 + (((rd_T37 x0 x10).f0).length : Int)))) + 1))) x9 (wrap64 (x10 + 1))) else (if (wrap64 ((rd x8 (wrap64 (x9 + (((rd_T37 x0 x10).f0).length : Int)))) + 1)) < (rd x8 x9) then (spec_l6fLeast.l1 k x0 x1 x2 (x8.set (x9 : Int).toNat (wrap64 ((rd x8 (wrap64 (x9 + (((rd_T37 x0 x10).f0).length : Int)))) + 1))) x9 (wrap64 (x10 + 1))) else (spec_l6fLeast.l1 k x0 x1 x2 x8 x9 (wrap64 (x10 + 1))))) else (none)) else (none)) else (if 0 ≤ x9 then (if x9 < (x8.length : Int) then (if (rd x8 x9) < 0 then (spec_l6fLeast.l1 k x0 x1 x2 (x8.set (x9 : Int).toNat (wrap64 ((rd x8 (wrap64 (x9 + (((rd_T37 x0 x10).f0).length : Int)))) + ((rd_T37 x0 x10).f1)))) x9 (wrap64 (x10 + 1))) else (if (wrap64 ((rd x8 (wrap64 (x9 + (((rd_T37 x0 x10).f0).length : Int)))) + ((rd_T37 x0 x10).f1))) < (rd x8 x9) then (spec_l6fLeast.l1 k x0 x1 x2 (x8.set (x9 : Int).toNat (wrap64 ((rd x8 (wrap64 (x9 + (((rd_T37 x0 x10).f0).length : Int)))) + ((rd_T37 x0 x10).f1)))) x9 (wrap64 (x10 + 1))) else (spec_l6fLeast.l1 k x0 x1 x2 x8 x9 (wrap64 (x10 + 1))))) else (none)) else (none))) else (none)) else (none)) else (none)) else (none))
end
def spec_l6fLeast.f (k : Nat) (l0 : List (S37)) (l1 : List Int) (a2 : Bool) : Option (List Int) := if 0 ≤ (wrap64 ((l1.length : Int) + 1)) then (if (wrap64 ((l1.length : Int) + 1) : Int).toNat ≤ 35184372088832 then (spec_l6fLeast.l0 k l0 l1 a2 (List.replicate (wrap64 ((l1.length : Int) + 1) : Int).toNat 0) (wrap64 ((l1.length : Int) - 1))) else (none)) else (none)
theorem spec_l6fLeast.mono_l : ∀ k, (∀ y0 y1 y2 y3 y4, LeO (spec_l6fLeast.l0 k y0 y1 y2 y3 y4) (spec_l6fLeast.l0 (k + 1) y0 y1 y2 y3 y4)) ∧ (∀ y0 y1 y2 y3 y4 y5, LeO (spec_l6fLeast.l1 k y0 y1 y2 y3 y4 y5) (spec_l6fLeast.l1 (k + 1) y0 y1 y2 y3 y4 y5)) ∧ (∀ y0 y1 y2 y3 y4 y5 y6, LeO (spec_l6fLeast.j2 k y0 y1 y2 y3 y4 y5 y6) (spec_l6fLeast.j2 (k + 1) y0 y1 y2 y3 y4 y5 y6))
  | 0 => ⟨fun _ _ _ _ _ r h => by simp [spec_l6fLeast.l0] at h, fun _ _ _ _ _ _ r h => by simp [spec_l6fLeast.l1] at h, fun _ _ _ _ _ _ _ r h => by simp [spec_l6fLeast.j2] at h⟩
  | k + 1 => by
    obtain ⟨ih0, ih1, ih2⟩ := spec_l6fLeast.mono_l k
    refine ⟨?_, ?_, ?_⟩
    · intro y0 y1 y2 y3 y4
      unfold spec_l6fLeast.l0
      repeat' first
      | (with_reducible exact ih0 _ _ _ _ _)
      | (with_reducible exact ih1 _ _ _ _ _ _)
      | (with_reducible exact ih2 _ _ _ _ _ _ _)
      | (with_reducible exact spec_l6fAt.mono _ _ _ _ _)
      | (with_reducible exact LeO.refl _)
      | (with_reducible exact LeO.none _)
      | (with_reducible refine LeO.ite ?_ ?_)
      | (with_reducible refine LeO.bind ?_ (fun _ => ?_))
      | exact ih0 _ _ _ _ _
      | exact ih1 _ _ _ _ _ _
      | exact ih2 _ _ _ _ _ _ _
      | exact spec_l6fAt.mono _ _ _ _ _
      | exact LeO.none _
      | refine LeO.ite ?_ ?_
      | refine LeO.bind ?_ (fun _ => ?_)
    · intro y0 y1 y2 y3 y4 y5
      unfold spec_l6fLeast.l1
      repeat' first
      | (with_reducible exact ih0 _ _ _ _ _)
      | (with_reducible exact ih1 _ _ _ _ _ _)
      | (with_reducible exact ih2 _ _ _ _ _ _ _)
      | (with_reducible exact spec_l6fAt.mono _ _ _ _ _)
      | (with_reducible exact LeO.refl _)
      | (with_reducible exact LeO.none _)
      | (with_reducible refine LeO.ite ?_ ?_)
      | (with_reducible refine LeO.bind ?_ (fun _ => ?_))
      | exact ih0 _ _ _ _ _
      | exact ih1 _ _ _ _ _ _
      | exact ih2 _ _ _ _ _ _ _
      | exact spec_l6fAt.mono _ _ _ _ _
      | exact LeO.none _
      | refine LeO.ite ?_ ?_
      | refine LeO.bind ?_ (fun _ => ?_)
    · intro y0 y1 y2 y3 y4 y5 y6
      unfold spec_l6fLeast.j2
      repeat' first
      | (with_reducible exact ih0 _ _ _ _ _)
      | (with_reducible exact ih1 _ _ _ _ _ _)
      | (with_reducible exact ih2 _ _ _ _ _ _ _)
      | (with_reducible exact spec_l6fAt.mono _ _ _ _ _)
      | (with_reducible exact LeO.refl _)
      | (with_reducible exact LeO.none _)
      | (with_reducible refine LeO.ite ?_ ?_)
      | (with_reducible refine LeO.bind ?_ (fun _ => ?_))
      | exact ih0 _ _ _ _ _
      | exact ih1 _ _ _ _ _ _
      | exact ih2 _ _ _ _ _ _ _
      | exact spec_l6fAt.mono _ _ _ _ _
      | exact LeO.none _
      | refine LeO.ite ?_ ?_
      | refine LeO.bind ?_ (fun _ => ?_)
theorem spec_l6fLeast.mono : ∀ a0 a1 a2 k, LeO (spec_l6fLeast.f k a0 a1 a2) (spec_l6fLeast.f (k + 1) a0 a1 a2) := by
  intro a0 a1 a2 k
  obtain ⟨ih0, ih1, ih2⟩ := spec_l6fLeast.mono_l k
  unfold spec_l6fLeast.f
  repeat' first
      | (with_reducible exact ih0 _ _ _ _ _)
      | (with_reducible exact ih1 _ _ _ _ _ _)
      | (with_reducible exact ih2 _ _ _ _ _ _ _)
      | (with_reducible exact spec_l6fAt.mono _ _ _ _ _)
      | (with_reducible exact LeO.refl _)
      | (with_reducible exact LeO.none _)
      | (with_reducible refine LeO.ite ?_ ?_)
      | (with_reducible refine LeO.bind ?_ (fun _ => ?_))
      | exact ih0 _ _ _ _ _
      | exact ih1 _ _ _ _ _ _
      | exact ih2 _ _ _ _ _ _ _
      | exact spec_l6fAt.mono _ _ _ _ _
      | exact LeO.none _
      | refine LeO.ite ?_ ?_
      | refine LeO.bind ?_ (fun _ => ?_)
set_option maxHeartbeats 8000000 in
set_option maxRecDepth 100000 in
theorem spec_l6fLeast.calls (k : Nat) (A0 : Option Addr) (c0 : Nat) (l0 : List (S37)) (A1 : Option Addr) (c1 : Nat) (l1 : List Int) (a2 : Bool) (r : List Int) (w : World) (hr0 : Kd.C k37 w A0 l0.length l0) (hc0 : l0.length ≤ c0) (hr1 : Kd.C (Kd.int .i64) w A1 l1.length l1) (hc1 : l1.length ≤ c1) (h : spec_l6fLeast.f k l0 l1 a2 = some r) :
    Calls Try.prog 59 #[.slice A0 l0.length c0, .slice A1 l1.length c1, .bool a2] w fun e w' => ∃ v0_ : Value, e = .returned (v0_) ∧ Kd.R (Kd.int .i64) 3 w' w.heap.size (fun _ => True) v0_ r ∧ Below w.heap.size w w' := by
  have hu37 := Try.underlying37
  have HR0 := Aside0.mk hr0
  have HC0 := Aside0.mk hc0
  clear hr0 hc0
  have HR1 := Aside0.mk hr1
  have HC1 := Aside0.mk hc1
  clear hr1 hc1
  have HB := Aside0.mk (Below.refl w.heap.size w)
  have H : (if 0 ≤ (wrap64 ((l1.length : Int) + 1)) then (if (wrap64 ((l1.length : Int) + 1) : Int).toNat ≤ 35184372088832 then (spec_l6fLeast.l0 k l0 l1 a2 (List.replicate (wrap64 ((l1.length : Int) + 1) : Int).toNat 0) (wrap64 ((l1.length : Int) - 1))) else (none)) else (none)) = some r := h
  clear h
  obtain ⟨ji4, hji4⟩ : ∃ j_ : Int, (wrap64 ((l1.length : Int) + 1)) = j_ := ⟨_, rfl⟩
  replace H : (if 0 ≤ (ji4) then (if (ji4 : Int).toNat ≤ 35184372088832 then (spec_l6fLeast.l0 k l0 l1 a2 (List.replicate (ji4 : Int).toNat 0) (wrap64 ((l1.length : Int) - 1))) else (none)) else (none)) = some r := by first | (rw [hji4] at H; exact H) | (simp only [hji4] at H ⊢; exact H)
  have hji4w : (IntKind.i64.wrap ((l1.length : Int) + 1)) = ji4 := (i64_w _).trans hji4
  by_cases c5 : 0 ≤ (ji4)
  · rw [if_pos c5] at H
    have c5b0 := eq_true c5
    have c5b1 : decide (0 ≤ (ji4)) = true := decide_eq_true c5
    clear c5
    by_cases c6 : (ji4 : Int).toNat ≤ 35184372088832
    · rw [if_pos c6] at H
      have c6b0 := eq_true c6
      have c6b1 : decide ((ji4 : Int).toNat ≤ 35184372088832) = true := decide_eq_true c6
      clear c6
      obtain ⟨y267, hy267⟩ : ∃ y_ : List Int, y_ = (List.replicate (ji4 : Int).toNat 0) := ⟨_, rfl⟩
      replace H : (spec_l6fLeast.l0 k l0 l1 a2 y267 (wrap64 ((l1.length : Int) - 1))) = some r := by first | (rw [hy267]; with_reducible exact H) | (have H2_ := (Option.bind_some _ _).symm.trans H; rw [hy267]; with_reducible exact H2_) | (have H2_ := (Option.bind_some _ _).symm.trans H; with_reducible exact H2_) | with_reducible exact H | (rw [hy267]; exact H) | exact H
      have Ny267 := Aside0.mk hy267
      clear hy267
      have H' := Aside0.mk H
      clear H
      go_enter Try.func59, Try.ntmps59
      go_wp2_with (first | ((with_reducible refine gate_dst (N := 16) rfl ?_); (try (refine gate_guard (by rfl) ?_; dsimp only)); refine Kd.R_make (Kd.int .i64) _ 3 rfl (N := 16) rfl 29 _ _ rfl ji4 rfl rfl Try.underlying29 (.int .i64 0) 8 info3 rfl (by decide) (by omega) 0 (ok := fun _ => True) (okp := fun _ => True) rfl (fun _ hk => hk) trivial (of_decide_eq_true (by first | (with_reducible assumption) | assumption)) (Nat.le_trans (Nat.mul_le_mul_right _ (of_decide_eq_true (by first | (with_reducible assumption) | assumption) : ji4.toNat ≤ 35184372088832)) (by omega)) (Below.refl _ _) (Nat.le_refl _) ?_; intro v268 w7 ho8 hb hg_ hnew_; clear hg_ hnew_; (first | rw [← Ny267.out] at ho8 | (simp only [Int.reduceToNat] at ho8; rw [← Ny267.out] at ho8)); have n0_ := Aside0.mk (Kd.R_lower ho8 (below_size (by repeat (first | (with_reducible first | exact HB.out | apply below_alloc | apply pw_below_drewN | apply below_drew1) | exact HB.out)))); have n1_ := Aside0.mk (below_step (by repeat (first | (with_reducible first | exact HB.out | apply below_alloc | apply pw_below_drewN | apply below_drew1) | exact HB.out)) hb); clear HB; have HO269 := n0_; have HB := n1_; clear n0_ n1_; clear hb ho8))
      repeat (go_quiet (first | ((with_reducible refine gate_dst (N := 16) rfl ?_); (try (refine gate_guard (by rfl) ?_; dsimp only)); refine Kd.R_make (Kd.int .i64) _ 3 rfl (N := 16) rfl 29 _ _ rfl ji4 rfl rfl Try.underlying29 (.int .i64 0) 8 info3 rfl (by decide) (by omega) 0 (ok := fun _ => True) (okp := fun _ => True) rfl (fun _ hk => hk) trivial (of_decide_eq_true (by first | (with_reducible assumption) | assumption)) (Nat.le_trans (Nat.mul_le_mul_right _ (of_decide_eq_true (by first | (with_reducible assumption) | assumption) : ji4.toNat ≤ 35184372088832)) (by omega)) (Below.refl _ _) (Nat.le_refl _) ?_; intro v268 w7 ho8 hb hg_ hnew_; clear hg_ hnew_; (first | rw [← Ny267.out] at ho8 | (simp only [Int.reduceToNat] at ho8; rw [← Ny267.out] at ho8)); have n0_ := Aside0.mk (Kd.R_lower ho8 (below_size (by repeat (first | (with_reducible first | exact HB.out | apply below_alloc | apply pw_below_drewN | apply below_drew1) | exact HB.out)))); have n1_ := Aside0.mk (below_step (by repeat (first | (with_reducible first | exact HB.out | apply below_alloc | apply pw_below_drewN | apply below_drew1) | exact HB.out)) hb); clear HB; have HO269 := n0_; have HB := n1_; clear n0_ n1_; clear hb ho8)); try go_wp2_with (first | ((with_reducible refine gate_dst (N := 16) rfl ?_); (try (refine gate_guard (by rfl) ?_; dsimp only)); refine Kd.R_make (Kd.int .i64) _ 3 rfl (N := 16) rfl 29 _ _ rfl ji4 rfl rfl Try.underlying29 (.int .i64 0) 8 info3 rfl (by decide) (by omega) 0 (ok := fun _ => True) (okp := fun _ => True) rfl (fun _ hk => hk) trivial (of_decide_eq_true (by first | (with_reducible assumption) | assumption)) (Nat.le_trans (Nat.mul_le_mul_right _ (of_decide_eq_true (by first | (with_reducible assumption) | assumption) : ji4.toNat ≤ 35184372088832)) (by omega)) (Below.refl _ _) (Nat.le_refl _) ?_; intro v268 w7 ho8 hb hg_ hnew_; clear hg_ hnew_; (first | rw [← Ny267.out] at ho8 | (simp only [Int.reduceToNat] at ho8; rw [← Ny267.out] at ho8)); have n0_ := Aside0.mk (Kd.R_lower ho8 (below_size (by repeat (first | (with_reducible first | exact HB.out | apply below_alloc | apply pw_below_drewN | apply below_drew1) | exact HB.out)))); have n1_ := Aside0.mk (below_step (by repeat (first | (with_reducible first | exact HB.out | apply below_alloc | apply pw_below_drewN | apply below_drew1) | exact HB.out)) hb); clear HB; have HO269 := n0_; have HB := n1_; clear n0_ n1_; clear hb ho8)))
      go_loopg [9] k (fun kq v9 w' => ∃ (x8_1 : List Int) (x9_1 : Int), v9 = .int .i64 x9_1 ∧ Aside0 (spec_l6fLeast.l0 kq l0 l1 a2 x8_1 x9_1 = some r) ∧ Aside0 (kq ≤ k) ∧ Aside0 (Kd.R (Kd.int .i64) 3 w' w.heap.size (fun _ => True) v268 x8_1) ∧ Aside0 (Below w.heap.size w w'))
      case atStart => exact ⟨(y267), (wrap64 ((l1.length : Int) - 1)), (by first | rfl | (simp; done) | (simp [*]; done)), H', ⟨Nat.le_refl _⟩, ⟨by (with_reducible repeat (first | apply Kd.R_alloc | apply Kd.R_drewN | apply Kd.R_drew)); exact HO269.out⟩, ⟨by repeat (first | (with_reducible first | exact HB.out | apply below_alloc | apply pw_below_drewN | apply below_drew1) | exact HB.out)⟩⟩
      case round =>
        clear H'
        try clear c1
        try clear p2
        try clear c5
        try clear c5b0
        try clear c5b1
        try clear c6
        try clear c6b0
        try clear c6b1
        try clear p6
        obtain ⟨x8_1, x9_1, rfl, HA, HK1, HO_8, HB⟩ := hrel
        cases gk with
        | zero => exact absurd HA.out (by simp [spec_l6fLeast.l0])
        | succ k1 =>
          have H := HA.out
          clear HA
          simp only [spec_l6fLeast.l0] at H
          by_cases c9 : x9_1 ≥ 0
          · rw [if_pos c9] at H
            have c9b0 : decide (0 ≤ x9_1) = true := decide_eq_true c9
            clear c9
            by_cases c10 : 0 ≤ x9_1
            · rw [if_pos c10] at H
              have c10b0 : decide (0 ≤ x9_1) = true := decide_eq_true c10
              clear c10
              by_cases c11 : x9_1 < (x8_1.length : Int)
              · rw [if_pos c11] at H
                have c11b0 : decide (x9_1 < (x8_1.length : Int)) = true := decide_eq_true c11
                clear c11
                obtain ⟨y270, hy270⟩ : ∃ y_ : List Int, y_ = (x8_1.set (x9_1 : Int).toNat (-1)) := ⟨_, rfl⟩
                replace H : (spec_l6fLeast.l1 k1 l0 l1 a2 y270 x9_1 0) = some r := by first | (rw [hy270]; with_reducible exact H) | (have H2_ := (Option.bind_some _ _).symm.trans H; rw [hy270]; with_reducible exact H2_) | (have H2_ := (Option.bind_some _ _).symm.trans H; with_reducible exact H2_) | with_reducible exact H | (rw [hy270]; exact H) | exact H
                have Ny270 := Aside0.mk hy270
                clear hy270
                have H' := Aside0.mk H
                clear H
                have p12 : 0 ≤ (x9_1 : Int) := of_decide_eq_true (by first | (with_reducible assumption) | assumption)
                have q12 : (x9_1 : Int) < ((x8_1.length : Int) : Int) := of_decide_eq_true (by first | (with_reducible assumption) | assumption)
                obtain ⟨go12, co12, eo12, gb12, gl12, cl12, HG12⟩ := Kd.R_form HO_8.out (by omega)
                (first | cases eo12 | (injection eo12 with ea_ en_ ec_; (first | subst ea_ | (injection ea_ with ea_; subst ea_)); subst ec_; clear en_))
                have GB12 := Aside0.mk gb12
                have GG12 := Aside0.mk HG12
                clear gb12 gl12 HG12
                obtain ⟨hx12_0, hf12_0⟩ := Kd.R_celln 0 HO_8.out (x9_1 : Int) p12 q12
                replace p12 := eq_true p12
                replace q12 := eq_true q12
                have HP13 := Kd.R_putg HO_8.out (x9_1 : Int) (-1)
                go_wp2_with (first | ((with_reducible refine gate_store (t := 3) (p := 25) rfl ?_); (try (rw [drewN_self wr]; generalize hq_ : World.drewN wr _ = wr; have n0_ := Aside0.mk (Kd.R_at hq_ HO_8.out); have n1_ := Aside0.mk (below_at hq_ HB.out); clear hq_ HO_8 HB; have HO_8 := n0_; have HB := n1_; clear n0_ n1_; (try (have HP13 := Kd.R_putg HO_8.out (x9_1 : Int) (-1))))); refine store_event (t := 3) (p := 25) (v := ?vo_w14) (w1 := (wr.setCell ⟨go12, (x9_1 : Int).toNat, none⟩ (.int .i64 (-1)))) ?hg ?ho ?hn ?hr ?_; (case ho => rfl); (case hg => rfl); (case hn => rfl); (case hr => first | (go_simp; done) | (go_simp; rfl)); intro w14 hw; have hg : wr.grownBy w14 (some go12) := (by rw [hw]; exact HP13.2); have hp_ : Kd.R (Kd.int .i64) 3 w14 w.heap.size (fun _ => True) (.slice (some ⟨go12, 0, none⟩) x8_1.length co12) y270 := (by rw [hw, Ny270.out]; exact HP13.1); clear HP13; have n0_ := Aside0.mk (hp_); have n1_ := Aside0.mk ((by rw [hw]; exact below_set (HB.out) GB12.out : Below w.heap.size w w14)); clear HO_8; clear HB; have HO_8 := n0_; have HB := n1_; clear n0_ n1_; clear hg hw hp_))
                repeat (go_quiet (first | ((with_reducible refine gate_store (t := 3) (p := 25) rfl ?_); (try (rw [drewN_self wr]; generalize hq_ : World.drewN wr _ = wr; have n0_ := Aside0.mk (Kd.R_at hq_ HO_8.out); have n1_ := Aside0.mk (below_at hq_ HB.out); clear hq_ HO_8 HB; have HO_8 := n0_; have HB := n1_; clear n0_ n1_; (try (have HP13 := Kd.R_putg HO_8.out (x9_1 : Int) (-1))))); refine store_event (t := 3) (p := 25) (v := ?vo_w14) (w1 := (wr.setCell ⟨go12, (x9_1 : Int).toNat, none⟩ (.int .i64 (-1)))) ?hg ?ho ?hn ?hr ?_; (case ho => rfl); (case hg => rfl); (case hn => rfl); (case hr => first | (go_simp; done) | (go_simp; rfl)); intro w14 hw; have hg : wr.grownBy w14 (some go12) := (by rw [hw]; exact HP13.2); have hp_ : Kd.R (Kd.int .i64) 3 w14 w.heap.size (fun _ => True) (.slice (some ⟨go12, 0, none⟩) x8_1.length co12) y270 := (by rw [hw, Ny270.out]; exact HP13.1); clear HP13; have n0_ := Aside0.mk (hp_); have n1_ := Aside0.mk ((by rw [hw]; exact below_set (HB.out) GB12.out : Below w.heap.size w w14)); clear HO_8; clear HB; have HO_8 := n0_; have HB := n1_; clear n0_ n1_; clear hg hw hp_)); try go_wp2_with (first | ((with_reducible refine gate_store (t := 3) (p := 25) rfl ?_); (try (rw [drewN_self wr]; generalize hq_ : World.drewN wr _ = wr; have n0_ := Aside0.mk (Kd.R_at hq_ HO_8.out); have n1_ := Aside0.mk (below_at hq_ HB.out); clear hq_ HO_8 HB; have HO_8 := n0_; have HB := n1_; clear n0_ n1_; (try (have HP13 := Kd.R_putg HO_8.out (x9_1 : Int) (-1))))); refine store_event (t := 3) (p := 25) (v := ?vo_w14) (w1 := (wr.setCell ⟨go12, (x9_1 : Int).toNat, none⟩ (.int .i64 (-1)))) ?hg ?ho ?hn ?hr ?_; (case ho => rfl); (case hg => rfl); (case hn => rfl); (case hr => first | (go_simp; done) | (go_simp; rfl)); intro w14 hw; have hg : wr.grownBy w14 (some go12) := (by rw [hw]; exact HP13.2); have hp_ : Kd.R (Kd.int .i64) 3 w14 w.heap.size (fun _ => True) (.slice (some ⟨go12, 0, none⟩) x8_1.length co12) y270 := (by rw [hw, Ny270.out]; exact HP13.1); clear HP13; have n0_ := Aside0.mk (hp_); have n1_ := Aside0.mk ((by rw [hw]; exact below_set (HB.out) GB12.out : Below w.heap.size w w14)); clear HO_8; clear HB; have HO_8 := n0_; have HB := n1_; clear n0_ n1_; clear hg hw hp_)))
                go_loopg [10] k1 (fun kq v10 w' => ∃ (x8_2 : List Int) (x10_2 : Int), v10 = .int .i64 x10_2 ∧ Aside0 (spec_l6fLeast.l1 kq l0 l1 a2 x8_2 x9_1 x10_2 = some r) ∧ Aside0 (kq ≤ k1) ∧ Aside0 (Kd.R (Kd.int .i64) 3 w' w.heap.size (fun _ => True) (.slice (some ⟨go12, 0, none⟩) x8_1.length co12) x8_2) ∧ Aside0 (Below w.heap.size w w'))
                case atStart => exact ⟨(y270), (0), (by first | rfl | (simp; done) | (simp [*]; done)), H', ⟨Nat.le_refl _⟩, ⟨by (with_reducible repeat (first | apply Kd.R_alloc | apply Kd.R_drewN | apply Kd.R_drew)); exact HO_8.out⟩, ⟨by repeat (first | (with_reducible first | exact HB.out | apply below_alloc | apply pw_below_drewN | apply below_drew1) | exact HB.out)⟩⟩
                case round =>
                  clear H'
                  try clear c1
                  try clear p1
                  try clear q1
                  try clear hx1
                  try clear p2
                  try clear c5
                  try clear c5b0
                  try clear c5b1
                  try clear c6
                  try clear c6b0
                  try clear c6b1
                  try clear p6
                  try clear c9
                  try clear c9b0
                  try clear c10
                  try clear c10b0
                  try clear c11
                  try clear c11b0
                  try clear p12
                  try clear q12
                  try clear hx12
                  try clear hf12
                  try clear p12
                  try clear p2
                  try clear p6
                  try clear q12
                  obtain ⟨x8_2, x10_2, rfl, HA, HK2, HO_8, HB⟩ := hrel
                  have hl8_2 := (Kd.R_reads' HO_8.out).1
                  rw [hl8_2] at HO_8
                  (try simp only [hl8_2])
                  cases gk with
                  | zero => exact absurd HA.out (by simp [spec_l6fLeast.l1])
                  | succ k2 =>
                    have H := HA.out
                    clear HA
                    simp only [spec_l6fLeast.l1] at H
                    by_cases c15 : x10_2 < (l0.length : Int)
                    · rw [if_pos c15] at H
                      have c15b0 : decide (x10_2 < (l0.length : Int)) = true := decide_eq_true c15
                      clear c15
                      have HC16 := Aside0.mk H
                      clear H
                      go_upto_region 10 with (fail)
                      repeat (go_quiet (fail); go_upto_region 10 with (fail))
                      go_cut [53] (fun v53 wc => ∃ (kq : Nat) (x53_15 : Bool), v53 = .bool x53_15 ∧ Aside0 (spec_l6fLeast.j2 kq l0 l1 a2 x8_2 x9_1 x10_2 x53_15 = some r) ∧ Aside0 (kq ≤ k2) ∧ Aside0 (Kd.R (Kd.int .i64) 3 wc w.heap.size (fun _ => True) (.slice (some ⟨go12, 0, none⟩) x8_2.length co12) x8_2) ∧ Aside0 (Below w.heap.size w wc))
                      case first =>
                        have H := HC16.out
                        clear HC16
                        by_cases c17 : 0 ≤ x10_2
                        · rw [if_pos c17] at H
                          have c17b0 : decide (0 ≤ x10_2) = true := decide_eq_true c17
                          clear c17
                          (first | rw [c17b0] | (simp only [i64_w, i32_w]; rw [c17b0]) | skip)
                          replace H := Option.bind_eq_some_iff.mp H
                          obtain ⟨t272, A180, H⟩ := H
                          replace H : (if t272 = true then (if 0 ≤ (wrap64 (x9_1 + (((rd_T37 l0 x10_2).f0).length : Int))) then (if (wrap64 (x9_1 + (((rd_T37 l0 x10_2).f0).length : Int))) < (x8_2.length : Int) then (spec_l6fLeast.j2 k2 l0 l1 a2 x8_2 x9_1 x10_2 (decide ((rd x8_2 (wrap64 (x9_1 + (((rd_T37 l0 x10_2).f0).length : Int)))) < 0))) else (none)) else (none)) else (spec_l6fLeast.j2 k2 l0 l1 a2 x8_2 x9_1 x10_2 true)) = some r := H
                          have A18 := Aside0.mk A180
                          clear A180
                          by_cases c19 : t272 = true
                          · subst c19
                            have H1 : (if 0 ≤ (wrap64 (x9_1 + (((rd_T37 l0 x10_2).f0).length : Int))) then (if (wrap64 (x9_1 + (((rd_T37 l0 x10_2).f0).length : Int))) < (x8_2.length : Int) then (spec_l6fLeast.j2 k2 l0 l1 a2 x8_2 x9_1 x10_2 (decide ((rd x8_2 (wrap64 (x9_1 + (((rd_T37 l0 x10_2).f0).length : Int)))) < 0))) else (none)) else (none)) = some r := by rw [if_pos rfl] at H; exact H
                            clear H
                            have H := H1
                            clear H1
                            obtain ⟨ji20, hji20⟩ : ∃ j_ : Int, (wrap64 (x9_1 + (((rd_T37 l0 x10_2).f0).length : Int))) = j_ := ⟨_, rfl⟩
                            replace H : (if 0 ≤ (ji20) then (if (ji20) < (x8_2.length : Int) then (spec_l6fLeast.j2 k2 l0 l1 a2 x8_2 x9_1 x10_2 (decide ((rd x8_2 (ji20)) < 0))) else (none)) else (none)) = some r := by first | (rw [hji20] at H; exact H) | (simp only [hji20] at H ⊢; exact H)
                            (try rw [hji20] at A18)
                            have hji20w : (IntKind.i64.wrap (x9_1 + (((rd_T37 l0 x10_2).f0).length : Int))) = ji20 := (i64_w _).trans hji20
                            by_cases c21 : 0 ≤ (ji20)
                            · rw [if_pos c21] at H
                              have c21b0 : decide (0 ≤ (ji20)) = true := decide_eq_true c21
                              clear c21
                              by_cases c22 : (ji20) < (x8_2.length : Int)
                              · rw [if_pos c22] at H
                                have c22b0 : decide ((ji20) < (x8_2.length : Int)) = true := decide_eq_true c22
                                clear c22
                                have H' := Aside0.mk H
                                clear H
                                have p271 : 0 ≤ (x10_2 : Int) := of_decide_eq_true (by first | (with_reducible assumption) | assumption)
                                have q271 : x10_2 < (l0.length : Int) := of_decide_eq_true (by first | (with_reducible assumption) | assumption)
                                obtain ⟨ad271, A271_0, c271_0, e271, hx271_0, hx271_1, hl271_0, hi271_0⟩ := at_T37 HR0.out x10_2 p271 q271
                                cases e271
                                replace hx271_0 := (HB.out.cell (World.block_lt_of_cell? w _ hx271_0)).trans hx271_0
                                replace hx271_1 := (HB.out.cell (World.block_lt_of_cell? w _ hx271_1)).trans hx271_1
                                have HR271_0 := Aside0.mk hi271_0
                                have HC271_0 := Aside0.mk hl271_0
                                clear hi271_0 hl271_0
                                replace p271 := eq_true p271
                                replace q271 := eq_true q271
                                go_wp2_with (first | (go_at_call 62; (with_reducible refine (spec_l6fAt.calls k2 _ _ ((rd_T37 l0 x10_2).f0) ((rd_T37 l0 x10_2).f1) _ _ l1 x9_1 true _ ?side1 ?side2 ?side3 ?side4 A18.out).mono ?_); (case side1 => repeat (first | exact (Kd.C_below HR271_0.out HB.out) | (with_reducible refine Kd.C_alloc ?_ _) | (with_reducible refine Kd.C_drewN ?_ _) | (with_reducible refine Kd.C_drew ?_))); (case side2 => exact HC271_0.out); (case side3 => repeat (first | exact (Kd.C_below HR1.out HB.out) | (with_reducible refine Kd.C_alloc ?_ _) | (with_reducible refine Kd.C_drewN ?_ _) | (with_reducible refine Kd.C_drew ?_))); (case side4 => exact HC1.out); rintro e w23 ⟨rfl, hb⟩; have n0_ := Aside0.mk (Kd.R_below (by (with_reducible repeat (first | apply Kd.R_alloc | apply Kd.R_drewN | apply Kd.R_drew)); exact HO_8.out) hb); have n1_ := Aside0.mk (below_step (by repeat (first | (with_reducible first | exact HB.out | apply below_alloc | apply pw_below_drewN | apply below_drew1) | exact HB.out)) hb); clear HO_8; clear HB; have HO_8 := n0_; have HB := n1_; clear n0_ n1_; (try clear hb); (try clear hb2); (try clear hk); (try clear hi); have p273 : 0 ≤ (x10_2 : Int) := of_decide_eq_true (by first | (with_reducible assumption) | assumption); have q273 : x10_2 < (l0.length : Int) := of_decide_eq_true (by first | (with_reducible assumption) | assumption); obtain ⟨ad273, A273_0, c273_0, e273, hx273_0, hx273_1, hl273_0, hi273_0⟩ := at_T37 HR0.out x10_2 p273 q273; obtain rfl : ad271 = ad273 := (by injection e273); replace hx273_0 := (HB.out.cell (World.block_lt_of_cell? w _ hx273_0)).trans hx273_0; replace hx273_1 := (HB.out.cell (World.block_lt_of_cell? w _ hx273_1)).trans hx273_1; have HR273_0 := Aside0.mk hi273_0; have HC273_0 := Aside0.mk hl273_0; clear hi273_0 hl273_0; replace p273 := eq_true p273; replace q273 := eq_true q273; have p274 : 0 ≤ ((ji20) : Int) := of_decide_eq_true (by first | (with_reducible assumption) | assumption); have q274 : (ji20) < (x8_2.length : Int) := of_decide_eq_true (by first | (with_reducible assumption) | assumption); obtain ⟨ad274, e274, hx274_0⟩ := Kd.at_int (Kd.R_reads' HO_8.out).2.2 (ji20) p274 q274; obtain rfl : (⟨go12, 0, none⟩ : Addr) = ad274 := (by injection e274); (first | simp only [add_plain] at hx274_0 | simp only [add_at] at hx274_0 | simp only [Addr.add, Nat.zero_add] at hx274_0 | skip); replace p274 := eq_true p274; replace q274 := eq_true q274))
                                repeat (go_quiet (first | (go_at_call 62; (with_reducible refine (spec_l6fAt.calls k2 _ _ ((rd_T37 l0 x10_2).f0) ((rd_T37 l0 x10_2).f1) _ _ l1 x9_1 true _ ?side1 ?side2 ?side3 ?side4 A18.out).mono ?_); (case side1 => repeat (first | exact (Kd.C_below HR271_0.out HB.out) | (with_reducible refine Kd.C_alloc ?_ _) | (with_reducible refine Kd.C_drewN ?_ _) | (with_reducible refine Kd.C_drew ?_))); (case side2 => exact HC271_0.out); (case side3 => repeat (first | exact (Kd.C_below HR1.out HB.out) | (with_reducible refine Kd.C_alloc ?_ _) | (with_reducible refine Kd.C_drewN ?_ _) | (with_reducible refine Kd.C_drew ?_))); (case side4 => exact HC1.out); rintro e w23 ⟨rfl, hb⟩; have n0_ := Aside0.mk (Kd.R_below (by (with_reducible repeat (first | apply Kd.R_alloc | apply Kd.R_drewN | apply Kd.R_drew)); exact HO_8.out) hb); have n1_ := Aside0.mk (below_step (by repeat (first | (with_reducible first | exact HB.out | apply below_alloc | apply pw_below_drewN | apply below_drew1) | exact HB.out)) hb); clear HO_8; clear HB; have HO_8 := n0_; have HB := n1_; clear n0_ n1_; (try clear hb); (try clear hb2); (try clear hk); (try clear hi); have p273 : 0 ≤ (x10_2 : Int) := of_decide_eq_true (by first | (with_reducible assumption) | assumption); have q273 : x10_2 < (l0.length : Int) := of_decide_eq_true (by first | (with_reducible assumption) | assumption); obtain ⟨ad273, A273_0, c273_0, e273, hx273_0, hx273_1, hl273_0, hi273_0⟩ := at_T37 HR0.out x10_2 p273 q273; obtain rfl : ad271 = ad273 := (by injection e273); replace hx273_0 := (HB.out.cell (World.block_lt_of_cell? w _ hx273_0)).trans hx273_0; replace hx273_1 := (HB.out.cell (World.block_lt_of_cell? w _ hx273_1)).trans hx273_1; have HR273_0 := Aside0.mk hi273_0; have HC273_0 := Aside0.mk hl273_0; clear hi273_0 hl273_0; replace p273 := eq_true p273; replace q273 := eq_true q273; have p274 : 0 ≤ ((ji20) : Int) := of_decide_eq_true (by first | (with_reducible assumption) | assumption); have q274 : (ji20) < (x8_2.length : Int) := of_decide_eq_true (by first | (with_reducible assumption) | assumption); obtain ⟨ad274, e274, hx274_0⟩ := Kd.at_int (Kd.R_reads' HO_8.out).2.2 (ji20) p274 q274; obtain rfl : (⟨go12, 0, none⟩ : Addr) = ad274 := (by injection e274); (first | simp only [add_plain] at hx274_0 | simp only [add_at] at hx274_0 | simp only [Addr.add, Nat.zero_add] at hx274_0 | skip); replace p274 := eq_true p274; replace q274 := eq_true q274)); try go_wp2_with (first | (go_at_call 62; (with_reducible refine (spec_l6fAt.calls k2 _ _ ((rd_T37 l0 x10_2).f0) ((rd_T37 l0 x10_2).f1) _ _ l1 x9_1 true _ ?side1 ?side2 ?side3 ?side4 A18.out).mono ?_); (case side1 => repeat (first | exact (Kd.C_below HR271_0.out HB.out) | (with_reducible refine Kd.C_alloc ?_ _) | (with_reducible refine Kd.C_drewN ?_ _) | (with_reducible refine Kd.C_drew ?_))); (case side2 => exact HC271_0.out); (case side3 => repeat (first | exact (Kd.C_below HR1.out HB.out) | (with_reducible refine Kd.C_alloc ?_ _) | (with_reducible refine Kd.C_drewN ?_ _) | (with_reducible refine Kd.C_drew ?_))); (case side4 => exact HC1.out); rintro e w23 ⟨rfl, hb⟩; have n0_ := Aside0.mk (Kd.R_below (by (with_reducible repeat (first | apply Kd.R_alloc | apply Kd.R_drewN | apply Kd.R_drew)); exact HO_8.out) hb); have n1_ := Aside0.mk (below_step (by repeat (first | (with_reducible first | exact HB.out | apply below_alloc | apply pw_below_drewN | apply below_drew1) | exact HB.out)) hb); clear HO_8; clear HB; have HO_8 := n0_; have HB := n1_; clear n0_ n1_; (try clear hb); (try clear hb2); (try clear hk); (try clear hi); have p273 : 0 ≤ (x10_2 : Int) := of_decide_eq_true (by first | (with_reducible assumption) | assumption); have q273 : x10_2 < (l0.length : Int) := of_decide_eq_true (by first | (with_reducible assumption) | assumption); obtain ⟨ad273, A273_0, c273_0, e273, hx273_0, hx273_1, hl273_0, hi273_0⟩ := at_T37 HR0.out x10_2 p273 q273; obtain rfl : ad271 = ad273 := (by injection e273); replace hx273_0 := (HB.out.cell (World.block_lt_of_cell? w _ hx273_0)).trans hx273_0; replace hx273_1 := (HB.out.cell (World.block_lt_of_cell? w _ hx273_1)).trans hx273_1; have HR273_0 := Aside0.mk hi273_0; have HC273_0 := Aside0.mk hl273_0; clear hi273_0 hl273_0; replace p273 := eq_true p273; replace q273 := eq_true q273; have p274 : 0 ≤ ((ji20) : Int) := of_decide_eq_true (by first | (with_reducible assumption) | assumption); have q274 : (ji20) < (x8_2.length : Int) := of_decide_eq_true (by first | (with_reducible assumption) | assumption); obtain ⟨ad274, e274, hx274_0⟩ := Kd.at_int (Kd.R_reads' HO_8.out).2.2 (ji20) p274 q274; obtain rfl : (⟨go12, 0, none⟩ : Addr) = ad274 := (by injection e274); (first | simp only [add_plain] at hx274_0 | simp only [add_at] at hx274_0 | simp only [Addr.add, Nat.zero_add] at hx274_0 | skip); replace p274 := eq_true p274; replace q274 := eq_true q274)))
                                go_meet
                                case rel => exact ⟨_, (decide ((rd x8_2 (ji20)) < 0)), (by first | rfl | (simp; done) | (simp only [← hji20] <;> (first | rfl | simp)) | (simp [*]; done)), H', ⟨by have := HK1.out; have := HK2.out; first | omega | exact Nat.le_refl _⟩, ⟨by (try simp only [hl8_2]); (with_reducible repeat (first | apply Kd.R_alloc | apply Kd.R_drewN | apply Kd.R_drew)); exact HO_8.out⟩, ⟨by repeat (first | (with_reducible first | exact HB.out | apply below_alloc | apply pw_below_drewN | apply below_drew1) | exact HB.out)⟩⟩
                              · rw [if_neg c22] at H
                                exact absurd H (by simp)
                            · rw [if_neg c21] at H
                              exact absurd H (by simp)
                          · replace c19 := Bool.eq_false_iff.mpr c19
                            subst c19
                            have H1 : (spec_l6fLeast.j2 k2 l0 l1 a2 x8_2 x9_1 x10_2 true) = some r := by rw [if_neg (show ¬ (false = true) by decide)] at H; exact H
                            clear H
                            have H := H1
                            clear H1
                            have H' := Aside0.mk H
                            clear H
                            have p271 : 0 ≤ (x10_2 : Int) := of_decide_eq_true (by first | (with_reducible assumption) | assumption)
                            have q271 : x10_2 < (l0.length : Int) := of_decide_eq_true (by first | (with_reducible assumption) | assumption)
                            obtain ⟨ad271, A271_0, c271_0, e271, hx271_0, hx271_1, hl271_0, hi271_0⟩ := at_T37 HR0.out x10_2 p271 q271
                            cases e271
                            replace hx271_0 := (HB.out.cell (World.block_lt_of_cell? w _ hx271_0)).trans hx271_0
                            replace hx271_1 := (HB.out.cell (World.block_lt_of_cell? w _ hx271_1)).trans hx271_1
                            have HR271_0 := Aside0.mk hi271_0
                            have HC271_0 := Aside0.mk hl271_0
                            clear hi271_0 hl271_0
                            replace p271 := eq_true p271
                            replace q271 := eq_true q271
                            go_wp2_with (first | (go_at_call 62; (with_reducible refine (spec_l6fAt.calls k2 _ _ ((rd_T37 l0 x10_2).f0) ((rd_T37 l0 x10_2).f1) _ _ l1 x9_1 false _ ?side1 ?side2 ?side3 ?side4 A18.out).mono ?_); (case side1 => repeat (first | exact (Kd.C_below HR271_0.out HB.out) | (with_reducible refine Kd.C_alloc ?_ _) | (with_reducible refine Kd.C_drewN ?_ _) | (with_reducible refine Kd.C_drew ?_))); (case side2 => exact HC271_0.out); (case side3 => repeat (first | exact (Kd.C_below HR1.out HB.out) | (with_reducible refine Kd.C_alloc ?_ _) | (with_reducible refine Kd.C_drewN ?_ _) | (with_reducible refine Kd.C_drew ?_))); (case side4 => exact HC1.out); rintro e w24 ⟨rfl, hb⟩; have n0_ := Aside0.mk (Kd.R_below (by (with_reducible repeat (first | apply Kd.R_alloc | apply Kd.R_drewN | apply Kd.R_drew)); exact HO_8.out) hb); have n1_ := Aside0.mk (below_step (by repeat (first | (with_reducible first | exact HB.out | apply below_alloc | apply pw_below_drewN | apply below_drew1) | exact HB.out)) hb); clear HO_8; clear HB; have HO_8 := n0_; have HB := n1_; clear n0_ n1_; (try clear hb); (try clear hb2); (try clear hk); (try clear hi)))
                            repeat (go_quiet (first | (go_at_call 62; (with_reducible refine (spec_l6fAt.calls k2 _ _ ((rd_T37 l0 x10_2).f0) ((rd_T37 l0 x10_2).f1) _ _ l1 x9_1 false _ ?side1 ?side2 ?side3 ?side4 A18.out).mono ?_); (case side1 => repeat (first | exact (Kd.C_below HR271_0.out HB.out) | (with_reducible refine Kd.C_alloc ?_ _) | (with_reducible refine Kd.C_drewN ?_ _) | (with_reducible refine Kd.C_drew ?_))); (case side2 => exact HC271_0.out); (case side3 => repeat (first | exact (Kd.C_below HR1.out HB.out) | (with_reducible refine Kd.C_alloc ?_ _) | (with_reducible refine Kd.C_drewN ?_ _) | (with_reducible refine Kd.C_drew ?_))); (case side4 => exact HC1.out); rintro e w24 ⟨rfl, hb⟩; have n0_ := Aside0.mk (Kd.R_below (by (with_reducible repeat (first | apply Kd.R_alloc | apply Kd.R_drewN | apply Kd.R_drew)); exact HO_8.out) hb); have n1_ := Aside0.mk (below_step (by repeat (first | (with_reducible first | exact HB.out | apply below_alloc | apply pw_below_drewN | apply below_drew1) | exact HB.out)) hb); clear HO_8; clear HB; have HO_8 := n0_; have HB := n1_; clear n0_ n1_; (try clear hb); (try clear hb2); (try clear hk); (try clear hi))); try go_wp2_with (first | (go_at_call 62; (with_reducible refine (spec_l6fAt.calls k2 _ _ ((rd_T37 l0 x10_2).f0) ((rd_T37 l0 x10_2).f1) _ _ l1 x9_1 false _ ?side1 ?side2 ?side3 ?side4 A18.out).mono ?_); (case side1 => repeat (first | exact (Kd.C_below HR271_0.out HB.out) | (with_reducible refine Kd.C_alloc ?_ _) | (with_reducible refine Kd.C_drewN ?_ _) | (with_reducible refine Kd.C_drew ?_))); (case side2 => exact HC271_0.out); (case side3 => repeat (first | exact (Kd.C_below HR1.out HB.out) | (with_reducible refine Kd.C_alloc ?_ _) | (with_reducible refine Kd.C_drewN ?_ _) | (with_reducible refine Kd.C_drew ?_))); (case side4 => exact HC1.out); rintro e w24 ⟨rfl, hb⟩; have n0_ := Aside0.mk (Kd.R_below (by (with_reducible repeat (first | apply Kd.R_alloc | apply Kd.R_drewN | apply Kd.R_drew)); exact HO_8.out) hb); have n1_ := Aside0.mk (below_step (by repeat (first | (with_reducible first | exact HB.out | apply below_alloc | apply pw_below_drewN | apply below_drew1) | exact HB.out)) hb); clear HO_8; clear HB; have HO_8 := n0_; have HB := n1_; clear n0_ n1_; (try clear hb); (try clear hb2); (try clear hk); (try clear hi))))
                            go_meet
                            case rel => exact ⟨_, (true), (by first | rfl | (simp; done) | (simp [*]; done)), H', ⟨by have := HK1.out; have := HK2.out; first | omega | exact Nat.le_refl _⟩, ⟨by (try simp only [hl8_2]); (with_reducible repeat (first | apply Kd.R_alloc | apply Kd.R_drewN | apply Kd.R_drew)); exact HO_8.out⟩, ⟨by repeat (first | (with_reducible first | exact HB.out | apply below_alloc | apply pw_below_drewN | apply below_drew1) | exact HB.out)⟩⟩
                        · rw [if_neg c17] at H
                          exact absurd H (by simp)
                      case rest =>
                        clear HC16
                        try clear c1
                        try clear p1
                        try clear q1
                        try clear hx1
                        try clear c2
                        try clear p2
                        try clear q2
                        try clear hx2
                        try clear c5
                        try clear c5b0
                        try clear c5b1
                        try clear c6
                        try clear c6b0
                        try clear c6b1
                        try clear p6
                        try clear c9
                        try clear c9b0
                        try clear c10
                        try clear c10b0
                        try clear c11
                        try clear c11b0
                        try clear p12
                        try clear q12
                        try clear hx12
                        try clear hf12
                        try clear c15
                        try clear c15b0
                        try clear c17
                        try clear c17b0
                        try clear c19
                        try clear c21
                        try clear c21b0
                        try clear c22
                        try clear c22b0
                        try clear p1
                        try clear p12
                        try clear p2
                        try clear p271
                        try clear p273
                        try clear p274
                        try clear p6
                        try clear q1
                        try clear q12
                        try clear q271
                        try clear q273
                        try clear q274
                        obtain ⟨kq, x53_15, rfl, HA, HJ15, HO_8, HB⟩ := hcut
                        cases kq with
                        | zero => exact absurd HA.out (by simp [spec_l6fLeast.j2])
                        | succ kj15 =>
                          have H := HA.out
                          clear HA
                          simp only [spec_l6fLeast.j2] at H
                          by_cases c25 : x53_15 = true
                          · subst c25
                            have H1 : (spec_l6fLeast.l1 kj15 l0 l1 a2 x8_2 x9_1 (wrap64 (x10_2 + 1))) = some r := by rw [if_pos rfl] at H; exact H
                            clear H
                            have H := H1
                            clear H1
                            have H' := Aside0.mk H
                            clear H
                            go_wp2
                            repeat (go_quiet (fail); try go_wp2)
                            (try simp only [← hl8_2])
                            go_roundg kj15
                            case measure => have := HK1.out; have := HK2.out; have := HJ15.out; omega
                            case rel => exact ⟨(x8_2), (wrap64 (x10_2 + 1)), (by first | rfl | (simp; done) | (simp [*]; done)), H', ⟨by have := HK1.out; have := HK2.out; have := HJ15.out; omega⟩, ⟨by (try simp only [hl8_2]); (with_reducible repeat (first | apply Kd.R_alloc | apply Kd.R_drewN | apply Kd.R_drew)); exact HO_8.out⟩, ⟨by repeat (first | (with_reducible first | exact HB.out | apply below_alloc | apply pw_below_drewN | apply below_drew1) | exact HB.out)⟩⟩
                          · replace c25 := Bool.eq_false_iff.mpr c25
                            subst c25
                            have H1 : (if 0 ≤ x10_2 then (if x10_2 < (l0.length : Int) then (if 0 ≤ (wrap64 (x9_1 + (((rd_T37 l0 x10_2).f0).length : Int))) then (if (wrap64 (x9_1 + (((rd_T37 l0 x10_2).f0).length : Int))) < (x8_2.length : Int) then (if a2 = true then (if 0 ≤ x9_1 then (if x9_1 < (x8_2.length : Int) then (if (rd x8_2 x9_1) < 0 then (spec_l6fLeast.l1 kj15 l0 l1 a2 (x8_2.set (x9_1 : Int).toNat (wrap64 ((rd x8_2 (wrap64 (x9_1 + (((rd_T37 l0 x10_2).f0).length : Int)))) + 1))) x9_1 (wrap64 (x10_2 + 1))) else (if (wrap64 ((rd x8_2 (wrap64 (x9_1 + (((rd_T37 l0 x10_2).f0).length : Int)))) + 1)) < (rd x8_2 x9_1) then (spec_l6fLeast.l1 kj15 l0 l1 a2 (x8_2.set (x9_1 : Int).toNat (wrap64 ((rd x8_2 (wrap64 (x9_1 + (((rd_T37 l0 x10_2).f0).length : Int)))) + 1))) x9_1 (wrap64 (x10_2 + 1))) else (spec_l6fLeast.l1 kj15 l0 l1 a2 x8_2 x9_1 (wrap64 (x10_2 + 1))))) else (none)) else (none)) else (if 0 ≤ x9_1 then (if x9_1 < (x8_2.length : Int) then (if (rd x8_2 x9_1) < 0 then (spec_l6fLeast.l1 kj15 l0 l1 a2 (x8_2.set (x9_1 : Int).toNat (wrap64 ((rd x8_2 (wrap64 (x9_1 + (((rd_T37 l0 x10_2).f0).length : Int)))) + ((rd_T37 l0 x10_2).f1)))) x9_1 (wrap64 (x10_2 + 1))) else (if (wrap64 ((rd x8_2 (wrap64 (x9_1 + (((rd_T37 l0 x10_2).f0).length : Int)))) + ((rd_T37 l0 x10_2).f1))) < (rd x8_2 x9_1) then (spec_l6fLeast.l1 kj15 l0 l1 a2 (x8_2.set (x9_1 : Int).toNat (wrap64 ((rd x8_2 (wrap64 (x9_1 + (((rd_T37 l0 x10_2).f0).length : Int)))) + ((rd_T37 l0 x10_2).f1)))) x9_1 (wrap64 (x10_2 + 1))) else (spec_l6fLeast.l1 kj15 l0 l1 a2 x8_2 x9_1 (wrap64 (x10_2 + 1))))) else (none)) else (none))) else (none)) else (none)) else (none)) else (none)) = some r := by rw [if_neg (show ¬ (false = true) by decide)] at H; exact H
                            clear H
                            have H := H1
                            clear H1
                            by_cases c26 : 0 ≤ x10_2
                            · rw [if_pos c26] at H
                              have c26b0 : decide (0 ≤ x10_2) = true := decide_eq_true c26
                              clear c26
                              by_cases c27 : x10_2 < (l0.length : Int)
                              · rw [if_pos c27] at H
                                have c27b0 : decide (x10_2 < (l0.length : Int)) = true := decide_eq_true c27
                                clear c27
                                obtain ⟨ji28, hji28⟩ : ∃ j_ : Int, (wrap64 (x9_1 + (((rd_T37 l0 x10_2).f0).length : Int))) = j_ := ⟨_, rfl⟩
                                replace H : (if 0 ≤ (ji28) then (if (ji28) < (x8_2.length : Int) then (if a2 = true then (if 0 ≤ x9_1 then (if x9_1 < (x8_2.length : Int) then (if (rd x8_2 x9_1) < 0 then (spec_l6fLeast.l1 kj15 l0 l1 a2 (x8_2.set (x9_1 : Int).toNat (wrap64 ((rd x8_2 (ji28)) + 1))) x9_1 (wrap64 (x10_2 + 1))) else (if (wrap64 ((rd x8_2 (ji28)) + 1)) < (rd x8_2 x9_1) then (spec_l6fLeast.l1 kj15 l0 l1 a2 (x8_2.set (x9_1 : Int).toNat (wrap64 ((rd x8_2 (ji28)) + 1))) x9_1 (wrap64 (x10_2 + 1))) else (spec_l6fLeast.l1 kj15 l0 l1 a2 x8_2 x9_1 (wrap64 (x10_2 + 1))))) else (none)) else (none)) else (if 0 ≤ x9_1 then (if x9_1 < (x8_2.length : Int) then (if (rd x8_2 x9_1) < 0 then (spec_l6fLeast.l1 kj15 l0 l1 a2 (x8_2.set (x9_1 : Int).toNat (wrap64 ((rd x8_2 (ji28)) + ((rd_T37 l0 x10_2).f1)))) x9_1 (wrap64 (x10_2 + 1))) else (if (wrap64 ((rd x8_2 (ji28)) + ((rd_T37 l0 x10_2).f1))) < (rd x8_2 x9_1) then (spec_l6fLeast.l1 kj15 l0 l1 a2 (x8_2.set (x9_1 : Int).toNat (wrap64 ((rd x8_2 (ji28)) + ((rd_T37 l0 x10_2).f1)))) x9_1 (wrap64 (x10_2 + 1))) else (spec_l6fLeast.l1 kj15 l0 l1 a2 x8_2 x9_1 (wrap64 (x10_2 + 1))))) else (none)) else (none))) else (none)) else (none)) = some r := by first | (rw [hji28] at H; exact H) | (simp only [hji28] at H ⊢; exact H)
                                have hji28w : (IntKind.i64.wrap (x9_1 + (((rd_T37 l0 x10_2).f0).length : Int))) = ji28 := (i64_w _).trans hji28
                                by_cases c29 : 0 ≤ (ji28)
                                · rw [if_pos c29] at H
                                  have c29b0 : decide (0 ≤ (ji28)) = true := decide_eq_true c29
                                  clear c29
                                  by_cases c30 : (ji28) < (x8_2.length : Int)
                                  · rw [if_pos c30] at H
                                    have c30b0 : decide ((ji28) < (x8_2.length : Int)) = true := decide_eq_true c30
                                    clear c30
                                    by_cases c31 : a2 = true
                                    · subst c31
                                      have H1 : (if 0 ≤ x9_1 then (if x9_1 < (x8_2.length : Int) then (if (rd x8_2 x9_1) < 0 then (spec_l6fLeast.l1 kj15 l0 l1 true (x8_2.set (x9_1 : Int).toNat (wrap64 ((rd x8_2 (ji28)) + 1))) x9_1 (wrap64 (x10_2 + 1))) else (if (wrap64 ((rd x8_2 (ji28)) + 1)) < (rd x8_2 x9_1) then (spec_l6fLeast.l1 kj15 l0 l1 true (x8_2.set (x9_1 : Int).toNat (wrap64 ((rd x8_2 (ji28)) + 1))) x9_1 (wrap64 (x10_2 + 1))) else (spec_l6fLeast.l1 kj15 l0 l1 true x8_2 x9_1 (wrap64 (x10_2 + 1))))) else (none)) else (none)) = some r := by rw [if_pos rfl] at H; exact H
                                      clear H
                                      have H := H1
                                      clear H1
                                      by_cases c32 : 0 ≤ x9_1
                                      · rw [if_pos c32] at H
                                        have c32b0 : decide (0 ≤ x9_1) = true := decide_eq_true c32
                                        clear c32
                                        by_cases c33 : x9_1 < (x8_2.length : Int)
                                        · rw [if_pos c33] at H
                                          have c33b0 : decide (x9_1 < (x8_2.length : Int)) = true := decide_eq_true c33
                                          clear c33
                                          by_cases c34 : (rd x8_2 x9_1) < 0
                                          · rw [if_pos c34] at H
                                            have c34b0 : decide ((rd x8_2 x9_1) < 0) = true := decide_eq_true c34
                                            clear c34
                                            obtain ⟨y281, hy281⟩ : ∃ y_ : List Int, y_ = (x8_2.set (x9_1 : Int).toNat (wrap64 ((rd x8_2 (ji28)) + 1))) := ⟨_, rfl⟩
                                            replace H : (spec_l6fLeast.l1 kj15 l0 l1 true y281 x9_1 (wrap64 (x10_2 + 1))) = some r := by first | (rw [hy281]; with_reducible exact H) | (have H2_ := (Option.bind_some _ _).symm.trans H; rw [hy281]; with_reducible exact H2_) | (have H2_ := (Option.bind_some _ _).symm.trans H; with_reducible exact H2_) | with_reducible exact H | (rw [hy281]; exact H) | exact H
                                            have Ny281 := Aside0.mk hy281
                                            clear hy281
                                            have H' := Aside0.mk H
                                            clear H
                                            have p275 : 0 ≤ (x10_2 : Int) := of_decide_eq_true (by first | (with_reducible assumption) | assumption)
                                            have q275 : x10_2 < (l0.length : Int) := of_decide_eq_true (by first | (with_reducible assumption) | assumption)
                                            obtain ⟨ad275, A275_0, c275_0, e275, hx275_0, hx275_1, hl275_0, hi275_0⟩ := at_T37 HR0.out x10_2 p275 q275
                                            cases e275
                                            replace hx275_0 := (HB.out.cell (World.block_lt_of_cell? w _ hx275_0)).trans hx275_0
                                            replace hx275_1 := (HB.out.cell (World.block_lt_of_cell? w _ hx275_1)).trans hx275_1
                                            have HR275_0 := Aside0.mk hi275_0
                                            have HC275_0 := Aside0.mk hl275_0
                                            clear hi275_0 hl275_0
                                            replace p275 := eq_true p275
                                            replace q275 := eq_true q275
                                            have p276 : 0 ≤ ((ji28) : Int) := of_decide_eq_true (by first | (with_reducible assumption) | assumption)
                                            have q276 : (ji28) < (x8_2.length : Int) := of_decide_eq_true (by first | (with_reducible assumption) | assumption)
                                            obtain ⟨ad276, e276, hx276_0⟩ := Kd.at_int (Kd.R_reads' HO_8.out).2.2 (ji28) p276 q276
                                            obtain rfl : (⟨go12, 0, none⟩ : Addr) = ad276 := (by injection e276)
                                            (first | simp only [add_plain] at hx276_0 | simp only [add_at] at hx276_0 | simp only [Addr.add, Nat.zero_add] at hx276_0 | skip)
                                            replace p276 := eq_true p276
                                            replace q276 := eq_true q276
                                            have p277 : 0 ≤ (x10_2 : Int) := of_decide_eq_true (by first | (with_reducible assumption) | assumption)
                                            have q277 : x10_2 < (l0.length : Int) := of_decide_eq_true (by first | (with_reducible assumption) | assumption)
                                            obtain ⟨ad277, A277_0, c277_0, e277, hx277_0, hx277_1, hl277_0, hi277_0⟩ := at_T37 HR0.out x10_2 p277 q277
                                            obtain rfl : ad275 = ad277 := (by injection e277)
                                            replace hx277_0 := (HB.out.cell (World.block_lt_of_cell? w _ hx277_0)).trans hx277_0
                                            replace hx277_1 := (HB.out.cell (World.block_lt_of_cell? w _ hx277_1)).trans hx277_1
                                            have HR277_0 := Aside0.mk hi277_0
                                            have HC277_0 := Aside0.mk hl277_0
                                            clear hi277_0 hl277_0
                                            replace p277 := eq_true p277
                                            replace q277 := eq_true q277
                                            have ea_ := Option.some.inj (hx275_0.symm.trans hx277_0)
                                            injection ea_ with ea_ en_ ec_
                                            subst ea_
                                            subst ec_
                                            clear en_
                                            have p278 : 0 ≤ (x10_2 : Int) := of_decide_eq_true (by first | (with_reducible assumption) | assumption)
                                            have q278 : x10_2 < (l0.length : Int) := of_decide_eq_true (by first | (with_reducible assumption) | assumption)
                                            obtain ⟨ad278, A278_0, c278_0, e278, hx278_0, hx278_1, hl278_0, hi278_0⟩ := at_T37 HR0.out x10_2 p278 q278
                                            obtain rfl : ad275 = ad278 := (by injection e278)
                                            replace hx278_0 := (HB.out.cell (World.block_lt_of_cell? w _ hx278_0)).trans hx278_0
                                            replace hx278_1 := (HB.out.cell (World.block_lt_of_cell? w _ hx278_1)).trans hx278_1
                                            have HR278_0 := Aside0.mk hi278_0
                                            have HC278_0 := Aside0.mk hl278_0
                                            clear hi278_0 hl278_0
                                            replace p278 := eq_true p278
                                            replace q278 := eq_true q278
                                            have ea_ := Option.some.inj (hx275_0.symm.trans hx278_0)
                                            injection ea_ with ea_ en_ ec_
                                            subst ea_
                                            subst ec_
                                            clear en_
                                            have p279 : 0 ≤ ((ji28) : Int) := of_decide_eq_true (by first | (with_reducible assumption) | assumption)
                                            have q279 : (ji28) < (x8_2.length : Int) := of_decide_eq_true (by first | (with_reducible assumption) | assumption)
                                            obtain ⟨ad279, e279, hx279_0⟩ := Kd.at_int (Kd.R_reads' HO_8.out).2.2 (ji28) p279 q279
                                            obtain rfl : (⟨go12, 0, none⟩ : Addr) = ad279 := (by injection e279)
                                            (first | simp only [add_plain] at hx279_0 | simp only [add_at] at hx279_0 | simp only [Addr.add, Nat.zero_add] at hx279_0 | skip)
                                            replace p279 := eq_true p279
                                            replace q279 := eq_true q279
                                            have p280 : 0 ≤ (x9_1 : Int) := of_decide_eq_true (by first | (with_reducible assumption) | assumption)
                                            have q280 : x9_1 < (x8_2.length : Int) := of_decide_eq_true (by first | (with_reducible assumption) | assumption)
                                            obtain ⟨ad280, e280, hx280_0⟩ := Kd.at_int (Kd.R_reads' HO_8.out).2.2 x9_1 p280 q280
                                            obtain rfl : (⟨go12, 0, none⟩ : Addr) = ad280 := (by injection e280)
                                            (first | simp only [add_plain] at hx280_0 | simp only [add_at] at hx280_0 | simp only [Addr.add, Nat.zero_add] at hx280_0 | skip)
                                            replace p280 := eq_true p280
                                            replace q280 := eq_true q280
                                            have p35 : 0 ≤ (x9_1 : Int) := of_decide_eq_true (by first | (with_reducible assumption) | assumption)
                                            have q35 : (x9_1 : Int) < ((x8_2.length : Int) : Int) := of_decide_eq_true (by first | (with_reducible assumption) | assumption)
                                            obtain ⟨hx35_0, hf35_0⟩ := Kd.R_celln 0 HO_8.out (x9_1 : Int) p35 q35
                                            replace p35 := eq_true p35
                                            replace q35 := eq_true q35
                                            have HP36 := Kd.R_putg HO_8.out (x9_1 : Int) (wrap64 ((rd x8_2 (ji28)) + 1))
                                            go_wp2_with (first | ((with_reducible refine gate_store (t := 3) (p := 100) rfl ?_); (try (rw [drewN_self wc]; generalize hq_ : World.drewN wc _ = wc; have n0_ := Aside0.mk (Kd.R_at hq_ HO_8.out); have n1_ := Aside0.mk (below_at hq_ HB.out); clear hq_ HO_8 HB; have HO_8 := n0_; have HB := n1_; clear n0_ n1_; (try (have HP36 := Kd.R_putg HO_8.out (x9_1 : Int) (wrap64 ((rd x8_2 (ji28)) + 1)))))); refine store_event (t := 3) (p := 100) (v := ?vo_w37) (w1 := (wc.setCell ⟨go12, (x9_1 : Int).toNat, none⟩ (.int .i64 (wrap64 ((rd x8_2 (ji28)) + 1))))) ?hg ?ho ?hn ?hr ?_; (case ho => rfl); (case hg => rfl); (case hn => rfl); (case hr => first | (go_simp; done) | (go_simp; rfl)); intro w37 hw; have hg : wc.grownBy w37 (some go12) := (by rw [hw]; exact HP36.2); have hp_ : Kd.R (Kd.int .i64) 3 w37 w.heap.size (fun _ => True) (.slice (some ⟨go12, 0, none⟩) x8_2.length co12) y281 := (by rw [hw, Ny281.out]; exact HP36.1); clear HP36; have n0_ := Aside0.mk (hp_); have n1_ := Aside0.mk ((by rw [hw]; exact below_set (HB.out) GB12.out : Below w.heap.size w w37)); clear HO_8; clear HB; have HO_8 := n0_; have HB := n1_; clear n0_ n1_; clear hg hw hp_))
                                            repeat (go_quiet (first | ((with_reducible refine gate_store (t := 3) (p := 100) rfl ?_); (try (rw [drewN_self wc]; generalize hq_ : World.drewN wc _ = wc; have n0_ := Aside0.mk (Kd.R_at hq_ HO_8.out); have n1_ := Aside0.mk (below_at hq_ HB.out); clear hq_ HO_8 HB; have HO_8 := n0_; have HB := n1_; clear n0_ n1_; (try (have HP36 := Kd.R_putg HO_8.out (x9_1 : Int) (wrap64 ((rd x8_2 (ji28)) + 1)))))); refine store_event (t := 3) (p := 100) (v := ?vo_w37) (w1 := (wc.setCell ⟨go12, (x9_1 : Int).toNat, none⟩ (.int .i64 (wrap64 ((rd x8_2 (ji28)) + 1))))) ?hg ?ho ?hn ?hr ?_; (case ho => rfl); (case hg => rfl); (case hn => rfl); (case hr => first | (go_simp; done) | (go_simp; rfl)); intro w37 hw; have hg : wc.grownBy w37 (some go12) := (by rw [hw]; exact HP36.2); have hp_ : Kd.R (Kd.int .i64) 3 w37 w.heap.size (fun _ => True) (.slice (some ⟨go12, 0, none⟩) x8_2.length co12) y281 := (by rw [hw, Ny281.out]; exact HP36.1); clear HP36; have n0_ := Aside0.mk (hp_); have n1_ := Aside0.mk ((by rw [hw]; exact below_set (HB.out) GB12.out : Below w.heap.size w w37)); clear HO_8; clear HB; have HO_8 := n0_; have HB := n1_; clear n0_ n1_; clear hg hw hp_)); try go_wp2_with (first | ((with_reducible refine gate_store (t := 3) (p := 100) rfl ?_); (try (rw [drewN_self wc]; generalize hq_ : World.drewN wc _ = wc; have n0_ := Aside0.mk (Kd.R_at hq_ HO_8.out); have n1_ := Aside0.mk (below_at hq_ HB.out); clear hq_ HO_8 HB; have HO_8 := n0_; have HB := n1_; clear n0_ n1_; (try (have HP36 := Kd.R_putg HO_8.out (x9_1 : Int) (wrap64 ((rd x8_2 (ji28)) + 1)))))); refine store_event (t := 3) (p := 100) (v := ?vo_w37) (w1 := (wc.setCell ⟨go12, (x9_1 : Int).toNat, none⟩ (.int .i64 (wrap64 ((rd x8_2 (ji28)) + 1))))) ?hg ?ho ?hn ?hr ?_; (case ho => rfl); (case hg => rfl); (case hn => rfl); (case hr => first | (go_simp; done) | (go_simp; rfl)); intro w37 hw; have hg : wc.grownBy w37 (some go12) := (by rw [hw]; exact HP36.2); have hp_ : Kd.R (Kd.int .i64) 3 w37 w.heap.size (fun _ => True) (.slice (some ⟨go12, 0, none⟩) x8_2.length co12) y281 := (by rw [hw, Ny281.out]; exact HP36.1); clear HP36; have n0_ := Aside0.mk (hp_); have n1_ := Aside0.mk ((by rw [hw]; exact below_set (HB.out) GB12.out : Below w.heap.size w w37)); clear HO_8; clear HB; have HO_8 := n0_; have HB := n1_; clear n0_ n1_; clear hg hw hp_)))
                                            (try simp only [← hl8_2])
                                            go_roundg kj15
                                            case measure => have := HK1.out; have := HK2.out; have := HJ15.out; omega
                                            case rel => exact ⟨(y281), (wrap64 (x10_2 + 1)), (by first | rfl | (simp; done) | (simp [*]; done)), H', ⟨by have := HK1.out; have := HK2.out; have := HJ15.out; omega⟩, ⟨by (try simp only [hl8_2]); (with_reducible repeat (first | apply Kd.R_alloc | apply Kd.R_drewN | apply Kd.R_drew)); first | exact HO_8.out | (rw [Ny281.out]; exact (Kd.R_putg (Kd.R_drewN HO_8.out _) (x9_1 : Int) _).1)⟩, ⟨by first | ((repeat (first | (with_reducible first | exact HB.out | apply below_alloc | apply pw_below_drewN | apply below_drew1) | exact HB.out)); done) | exact below_set (pw_below_drewN HB.out _) GB12.out⟩⟩
                                          · rw [if_neg c34] at H
                                            have c34b0 : decide ((rd x8_2 x9_1) < 0) = false := decide_eq_false c34
                                            clear c34
                                            by_cases c38 : (wrap64 ((rd x8_2 (ji28)) + 1)) < (rd x8_2 x9_1)
                                            · rw [if_pos c38] at H
                                              have c38b0 : decide ((wrap64 ((rd x8_2 (ji28)) + 1)) < (rd x8_2 x9_1)) = true := decide_eq_true c38
                                              clear c38
                                              obtain ⟨y283, hy283⟩ : ∃ y_ : List Int, y_ = (x8_2.set (x9_1 : Int).toNat (wrap64 ((rd x8_2 (ji28)) + 1))) := ⟨_, rfl⟩
                                              replace H : (spec_l6fLeast.l1 kj15 l0 l1 true y283 x9_1 (wrap64 (x10_2 + 1))) = some r := by first | (rw [hy283]; with_reducible exact H) | (have H2_ := (Option.bind_some _ _).symm.trans H; rw [hy283]; with_reducible exact H2_) | (have H2_ := (Option.bind_some _ _).symm.trans H; with_reducible exact H2_) | with_reducible exact H | (rw [hy283]; exact H) | exact H
                                              have Ny283 := Aside0.mk hy283
                                              clear hy283
                                              have H' := Aside0.mk H
                                              clear H
                                              have p275 : 0 ≤ (x10_2 : Int) := of_decide_eq_true (by first | (with_reducible assumption) | assumption)
                                              have q275 : x10_2 < (l0.length : Int) := of_decide_eq_true (by first | (with_reducible assumption) | assumption)
                                              obtain ⟨ad275, A275_0, c275_0, e275, hx275_0, hx275_1, hl275_0, hi275_0⟩ := at_T37 HR0.out x10_2 p275 q275
                                              cases e275
                                              replace hx275_0 := (HB.out.cell (World.block_lt_of_cell? w _ hx275_0)).trans hx275_0
                                              replace hx275_1 := (HB.out.cell (World.block_lt_of_cell? w _ hx275_1)).trans hx275_1
                                              have HR275_0 := Aside0.mk hi275_0
                                              have HC275_0 := Aside0.mk hl275_0
                                              clear hi275_0 hl275_0
                                              replace p275 := eq_true p275
                                              replace q275 := eq_true q275
                                              have p276 : 0 ≤ ((ji28) : Int) := of_decide_eq_true (by first | (with_reducible assumption) | assumption)
                                              have q276 : (ji28) < (x8_2.length : Int) := of_decide_eq_true (by first | (with_reducible assumption) | assumption)
                                              obtain ⟨ad276, e276, hx276_0⟩ := Kd.at_int (Kd.R_reads' HO_8.out).2.2 (ji28) p276 q276
                                              obtain rfl : (⟨go12, 0, none⟩ : Addr) = ad276 := (by injection e276)
                                              (first | simp only [add_plain] at hx276_0 | simp only [add_at] at hx276_0 | simp only [Addr.add, Nat.zero_add] at hx276_0 | skip)
                                              replace p276 := eq_true p276
                                              replace q276 := eq_true q276
                                              have p277 : 0 ≤ (x10_2 : Int) := of_decide_eq_true (by first | (with_reducible assumption) | assumption)
                                              have q277 : x10_2 < (l0.length : Int) := of_decide_eq_true (by first | (with_reducible assumption) | assumption)
                                              obtain ⟨ad277, A277_0, c277_0, e277, hx277_0, hx277_1, hl277_0, hi277_0⟩ := at_T37 HR0.out x10_2 p277 q277
                                              obtain rfl : ad275 = ad277 := (by injection e277)
                                              replace hx277_0 := (HB.out.cell (World.block_lt_of_cell? w _ hx277_0)).trans hx277_0
                                              replace hx277_1 := (HB.out.cell (World.block_lt_of_cell? w _ hx277_1)).trans hx277_1
                                              have HR277_0 := Aside0.mk hi277_0
                                              have HC277_0 := Aside0.mk hl277_0
                                              clear hi277_0 hl277_0
                                              replace p277 := eq_true p277
                                              replace q277 := eq_true q277
                                              have ea_ := Option.some.inj (hx275_0.symm.trans hx277_0)
                                              injection ea_ with ea_ en_ ec_
                                              subst ea_
                                              subst ec_
                                              clear en_
                                              have p278 : 0 ≤ (x10_2 : Int) := of_decide_eq_true (by first | (with_reducible assumption) | assumption)
                                              have q278 : x10_2 < (l0.length : Int) := of_decide_eq_true (by first | (with_reducible assumption) | assumption)
                                              obtain ⟨ad278, A278_0, c278_0, e278, hx278_0, hx278_1, hl278_0, hi278_0⟩ := at_T37 HR0.out x10_2 p278 q278
                                              obtain rfl : ad275 = ad278 := (by injection e278)
                                              replace hx278_0 := (HB.out.cell (World.block_lt_of_cell? w _ hx278_0)).trans hx278_0
                                              replace hx278_1 := (HB.out.cell (World.block_lt_of_cell? w _ hx278_1)).trans hx278_1
                                              have HR278_0 := Aside0.mk hi278_0
                                              have HC278_0 := Aside0.mk hl278_0
                                              clear hi278_0 hl278_0
                                              replace p278 := eq_true p278
                                              replace q278 := eq_true q278
                                              have ea_ := Option.some.inj (hx275_0.symm.trans hx278_0)
                                              injection ea_ with ea_ en_ ec_
                                              subst ea_
                                              subst ec_
                                              clear en_
                                              have p279 : 0 ≤ ((ji28) : Int) := of_decide_eq_true (by first | (with_reducible assumption) | assumption)
                                              have q279 : (ji28) < (x8_2.length : Int) := of_decide_eq_true (by first | (with_reducible assumption) | assumption)
                                              obtain ⟨ad279, e279, hx279_0⟩ := Kd.at_int (Kd.R_reads' HO_8.out).2.2 (ji28) p279 q279
                                              obtain rfl : (⟨go12, 0, none⟩ : Addr) = ad279 := (by injection e279)
                                              (first | simp only [add_plain] at hx279_0 | simp only [add_at] at hx279_0 | simp only [Addr.add, Nat.zero_add] at hx279_0 | skip)
                                              replace p279 := eq_true p279
                                              replace q279 := eq_true q279
                                              have p280 : 0 ≤ (x9_1 : Int) := of_decide_eq_true (by first | (with_reducible assumption) | assumption)
                                              have q280 : x9_1 < (x8_2.length : Int) := of_decide_eq_true (by first | (with_reducible assumption) | assumption)
                                              obtain ⟨ad280, e280, hx280_0⟩ := Kd.at_int (Kd.R_reads' HO_8.out).2.2 x9_1 p280 q280
                                              obtain rfl : (⟨go12, 0, none⟩ : Addr) = ad280 := (by injection e280)
                                              (first | simp only [add_plain] at hx280_0 | simp only [add_at] at hx280_0 | simp only [Addr.add, Nat.zero_add] at hx280_0 | skip)
                                              replace p280 := eq_true p280
                                              replace q280 := eq_true q280
                                              have p282 : 0 ≤ (x9_1 : Int) := of_decide_eq_true (by first | (with_reducible assumption) | assumption)
                                              have q282 : x9_1 < (x8_2.length : Int) := of_decide_eq_true (by first | (with_reducible assumption) | assumption)
                                              obtain ⟨ad282, e282, hx282_0⟩ := Kd.at_int (Kd.R_reads' HO_8.out).2.2 x9_1 p282 q282
                                              obtain rfl : (⟨go12, 0, none⟩ : Addr) = ad282 := (by injection e282)
                                              (first | simp only [add_plain] at hx282_0 | simp only [add_at] at hx282_0 | simp only [Addr.add, Nat.zero_add] at hx282_0 | skip)
                                              replace p282 := eq_true p282
                                              replace q282 := eq_true q282
                                              have p39 : 0 ≤ (x9_1 : Int) := of_decide_eq_true (by first | (with_reducible assumption) | assumption)
                                              have q39 : (x9_1 : Int) < ((x8_2.length : Int) : Int) := of_decide_eq_true (by first | (with_reducible assumption) | assumption)
                                              obtain ⟨hx39_0, hf39_0⟩ := Kd.R_celln 0 HO_8.out (x9_1 : Int) p39 q39
                                              replace p39 := eq_true p39
                                              replace q39 := eq_true q39
                                              have HP40 := Kd.R_putg HO_8.out (x9_1 : Int) (wrap64 ((rd x8_2 (ji28)) + 1))
                                              go_wp2_with (first | ((with_reducible refine gate_store (t := 3) (p := 100) rfl ?_); (try (rw [drewN_self wc]; generalize hq_ : World.drewN wc _ = wc; have n0_ := Aside0.mk (Kd.R_at hq_ HO_8.out); have n1_ := Aside0.mk (below_at hq_ HB.out); clear hq_ HO_8 HB; have HO_8 := n0_; have HB := n1_; clear n0_ n1_; (try (have HP40 := Kd.R_putg HO_8.out (x9_1 : Int) (wrap64 ((rd x8_2 (ji28)) + 1)))))); refine store_event (t := 3) (p := 100) (v := ?vo_w41) (w1 := (wc.setCell ⟨go12, (x9_1 : Int).toNat, none⟩ (.int .i64 (wrap64 ((rd x8_2 (ji28)) + 1))))) ?hg ?ho ?hn ?hr ?_; (case ho => rfl); (case hg => rfl); (case hn => rfl); (case hr => first | (go_simp; done) | (go_simp; rfl)); intro w41 hw; have hg : wc.grownBy w41 (some go12) := (by rw [hw]; exact HP40.2); have hp_ : Kd.R (Kd.int .i64) 3 w41 w.heap.size (fun _ => True) (.slice (some ⟨go12, 0, none⟩) x8_2.length co12) y283 := (by rw [hw, Ny283.out]; exact HP40.1); clear HP40; have n0_ := Aside0.mk (hp_); have n1_ := Aside0.mk ((by rw [hw]; exact below_set (HB.out) GB12.out : Below w.heap.size w w41)); clear HO_8; clear HB; have HO_8 := n0_; have HB := n1_; clear n0_ n1_; clear hg hw hp_))
                                              repeat (go_quiet (first | ((with_reducible refine gate_store (t := 3) (p := 100) rfl ?_); (try (rw [drewN_self wc]; generalize hq_ : World.drewN wc _ = wc; have n0_ := Aside0.mk (Kd.R_at hq_ HO_8.out); have n1_ := Aside0.mk (below_at hq_ HB.out); clear hq_ HO_8 HB; have HO_8 := n0_; have HB := n1_; clear n0_ n1_; (try (have HP40 := Kd.R_putg HO_8.out (x9_1 : Int) (wrap64 ((rd x8_2 (ji28)) + 1)))))); refine store_event (t := 3) (p := 100) (v := ?vo_w41) (w1 := (wc.setCell ⟨go12, (x9_1 : Int).toNat, none⟩ (.int .i64 (wrap64 ((rd x8_2 (ji28)) + 1))))) ?hg ?ho ?hn ?hr ?_; (case ho => rfl); (case hg => rfl); (case hn => rfl); (case hr => first | (go_simp; done) | (go_simp; rfl)); intro w41 hw; have hg : wc.grownBy w41 (some go12) := (by rw [hw]; exact HP40.2); have hp_ : Kd.R (Kd.int .i64) 3 w41 w.heap.size (fun _ => True) (.slice (some ⟨go12, 0, none⟩) x8_2.length co12) y283 := (by rw [hw, Ny283.out]; exact HP40.1); clear HP40; have n0_ := Aside0.mk (hp_); have n1_ := Aside0.mk ((by rw [hw]; exact below_set (HB.out) GB12.out : Below w.heap.size w w41)); clear HO_8; clear HB; have HO_8 := n0_; have HB := n1_; clear n0_ n1_; clear hg hw hp_)); try go_wp2_with (first | ((with_reducible refine gate_store (t := 3) (p := 100) rfl ?_); (try (rw [drewN_self wc]; generalize hq_ : World.drewN wc _ = wc; have n0_ := Aside0.mk (Kd.R_at hq_ HO_8.out); have n1_ := Aside0.mk (below_at hq_ HB.out); clear hq_ HO_8 HB; have HO_8 := n0_; have HB := n1_; clear n0_ n1_; (try (have HP40 := Kd.R_putg HO_8.out (x9_1 : Int) (wrap64 ((rd x8_2 (ji28)) + 1)))))); refine store_event (t := 3) (p := 100) (v := ?vo_w41) (w1 := (wc.setCell ⟨go12, (x9_1 : Int).toNat, none⟩ (.int .i64 (wrap64 ((rd x8_2 (ji28)) + 1))))) ?hg ?ho ?hn ?hr ?_; (case ho => rfl); (case hg => rfl); (case hn => rfl); (case hr => first | (go_simp; done) | (go_simp; rfl)); intro w41 hw; have hg : wc.grownBy w41 (some go12) := (by rw [hw]; exact HP40.2); have hp_ : Kd.R (Kd.int .i64) 3 w41 w.heap.size (fun _ => True) (.slice (some ⟨go12, 0, none⟩) x8_2.length co12) y283 := (by rw [hw, Ny283.out]; exact HP40.1); clear HP40; have n0_ := Aside0.mk (hp_); have n1_ := Aside0.mk ((by rw [hw]; exact below_set (HB.out) GB12.out : Below w.heap.size w w41)); clear HO_8; clear HB; have HO_8 := n0_; have HB := n1_; clear n0_ n1_; clear hg hw hp_)))
                                              (try simp only [← hl8_2])
                                              go_roundg kj15
                                              case measure => have := HK1.out; have := HK2.out; have := HJ15.out; omega
                                              case rel => exact ⟨(y283), (wrap64 (x10_2 + 1)), (by first | rfl | (simp; done) | (simp [*]; done)), H', ⟨by have := HK1.out; have := HK2.out; have := HJ15.out; omega⟩, ⟨by (try simp only [hl8_2]); (with_reducible repeat (first | apply Kd.R_alloc | apply Kd.R_drewN | apply Kd.R_drew)); first | exact HO_8.out | (rw [Ny283.out]; exact (Kd.R_putg (Kd.R_drewN HO_8.out _) (x9_1 : Int) _).1)⟩, ⟨by first | ((repeat (first | (with_reducible first | exact HB.out | apply below_alloc | apply pw_below_drewN | apply below_drew1) | exact HB.out)); done) | exact below_set (pw_below_drewN HB.out _) GB12.out⟩⟩
                                            · rw [if_neg c38] at H
                                              have c38b0 : decide ((wrap64 ((rd x8_2 (ji28)) + 1)) < (rd x8_2 x9_1)) = false := decide_eq_false c38
                                              clear c38
                                              have H' := Aside0.mk H
                                              clear H
                                              have p275 : 0 ≤ (x10_2 : Int) := of_decide_eq_true (by first | (with_reducible assumption) | assumption)
                                              have q275 : x10_2 < (l0.length : Int) := of_decide_eq_true (by first | (with_reducible assumption) | assumption)
                                              obtain ⟨ad275, A275_0, c275_0, e275, hx275_0, hx275_1, hl275_0, hi275_0⟩ := at_T37 HR0.out x10_2 p275 q275
                                              cases e275
                                              replace hx275_0 := (HB.out.cell (World.block_lt_of_cell? w _ hx275_0)).trans hx275_0
                                              replace hx275_1 := (HB.out.cell (World.block_lt_of_cell? w _ hx275_1)).trans hx275_1
                                              have HR275_0 := Aside0.mk hi275_0
                                              have HC275_0 := Aside0.mk hl275_0
                                              clear hi275_0 hl275_0
                                              replace p275 := eq_true p275
                                              replace q275 := eq_true q275
                                              have p276 : 0 ≤ ((ji28) : Int) := of_decide_eq_true (by first | (with_reducible assumption) | assumption)
                                              have q276 : (ji28) < (x8_2.length : Int) := of_decide_eq_true (by first | (with_reducible assumption) | assumption)
                                              obtain ⟨ad276, e276, hx276_0⟩ := Kd.at_int (Kd.R_reads' HO_8.out).2.2 (ji28) p276 q276
                                              obtain rfl : (⟨go12, 0, none⟩ : Addr) = ad276 := (by injection e276)
                                              (first | simp only [add_plain] at hx276_0 | simp only [add_at] at hx276_0 | simp only [Addr.add, Nat.zero_add] at hx276_0 | skip)
                                              replace p276 := eq_true p276
                                              replace q276 := eq_true q276
                                              have p277 : 0 ≤ (x10_2 : Int) := of_decide_eq_true (by first | (with_reducible assumption) | assumption)
                                              have q277 : x10_2 < (l0.length : Int) := of_decide_eq_true (by first | (with_reducible assumption) | assumption)
                                              obtain ⟨ad277, A277_0, c277_0, e277, hx277_0, hx277_1, hl277_0, hi277_0⟩ := at_T37 HR0.out x10_2 p277 q277
                                              obtain rfl : ad275 = ad277 := (by injection e277)
                                              replace hx277_0 := (HB.out.cell (World.block_lt_of_cell? w _ hx277_0)).trans hx277_0
                                              replace hx277_1 := (HB.out.cell (World.block_lt_of_cell? w _ hx277_1)).trans hx277_1
                                              have HR277_0 := Aside0.mk hi277_0
                                              have HC277_0 := Aside0.mk hl277_0
                                              clear hi277_0 hl277_0
                                              replace p277 := eq_true p277
                                              replace q277 := eq_true q277
                                              have ea_ := Option.some.inj (hx275_0.symm.trans hx277_0)
                                              injection ea_ with ea_ en_ ec_
                                              subst ea_
                                              subst ec_
                                              clear en_
                                              have p278 : 0 ≤ (x10_2 : Int) := of_decide_eq_true (by first | (with_reducible assumption) | assumption)
                                              have q278 : x10_2 < (l0.length : Int) := of_decide_eq_true (by first | (with_reducible assumption) | assumption)
                                              obtain ⟨ad278, A278_0, c278_0, e278, hx278_0, hx278_1, hl278_0, hi278_0⟩ := at_T37 HR0.out x10_2 p278 q278
                                              obtain rfl : ad275 = ad278 := (by injection e278)
                                              replace hx278_0 := (HB.out.cell (World.block_lt_of_cell? w _ hx278_0)).trans hx278_0
                                              replace hx278_1 := (HB.out.cell (World.block_lt_of_cell? w _ hx278_1)).trans hx278_1
                                              have HR278_0 := Aside0.mk hi278_0
                                              have HC278_0 := Aside0.mk hl278_0
                                              clear hi278_0 hl278_0
                                              replace p278 := eq_true p278
                                              replace q278 := eq_true q278
                                              have ea_ := Option.some.inj (hx275_0.symm.trans hx278_0)
                                              injection ea_ with ea_ en_ ec_
                                              subst ea_
                                              subst ec_
                                              clear en_
                                              have p279 : 0 ≤ ((ji28) : Int) := of_decide_eq_true (by first | (with_reducible assumption) | assumption)
                                              have q279 : (ji28) < (x8_2.length : Int) := of_decide_eq_true (by first | (with_reducible assumption) | assumption)
                                              obtain ⟨ad279, e279, hx279_0⟩ := Kd.at_int (Kd.R_reads' HO_8.out).2.2 (ji28) p279 q279
                                              obtain rfl : (⟨go12, 0, none⟩ : Addr) = ad279 := (by injection e279)
                                              (first | simp only [add_plain] at hx279_0 | simp only [add_at] at hx279_0 | simp only [Addr.add, Nat.zero_add] at hx279_0 | skip)
                                              replace p279 := eq_true p279
                                              replace q279 := eq_true q279
                                              have p280 : 0 ≤ (x9_1 : Int) := of_decide_eq_true (by first | (with_reducible assumption) | assumption)
                                              have q280 : x9_1 < (x8_2.length : Int) := of_decide_eq_true (by first | (with_reducible assumption) | assumption)
                                              obtain ⟨ad280, e280, hx280_0⟩ := Kd.at_int (Kd.R_reads' HO_8.out).2.2 x9_1 p280 q280
                                              obtain rfl : (⟨go12, 0, none⟩ : Addr) = ad280 := (by injection e280)
                                              (first | simp only [add_plain] at hx280_0 | simp only [add_at] at hx280_0 | simp only [Addr.add, Nat.zero_add] at hx280_0 | skip)
                                              replace p280 := eq_true p280
                                              replace q280 := eq_true q280
                                              have p282 : 0 ≤ (x9_1 : Int) := of_decide_eq_true (by first | (with_reducible assumption) | assumption)
                                              have q282 : x9_1 < (x8_2.length : Int) := of_decide_eq_true (by first | (with_reducible assumption) | assumption)
                                              obtain ⟨ad282, e282, hx282_0⟩ := Kd.at_int (Kd.R_reads' HO_8.out).2.2 x9_1 p282 q282
                                              obtain rfl : (⟨go12, 0, none⟩ : Addr) = ad282 := (by injection e282)
                                              (first | simp only [add_plain] at hx282_0 | simp only [add_at] at hx282_0 | simp only [Addr.add, Nat.zero_add] at hx282_0 | skip)
                                              replace p282 := eq_true p282
                                              replace q282 := eq_true q282
                                              go_wp2
                                              repeat (go_quiet (fail); try go_wp2)
                                              (try simp only [← hl8_2])
                                              go_roundg kj15
                                              case measure => have := HK1.out; have := HK2.out; have := HJ15.out; omega
                                              case rel => exact ⟨(x8_2), (wrap64 (x10_2 + 1)), (by first | rfl | (simp; done) | (simp [*]; done)), H', ⟨by have := HK1.out; have := HK2.out; have := HJ15.out; omega⟩, ⟨by (try simp only [hl8_2]); (with_reducible repeat (first | apply Kd.R_alloc | apply Kd.R_drewN | apply Kd.R_drew)); exact HO_8.out⟩, ⟨by repeat (first | (with_reducible first | exact HB.out | apply below_alloc | apply pw_below_drewN | apply below_drew1) | exact HB.out)⟩⟩
                                        · rw [if_neg c33] at H
                                          exact absurd H (by simp)
                                      · rw [if_neg c32] at H
                                        exact absurd H (by simp)
                                    · replace c31 := Bool.eq_false_iff.mpr c31
                                      subst c31
                                      have H1 : (if 0 ≤ x9_1 then (if x9_1 < (x8_2.length : Int) then (if (rd x8_2 x9_1) < 0 then (spec_l6fLeast.l1 kj15 l0 l1 false (x8_2.set (x9_1 : Int).toNat (wrap64 ((rd x8_2 (ji28)) + ((rd_T37 l0 x10_2).f1)))) x9_1 (wrap64 (x10_2 + 1))) else (if (wrap64 ((rd x8_2 (ji28)) + ((rd_T37 l0 x10_2).f1))) < (rd x8_2 x9_1) then (spec_l6fLeast.l1 kj15 l0 l1 false (x8_2.set (x9_1 : Int).toNat (wrap64 ((rd x8_2 (ji28)) + ((rd_T37 l0 x10_2).f1)))) x9_1 (wrap64 (x10_2 + 1))) else (spec_l6fLeast.l1 kj15 l0 l1 false x8_2 x9_1 (wrap64 (x10_2 + 1))))) else (none)) else (none)) = some r := by rw [if_neg (show ¬ (false = true) by decide)] at H; exact H
                                      clear H
                                      have H := H1
                                      clear H1
                                      by_cases c42 : 0 ≤ x9_1
                                      · rw [if_pos c42] at H
                                        have c42b0 : decide (0 ≤ x9_1) = true := decide_eq_true c42
                                        clear c42
                                        by_cases c43 : x9_1 < (x8_2.length : Int)
                                        · rw [if_pos c43] at H
                                          have c43b0 : decide (x9_1 < (x8_2.length : Int)) = true := decide_eq_true c43
                                          clear c43
                                          by_cases c44 : (rd x8_2 x9_1) < 0
                                          · rw [if_pos c44] at H
                                            have c44b0 : decide ((rd x8_2 x9_1) < 0) = true := decide_eq_true c44
                                            clear c44
                                            obtain ⟨y285, hy285⟩ : ∃ y_ : List Int, y_ = (x8_2.set (x9_1 : Int).toNat (wrap64 ((rd x8_2 (ji28)) + ((rd_T37 l0 x10_2).f1)))) := ⟨_, rfl⟩
                                            replace H : (spec_l6fLeast.l1 kj15 l0 l1 false y285 x9_1 (wrap64 (x10_2 + 1))) = some r := by first | (rw [hy285]; with_reducible exact H) | (have H2_ := (Option.bind_some _ _).symm.trans H; rw [hy285]; with_reducible exact H2_) | (have H2_ := (Option.bind_some _ _).symm.trans H; with_reducible exact H2_) | with_reducible exact H | (rw [hy285]; exact H) | exact H
                                            have Ny285 := Aside0.mk hy285
                                            clear hy285
                                            have H' := Aside0.mk H
                                            clear H
                                            have p275 : 0 ≤ (x10_2 : Int) := of_decide_eq_true (by first | (with_reducible assumption) | assumption)
                                            have q275 : x10_2 < (l0.length : Int) := of_decide_eq_true (by first | (with_reducible assumption) | assumption)
                                            obtain ⟨ad275, A275_0, c275_0, e275, hx275_0, hx275_1, hl275_0, hi275_0⟩ := at_T37 HR0.out x10_2 p275 q275
                                            cases e275
                                            replace hx275_0 := (HB.out.cell (World.block_lt_of_cell? w _ hx275_0)).trans hx275_0
                                            replace hx275_1 := (HB.out.cell (World.block_lt_of_cell? w _ hx275_1)).trans hx275_1
                                            have HR275_0 := Aside0.mk hi275_0
                                            have HC275_0 := Aside0.mk hl275_0
                                            clear hi275_0 hl275_0
                                            replace p275 := eq_true p275
                                            replace q275 := eq_true q275
                                            have p276 : 0 ≤ ((ji28) : Int) := of_decide_eq_true (by first | (with_reducible assumption) | assumption)
                                            have q276 : (ji28) < (x8_2.length : Int) := of_decide_eq_true (by first | (with_reducible assumption) | assumption)
                                            obtain ⟨ad276, e276, hx276_0⟩ := Kd.at_int (Kd.R_reads' HO_8.out).2.2 (ji28) p276 q276
                                            obtain rfl : (⟨go12, 0, none⟩ : Addr) = ad276 := (by injection e276)
                                            (first | simp only [add_plain] at hx276_0 | simp only [add_at] at hx276_0 | simp only [Addr.add, Nat.zero_add] at hx276_0 | skip)
                                            replace p276 := eq_true p276
                                            replace q276 := eq_true q276
                                            have p277 : 0 ≤ (x10_2 : Int) := of_decide_eq_true (by first | (with_reducible assumption) | assumption)
                                            have q277 : x10_2 < (l0.length : Int) := of_decide_eq_true (by first | (with_reducible assumption) | assumption)
                                            obtain ⟨ad277, A277_0, c277_0, e277, hx277_0, hx277_1, hl277_0, hi277_0⟩ := at_T37 HR0.out x10_2 p277 q277
                                            obtain rfl : ad275 = ad277 := (by injection e277)
                                            replace hx277_0 := (HB.out.cell (World.block_lt_of_cell? w _ hx277_0)).trans hx277_0
                                            replace hx277_1 := (HB.out.cell (World.block_lt_of_cell? w _ hx277_1)).trans hx277_1
                                            have HR277_0 := Aside0.mk hi277_0
                                            have HC277_0 := Aside0.mk hl277_0
                                            clear hi277_0 hl277_0
                                            replace p277 := eq_true p277
                                            replace q277 := eq_true q277
                                            have ea_ := Option.some.inj (hx275_0.symm.trans hx277_0)
                                            injection ea_ with ea_ en_ ec_
                                            subst ea_
                                            subst ec_
                                            clear en_
                                            have p284 : 0 ≤ (x9_1 : Int) := of_decide_eq_true (by first | (with_reducible assumption) | assumption)
                                            have q284 : x9_1 < (x8_2.length : Int) := of_decide_eq_true (by first | (with_reducible assumption) | assumption)
                                            obtain ⟨ad284, e284, hx284_0⟩ := Kd.at_int (Kd.R_reads' HO_8.out).2.2 x9_1 p284 q284
                                            obtain rfl : (⟨go12, 0, none⟩ : Addr) = ad284 := (by injection e284)
                                            (first | simp only [add_plain] at hx284_0 | simp only [add_at] at hx284_0 | simp only [Addr.add, Nat.zero_add] at hx284_0 | skip)
                                            replace p284 := eq_true p284
                                            replace q284 := eq_true q284
                                            have p45 : 0 ≤ (x9_1 : Int) := of_decide_eq_true (by first | (with_reducible assumption) | assumption)
                                            have q45 : (x9_1 : Int) < ((x8_2.length : Int) : Int) := of_decide_eq_true (by first | (with_reducible assumption) | assumption)
                                            obtain ⟨hx45_0, hf45_0⟩ := Kd.R_celln 0 HO_8.out (x9_1 : Int) p45 q45
                                            replace p45 := eq_true p45
                                            replace q45 := eq_true q45
                                            have HP46 := Kd.R_putg HO_8.out (x9_1 : Int) (wrap64 ((rd x8_2 (ji28)) + ((rd_T37 l0 x10_2).f1)))
                                            go_wp2_with (first | ((with_reducible refine gate_store (t := 3) (p := 100) rfl ?_); (try (rw [drewN_self wc]; generalize hq_ : World.drewN wc _ = wc; have n0_ := Aside0.mk (Kd.R_at hq_ HO_8.out); have n1_ := Aside0.mk (below_at hq_ HB.out); clear hq_ HO_8 HB; have HO_8 := n0_; have HB := n1_; clear n0_ n1_; (try (have HP46 := Kd.R_putg HO_8.out (x9_1 : Int) (wrap64 ((rd x8_2 (ji28)) + ((rd_T37 l0 x10_2).f1))))))); refine store_event (t := 3) (p := 100) (v := ?vo_w47) (w1 := (wc.setCell ⟨go12, (x9_1 : Int).toNat, none⟩ (.int .i64 (wrap64 ((rd x8_2 (ji28)) + ((rd_T37 l0 x10_2).f1)))))) ?hg ?ho ?hn ?hr ?_; (case ho => rfl); (case hg => rfl); (case hn => rfl); (case hr => first | (go_simp; done) | (go_simp; rfl)); intro w47 hw; have hg : wc.grownBy w47 (some go12) := (by rw [hw]; exact HP46.2); have hp_ : Kd.R (Kd.int .i64) 3 w47 w.heap.size (fun _ => True) (.slice (some ⟨go12, 0, none⟩) x8_2.length co12) y285 := (by rw [hw, Ny285.out]; exact HP46.1); clear HP46; have n0_ := Aside0.mk (hp_); have n1_ := Aside0.mk ((by rw [hw]; exact below_set (HB.out) GB12.out : Below w.heap.size w w47)); clear HO_8; clear HB; have HO_8 := n0_; have HB := n1_; clear n0_ n1_; clear hg hw hp_))
                                            repeat (go_quiet (first | ((with_reducible refine gate_store (t := 3) (p := 100) rfl ?_); (try (rw [drewN_self wc]; generalize hq_ : World.drewN wc _ = wc; have n0_ := Aside0.mk (Kd.R_at hq_ HO_8.out); have n1_ := Aside0.mk (below_at hq_ HB.out); clear hq_ HO_8 HB; have HO_8 := n0_; have HB := n1_; clear n0_ n1_; (try (have HP46 := Kd.R_putg HO_8.out (x9_1 : Int) (wrap64 ((rd x8_2 (ji28)) + ((rd_T37 l0 x10_2).f1))))))); refine store_event (t := 3) (p := 100) (v := ?vo_w47) (w1 := (wc.setCell ⟨go12, (x9_1 : Int).toNat, none⟩ (.int .i64 (wrap64 ((rd x8_2 (ji28)) + ((rd_T37 l0 x10_2).f1)))))) ?hg ?ho ?hn ?hr ?_; (case ho => rfl); (case hg => rfl); (case hn => rfl); (case hr => first | (go_simp; done) | (go_simp; rfl)); intro w47 hw; have hg : wc.grownBy w47 (some go12) := (by rw [hw]; exact HP46.2); have hp_ : Kd.R (Kd.int .i64) 3 w47 w.heap.size (fun _ => True) (.slice (some ⟨go12, 0, none⟩) x8_2.length co12) y285 := (by rw [hw, Ny285.out]; exact HP46.1); clear HP46; have n0_ := Aside0.mk (hp_); have n1_ := Aside0.mk ((by rw [hw]; exact below_set (HB.out) GB12.out : Below w.heap.size w w47)); clear HO_8; clear HB; have HO_8 := n0_; have HB := n1_; clear n0_ n1_; clear hg hw hp_)); try go_wp2_with (first | ((with_reducible refine gate_store (t := 3) (p := 100) rfl ?_); (try (rw [drewN_self wc]; generalize hq_ : World.drewN wc _ = wc; have n0_ := Aside0.mk (Kd.R_at hq_ HO_8.out); have n1_ := Aside0.mk (below_at hq_ HB.out); clear hq_ HO_8 HB; have HO_8 := n0_; have HB := n1_; clear n0_ n1_; (try (have HP46 := Kd.R_putg HO_8.out (x9_1 : Int) (wrap64 ((rd x8_2 (ji28)) + ((rd_T37 l0 x10_2).f1))))))); refine store_event (t := 3) (p := 100) (v := ?vo_w47) (w1 := (wc.setCell ⟨go12, (x9_1 : Int).toNat, none⟩ (.int .i64 (wrap64 ((rd x8_2 (ji28)) + ((rd_T37 l0 x10_2).f1)))))) ?hg ?ho ?hn ?hr ?_; (case ho => rfl); (case hg => rfl); (case hn => rfl); (case hr => first | (go_simp; done) | (go_simp; rfl)); intro w47 hw; have hg : wc.grownBy w47 (some go12) := (by rw [hw]; exact HP46.2); have hp_ : Kd.R (Kd.int .i64) 3 w47 w.heap.size (fun _ => True) (.slice (some ⟨go12, 0, none⟩) x8_2.length co12) y285 := (by rw [hw, Ny285.out]; exact HP46.1); clear HP46; have n0_ := Aside0.mk (hp_); have n1_ := Aside0.mk ((by rw [hw]; exact below_set (HB.out) GB12.out : Below w.heap.size w w47)); clear HO_8; clear HB; have HO_8 := n0_; have HB := n1_; clear n0_ n1_; clear hg hw hp_)))
                                            (try simp only [← hl8_2])
                                            go_roundg kj15
                                            case measure => have := HK1.out; have := HK2.out; have := HJ15.out; omega
                                            case rel => exact ⟨(y285), (wrap64 (x10_2 + 1)), (by first | rfl | (simp; done) | (simp [*]; done)), H', ⟨by have := HK1.out; have := HK2.out; have := HJ15.out; omega⟩, ⟨by (try simp only [hl8_2]); (with_reducible repeat (first | apply Kd.R_alloc | apply Kd.R_drewN | apply Kd.R_drew)); first | exact HO_8.out | (rw [Ny285.out]; exact (Kd.R_putg (Kd.R_drewN HO_8.out _) (x9_1 : Int) _).1)⟩, ⟨by first | ((repeat (first | (with_reducible first | exact HB.out | apply below_alloc | apply pw_below_drewN | apply below_drew1) | exact HB.out)); done) | exact below_set (pw_below_drewN HB.out _) GB12.out⟩⟩
                                          · rw [if_neg c44] at H
                                            have c44b0 : decide ((rd x8_2 x9_1) < 0) = false := decide_eq_false c44
                                            clear c44
                                            by_cases c48 : (wrap64 ((rd x8_2 (ji28)) + ((rd_T37 l0 x10_2).f1))) < (rd x8_2 x9_1)
                                            · rw [if_pos c48] at H
                                              have c48b0 : decide ((wrap64 ((rd x8_2 (ji28)) + ((rd_T37 l0 x10_2).f1))) < (rd x8_2 x9_1)) = true := decide_eq_true c48
                                              clear c48
                                              obtain ⟨y287, hy287⟩ : ∃ y_ : List Int, y_ = (x8_2.set (x9_1 : Int).toNat (wrap64 ((rd x8_2 (ji28)) + ((rd_T37 l0 x10_2).f1)))) := ⟨_, rfl⟩
                                              replace H : (spec_l6fLeast.l1 kj15 l0 l1 false y287 x9_1 (wrap64 (x10_2 + 1))) = some r := by first | (rw [hy287]; with_reducible exact H) | (have H2_ := (Option.bind_some _ _).symm.trans H; rw [hy287]; with_reducible exact H2_) | (have H2_ := (Option.bind_some _ _).symm.trans H; with_reducible exact H2_) | with_reducible exact H | (rw [hy287]; exact H) | exact H
                                              have Ny287 := Aside0.mk hy287
                                              clear hy287
                                              have H' := Aside0.mk H
                                              clear H
                                              have p275 : 0 ≤ (x10_2 : Int) := of_decide_eq_true (by first | (with_reducible assumption) | assumption)
                                              have q275 : x10_2 < (l0.length : Int) := of_decide_eq_true (by first | (with_reducible assumption) | assumption)
                                              obtain ⟨ad275, A275_0, c275_0, e275, hx275_0, hx275_1, hl275_0, hi275_0⟩ := at_T37 HR0.out x10_2 p275 q275
                                              cases e275
                                              replace hx275_0 := (HB.out.cell (World.block_lt_of_cell? w _ hx275_0)).trans hx275_0
                                              replace hx275_1 := (HB.out.cell (World.block_lt_of_cell? w _ hx275_1)).trans hx275_1
                                              have HR275_0 := Aside0.mk hi275_0
                                              have HC275_0 := Aside0.mk hl275_0
                                              clear hi275_0 hl275_0
                                              replace p275 := eq_true p275
                                              replace q275 := eq_true q275
                                              have p276 : 0 ≤ ((ji28) : Int) := of_decide_eq_true (by first | (with_reducible assumption) | assumption)
                                              have q276 : (ji28) < (x8_2.length : Int) := of_decide_eq_true (by first | (with_reducible assumption) | assumption)
                                              obtain ⟨ad276, e276, hx276_0⟩ := Kd.at_int (Kd.R_reads' HO_8.out).2.2 (ji28) p276 q276
                                              obtain rfl : (⟨go12, 0, none⟩ : Addr) = ad276 := (by injection e276)
                                              (first | simp only [add_plain] at hx276_0 | simp only [add_at] at hx276_0 | simp only [Addr.add, Nat.zero_add] at hx276_0 | skip)
                                              replace p276 := eq_true p276
                                              replace q276 := eq_true q276
                                              have p277 : 0 ≤ (x10_2 : Int) := of_decide_eq_true (by first | (with_reducible assumption) | assumption)
                                              have q277 : x10_2 < (l0.length : Int) := of_decide_eq_true (by first | (with_reducible assumption) | assumption)
                                              obtain ⟨ad277, A277_0, c277_0, e277, hx277_0, hx277_1, hl277_0, hi277_0⟩ := at_T37 HR0.out x10_2 p277 q277
                                              obtain rfl : ad275 = ad277 := (by injection e277)
                                              replace hx277_0 := (HB.out.cell (World.block_lt_of_cell? w _ hx277_0)).trans hx277_0
                                              replace hx277_1 := (HB.out.cell (World.block_lt_of_cell? w _ hx277_1)).trans hx277_1
                                              have HR277_0 := Aside0.mk hi277_0
                                              have HC277_0 := Aside0.mk hl277_0
                                              clear hi277_0 hl277_0
                                              replace p277 := eq_true p277
                                              replace q277 := eq_true q277
                                              have ea_ := Option.some.inj (hx275_0.symm.trans hx277_0)
                                              injection ea_ with ea_ en_ ec_
                                              subst ea_
                                              subst ec_
                                              clear en_
                                              have p284 : 0 ≤ (x9_1 : Int) := of_decide_eq_true (by first | (with_reducible assumption) | assumption)
                                              have q284 : x9_1 < (x8_2.length : Int) := of_decide_eq_true (by first | (with_reducible assumption) | assumption)
                                              obtain ⟨ad284, e284, hx284_0⟩ := Kd.at_int (Kd.R_reads' HO_8.out).2.2 x9_1 p284 q284
                                              obtain rfl : (⟨go12, 0, none⟩ : Addr) = ad284 := (by injection e284)
                                              (first | simp only [add_plain] at hx284_0 | simp only [add_at] at hx284_0 | simp only [Addr.add, Nat.zero_add] at hx284_0 | skip)
                                              replace p284 := eq_true p284
                                              replace q284 := eq_true q284
                                              have p286 : 0 ≤ (x9_1 : Int) := of_decide_eq_true (by first | (with_reducible assumption) | assumption)
                                              have q286 : x9_1 < (x8_2.length : Int) := of_decide_eq_true (by first | (with_reducible assumption) | assumption)
                                              obtain ⟨ad286, e286, hx286_0⟩ := Kd.at_int (Kd.R_reads' HO_8.out).2.2 x9_1 p286 q286
                                              obtain rfl : (⟨go12, 0, none⟩ : Addr) = ad286 := (by injection e286)
                                              (first | simp only [add_plain] at hx286_0 | simp only [add_at] at hx286_0 | simp only [Addr.add, Nat.zero_add] at hx286_0 | skip)
                                              replace p286 := eq_true p286
                                              replace q286 := eq_true q286
                                              have p49 : 0 ≤ (x9_1 : Int) := of_decide_eq_true (by first | (with_reducible assumption) | assumption)
                                              have q49 : (x9_1 : Int) < ((x8_2.length : Int) : Int) := of_decide_eq_true (by first | (with_reducible assumption) | assumption)
                                              obtain ⟨hx49_0, hf49_0⟩ := Kd.R_celln 0 HO_8.out (x9_1 : Int) p49 q49
                                              replace p49 := eq_true p49
                                              replace q49 := eq_true q49
                                              have HP50 := Kd.R_putg HO_8.out (x9_1 : Int) (wrap64 ((rd x8_2 (ji28)) + ((rd_T37 l0 x10_2).f1)))
                                              go_wp2_with (first | ((with_reducible refine gate_store (t := 3) (p := 100) rfl ?_); (try (rw [drewN_self wc]; generalize hq_ : World.drewN wc _ = wc; have n0_ := Aside0.mk (Kd.R_at hq_ HO_8.out); have n1_ := Aside0.mk (below_at hq_ HB.out); clear hq_ HO_8 HB; have HO_8 := n0_; have HB := n1_; clear n0_ n1_; (try (have HP50 := Kd.R_putg HO_8.out (x9_1 : Int) (wrap64 ((rd x8_2 (ji28)) + ((rd_T37 l0 x10_2).f1))))))); refine store_event (t := 3) (p := 100) (v := ?vo_w51) (w1 := (wc.setCell ⟨go12, (x9_1 : Int).toNat, none⟩ (.int .i64 (wrap64 ((rd x8_2 (ji28)) + ((rd_T37 l0 x10_2).f1)))))) ?hg ?ho ?hn ?hr ?_; (case ho => rfl); (case hg => rfl); (case hn => rfl); (case hr => first | (go_simp; done) | (go_simp; rfl)); intro w51 hw; have hg : wc.grownBy w51 (some go12) := (by rw [hw]; exact HP50.2); have hp_ : Kd.R (Kd.int .i64) 3 w51 w.heap.size (fun _ => True) (.slice (some ⟨go12, 0, none⟩) x8_2.length co12) y287 := (by rw [hw, Ny287.out]; exact HP50.1); clear HP50; have n0_ := Aside0.mk (hp_); have n1_ := Aside0.mk ((by rw [hw]; exact below_set (HB.out) GB12.out : Below w.heap.size w w51)); clear HO_8; clear HB; have HO_8 := n0_; have HB := n1_; clear n0_ n1_; clear hg hw hp_))
                                              repeat (go_quiet (first | ((with_reducible refine gate_store (t := 3) (p := 100) rfl ?_); (try (rw [drewN_self wc]; generalize hq_ : World.drewN wc _ = wc; have n0_ := Aside0.mk (Kd.R_at hq_ HO_8.out); have n1_ := Aside0.mk (below_at hq_ HB.out); clear hq_ HO_8 HB; have HO_8 := n0_; have HB := n1_; clear n0_ n1_; (try (have HP50 := Kd.R_putg HO_8.out (x9_1 : Int) (wrap64 ((rd x8_2 (ji28)) + ((rd_T37 l0 x10_2).f1))))))); refine store_event (t := 3) (p := 100) (v := ?vo_w51) (w1 := (wc.setCell ⟨go12, (x9_1 : Int).toNat, none⟩ (.int .i64 (wrap64 ((rd x8_2 (ji28)) + ((rd_T37 l0 x10_2).f1)))))) ?hg ?ho ?hn ?hr ?_; (case ho => rfl); (case hg => rfl); (case hn => rfl); (case hr => first | (go_simp; done) | (go_simp; rfl)); intro w51 hw; have hg : wc.grownBy w51 (some go12) := (by rw [hw]; exact HP50.2); have hp_ : Kd.R (Kd.int .i64) 3 w51 w.heap.size (fun _ => True) (.slice (some ⟨go12, 0, none⟩) x8_2.length co12) y287 := (by rw [hw, Ny287.out]; exact HP50.1); clear HP50; have n0_ := Aside0.mk (hp_); have n1_ := Aside0.mk ((by rw [hw]; exact below_set (HB.out) GB12.out : Below w.heap.size w w51)); clear HO_8; clear HB; have HO_8 := n0_; have HB := n1_; clear n0_ n1_; clear hg hw hp_)); try go_wp2_with (first | ((with_reducible refine gate_store (t := 3) (p := 100) rfl ?_); (try (rw [drewN_self wc]; generalize hq_ : World.drewN wc _ = wc; have n0_ := Aside0.mk (Kd.R_at hq_ HO_8.out); have n1_ := Aside0.mk (below_at hq_ HB.out); clear hq_ HO_8 HB; have HO_8 := n0_; have HB := n1_; clear n0_ n1_; (try (have HP50 := Kd.R_putg HO_8.out (x9_1 : Int) (wrap64 ((rd x8_2 (ji28)) + ((rd_T37 l0 x10_2).f1))))))); refine store_event (t := 3) (p := 100) (v := ?vo_w51) (w1 := (wc.setCell ⟨go12, (x9_1 : Int).toNat, none⟩ (.int .i64 (wrap64 ((rd x8_2 (ji28)) + ((rd_T37 l0 x10_2).f1)))))) ?hg ?ho ?hn ?hr ?_; (case ho => rfl); (case hg => rfl); (case hn => rfl); (case hr => first | (go_simp; done) | (go_simp; rfl)); intro w51 hw; have hg : wc.grownBy w51 (some go12) := (by rw [hw]; exact HP50.2); have hp_ : Kd.R (Kd.int .i64) 3 w51 w.heap.size (fun _ => True) (.slice (some ⟨go12, 0, none⟩) x8_2.length co12) y287 := (by rw [hw, Ny287.out]; exact HP50.1); clear HP50; have n0_ := Aside0.mk (hp_); have n1_ := Aside0.mk ((by rw [hw]; exact below_set (HB.out) GB12.out : Below w.heap.size w w51)); clear HO_8; clear HB; have HO_8 := n0_; have HB := n1_; clear n0_ n1_; clear hg hw hp_)))
                                              (try simp only [← hl8_2])
                                              go_roundg kj15
                                              case measure => have := HK1.out; have := HK2.out; have := HJ15.out; omega
                                              case rel => exact ⟨(y287), (wrap64 (x10_2 + 1)), (by first | rfl | (simp; done) | (simp [*]; done)), H', ⟨by have := HK1.out; have := HK2.out; have := HJ15.out; omega⟩, ⟨by (try simp only [hl8_2]); (with_reducible repeat (first | apply Kd.R_alloc | apply Kd.R_drewN | apply Kd.R_drew)); first | exact HO_8.out | (rw [Ny287.out]; exact (Kd.R_putg (Kd.R_drewN HO_8.out _) (x9_1 : Int) _).1)⟩, ⟨by first | ((repeat (first | (with_reducible first | exact HB.out | apply below_alloc | apply pw_below_drewN | apply below_drew1) | exact HB.out)); done) | exact below_set (pw_below_drewN HB.out _) GB12.out⟩⟩
                                            · rw [if_neg c48] at H
                                              have c48b0 : decide ((wrap64 ((rd x8_2 (ji28)) + ((rd_T37 l0 x10_2).f1))) < (rd x8_2 x9_1)) = false := decide_eq_false c48
                                              clear c48
                                              have H' := Aside0.mk H
                                              clear H
                                              have p275 : 0 ≤ (x10_2 : Int) := of_decide_eq_true (by first | (with_reducible assumption) | assumption)
                                              have q275 : x10_2 < (l0.length : Int) := of_decide_eq_true (by first | (with_reducible assumption) | assumption)
                                              obtain ⟨ad275, A275_0, c275_0, e275, hx275_0, hx275_1, hl275_0, hi275_0⟩ := at_T37 HR0.out x10_2 p275 q275
                                              cases e275
                                              replace hx275_0 := (HB.out.cell (World.block_lt_of_cell? w _ hx275_0)).trans hx275_0
                                              replace hx275_1 := (HB.out.cell (World.block_lt_of_cell? w _ hx275_1)).trans hx275_1
                                              have HR275_0 := Aside0.mk hi275_0
                                              have HC275_0 := Aside0.mk hl275_0
                                              clear hi275_0 hl275_0
                                              replace p275 := eq_true p275
                                              replace q275 := eq_true q275
                                              have p276 : 0 ≤ ((ji28) : Int) := of_decide_eq_true (by first | (with_reducible assumption) | assumption)
                                              have q276 : (ji28) < (x8_2.length : Int) := of_decide_eq_true (by first | (with_reducible assumption) | assumption)
                                              obtain ⟨ad276, e276, hx276_0⟩ := Kd.at_int (Kd.R_reads' HO_8.out).2.2 (ji28) p276 q276
                                              obtain rfl : (⟨go12, 0, none⟩ : Addr) = ad276 := (by injection e276)
                                              (first | simp only [add_plain] at hx276_0 | simp only [add_at] at hx276_0 | simp only [Addr.add, Nat.zero_add] at hx276_0 | skip)
                                              replace p276 := eq_true p276
                                              replace q276 := eq_true q276
                                              have p277 : 0 ≤ (x10_2 : Int) := of_decide_eq_true (by first | (with_reducible assumption) | assumption)
                                              have q277 : x10_2 < (l0.length : Int) := of_decide_eq_true (by first | (with_reducible assumption) | assumption)
                                              obtain ⟨ad277, A277_0, c277_0, e277, hx277_0, hx277_1, hl277_0, hi277_0⟩ := at_T37 HR0.out x10_2 p277 q277
                                              obtain rfl : ad275 = ad277 := (by injection e277)
                                              replace hx277_0 := (HB.out.cell (World.block_lt_of_cell? w _ hx277_0)).trans hx277_0
                                              replace hx277_1 := (HB.out.cell (World.block_lt_of_cell? w _ hx277_1)).trans hx277_1
                                              have HR277_0 := Aside0.mk hi277_0
                                              have HC277_0 := Aside0.mk hl277_0
                                              clear hi277_0 hl277_0
                                              replace p277 := eq_true p277
                                              replace q277 := eq_true q277
                                              have ea_ := Option.some.inj (hx275_0.symm.trans hx277_0)
                                              injection ea_ with ea_ en_ ec_
                                              subst ea_
                                              subst ec_
                                              clear en_
                                              have p284 : 0 ≤ (x9_1 : Int) := of_decide_eq_true (by first | (with_reducible assumption) | assumption)
                                              have q284 : x9_1 < (x8_2.length : Int) := of_decide_eq_true (by first | (with_reducible assumption) | assumption)
                                              obtain ⟨ad284, e284, hx284_0⟩ := Kd.at_int (Kd.R_reads' HO_8.out).2.2 x9_1 p284 q284
                                              obtain rfl : (⟨go12, 0, none⟩ : Addr) = ad284 := (by injection e284)
                                              (first | simp only [add_plain] at hx284_0 | simp only [add_at] at hx284_0 | simp only [Addr.add, Nat.zero_add] at hx284_0 | skip)
                                              replace p284 := eq_true p284
                                              replace q284 := eq_true q284
                                              have p286 : 0 ≤ (x9_1 : Int) := of_decide_eq_true (by first | (with_reducible assumption) | assumption)
                                              have q286 : x9_1 < (x8_2.length : Int) := of_decide_eq_true (by first | (with_reducible assumption) | assumption)
                                              obtain ⟨ad286, e286, hx286_0⟩ := Kd.at_int (Kd.R_reads' HO_8.out).2.2 x9_1 p286 q286
                                              obtain rfl : (⟨go12, 0, none⟩ : Addr) = ad286 := (by injection e286)
                                              (first | simp only [add_plain] at hx286_0 | simp only [add_at] at hx286_0 | simp only [Addr.add, Nat.zero_add] at hx286_0 | skip)
                                              replace p286 := eq_true p286
                                              replace q286 := eq_true q286
                                              go_wp2
                                              repeat (go_quiet (fail); try go_wp2)
                                              (try simp only [← hl8_2])
                                              go_roundg kj15
                                              case measure => have := HK1.out; have := HK2.out; have := HJ15.out; omega
                                              case rel => exact ⟨(x8_2), (wrap64 (x10_2 + 1)), (by first | rfl | (simp; done) | (simp [*]; done)), H', ⟨by have := HK1.out; have := HK2.out; have := HJ15.out; omega⟩, ⟨by (try simp only [hl8_2]); (with_reducible repeat (first | apply Kd.R_alloc | apply Kd.R_drewN | apply Kd.R_drew)); exact HO_8.out⟩, ⟨by repeat (first | (with_reducible first | exact HB.out | apply below_alloc | apply pw_below_drewN | apply below_drew1) | exact HB.out)⟩⟩
                                        · rw [if_neg c43] at H
                                          exact absurd H (by simp)
                                      · rw [if_neg c42] at H
                                        exact absurd H (by simp)
                                  · rw [if_neg c30] at H
                                    exact absurd H (by simp)
                                · rw [if_neg c29] at H
                                  exact absurd H (by simp)
                              · rw [if_neg c27] at H
                                exact absurd H (by simp)
                            · rw [if_neg c26] at H
                              exact absurd H (by simp)
                    · rw [if_neg c15] at H
                      have c15b0 : decide (x10_2 < (l0.length : Int)) = false := decide_eq_false c15
                      clear c15
                      have H' := Aside0.mk H
                      clear H
                      go_wp2
                      repeat (go_quiet (fail); try go_wp2)
                      (try simp only [← hl8_2])
                      go_roundg k2
                      case measure => have := HK1.out; have := HK2.out; omega
                      case rel => exact ⟨(x8_2), (wrap64 (x9_1 - 1)), (by first | rfl | (simp; done) | (simp [*]; done)), H', ⟨by have := HK1.out; have := HK2.out; omega⟩, ⟨by (try simp only [hl8_2]); (with_reducible repeat (first | apply Kd.R_alloc | apply Kd.R_drewN | apply Kd.R_drew)); exact HO_8.out⟩, ⟨by repeat (first | (with_reducible first | exact HB.out | apply below_alloc | apply pw_below_drewN | apply below_drew1) | exact HB.out)⟩⟩
              · rw [if_neg c11] at H
                exact absurd H (by simp)
            · rw [if_neg c10] at H
              exact absurd H (by simp)
          · rw [if_neg c9] at H
            have c9b0 : decide (0 ≤ x9_1) = false := decide_eq_false c9
            clear c9
            obtain rfl := Option.some.inj H
            go_wp2
            repeat (go_quiet (fail); try go_wp2)
            go_ret
            exact ⟨_, by first | rfl | (simp [errW_none, errW_some] <;> rfl) | (simp only [← hji4]; first | rfl | (simp [errW_none, errW_some] <;> rfl)) | (simp [*, errW_none, errW_some] <;> rfl), by (with_reducible repeat (first | apply Kd.R_alloc | apply Kd.R_drewN | apply Kd.R_drew)); exact HO_8.out, by repeat (first | (with_reducible first | exact HB.out | apply below_alloc | apply pw_below_drewN | apply below_drew1) | exact HB.out)⟩
    · rw [if_neg c6] at H
      exact absurd H (by simp)
  · rw [if_neg c5] at H
    exact absurd H (by simp)

end Go.Proofs.Ytkmganbgnjphfaa.PFnReadFew
