/- Lemmas on the printed functions for the law FnExactFormulasFirst. -/
import Derived.Test.YtohnkicfnfejnaaQFnExactFormulasFirstq0
import Derived.Test.YtohnkicfnfejnaaQFnExactFormulasFirstq1
import Derived.Test.YtohnkicfnfejnaaQFnExactFormulasFirstq2
import Derived.Test.YtohnkicfnfejnaaQFnExactFormulasFirstq3
import Derived.Test.YtohnkicfnfejnaaQFnExactFormulasFirstq4
import Derived.Test.YtohnkicfnfejnaaQFnExactFormulasFirstq5
import Derived.Test.YtohnkicfnfejnaaQFnExactFormulasFirstq6
import Derived.Deep.RegionHeld3
import Derived.BigRegion
import Derived.Deep.Slices
import Derived.Laws.CopyOwn
namespace Go.Proofs.Ytohnkicfnfejnaa.Pure
set_option linter.unusedVariables false
set_option linter.unusedSimpArgs false
open Go Go.RowKit Go.Proofs.Ytohnkicfnfejnaa.PFnExactFormulasFirst Go.Proofs.YtohnkicfnfejnaaW.PrintWords Go.Proofs.YtohnkicfnfejnaaW.PrintLast Go.Proofs.YtohnkicfnfejnaaW.PrintMore

/-! spec_l6fWays: as the print has it, but the cut list has a name of its own -/
mutual
def spec_l6fWays.l0 : Nat → List (S40) → List Int → List Int → Int → Option (List Int)
  | 0, _, _, _, _ => none
  | k + 1, x0, x1, x6, x7 => if x7 ≥ 0 then (spec_l6fWays.l1 k x0 x1 x6 x7 0) else (some x6)
def spec_l6fWays.l1 : Nat → List (S40) → List Int → List Int → Int → Int → Option (List Int)
  | 0, _, _, _, _, _ => none
  | k + 1, x0, x1, x6, x7, x8 => if x8 < (x0.length : Int) then (if 0 ≤ x8 then ((spec_l6fAt.f k ((rd_T40 x0 x8).f0) ((rd_T40 x0 x8).f1) x1 x7).bind fun t157 => (if t157 = true then (if 0 ≤ x7 then (if x7 < (x6.length : Int) then (if 0 ≤ (wrap64 (x7 + (((rd_T40 x0 x8).f0).length : Int))) then (if (wrap64 (x7 + (((rd_T40 x0 x8).f0).length : Int))) < (x6.length : Int) then (spec_l6fWays.l1 k x0 x1 (x6.set (x7 : Int).toNat (wrap64 ((rd x6 x7) + (rd x6 (wrap64 (x7 + (((rd_T40 x0 x8).f0).length : Int))))))) x7 (wrap64 (x8 + 1))) else (none)) else (none)) else (none)) else (none)) else (spec_l6fWays.l1 k x0 x1 x6 x7 (wrap64 (x8 + 1))))) else (none)) else (spec_l6fWays.l0 k x0 x1 x6 (wrap64 (x7 - 1)))
end
def spec_l6fWays.f (k : Nat) (l0 : List (S40)) (l1 : List Int) : Option (List Int) := if 0 ≤ (wrap64 ((l1.length : Int) + 1)) then (if (wrap64 ((l1.length : Int) + 1) : Int).toNat ≤ 35184372088832 then ((some (List.replicate (wrap64 ((l1.length : Int) + 1) : Int).toNat 0 : List Int)).bind fun y152 => (if 0 ≤ (l1.length : Int) then (if (l1.length : Int) < (y152.length : Int) then (spec_l6fWays.l0 k l0 l1 (y152.set ((l1.length : Int) : Int).toNat 1) (wrap64 ((l1.length : Int) - 1))) else (none)) else (none))) else (none)) else (none)
theorem spec_l6fWays.mono_l : ∀ k, (∀ y0 y1 y2 y3, LeO (spec_l6fWays.l0 k y0 y1 y2 y3) (spec_l6fWays.l0 (k + 1) y0 y1 y2 y3)) ∧ (∀ y0 y1 y2 y3 y4, LeO (spec_l6fWays.l1 k y0 y1 y2 y3 y4) (spec_l6fWays.l1 (k + 1) y0 y1 y2 y3 y4))
  | 0 => ⟨fun _ _ _ _ r h => by simp [spec_l6fWays.l0] at h, fun _ _ _ _ _ r h => by simp [spec_l6fWays.l1] at h⟩
  | k + 1 => by
    obtain ⟨ih0, ih1⟩ := spec_l6fWays.mono_l k
    refine ⟨?_, ?_⟩
    · intro y0 y1 y2 y3
      unfold spec_l6fWays.l0
      repeat' first
      | (with_reducible exact ih0 _ _ _ _)
      | (with_reducible exact ih1 _ _ _ _ _)
      | (with_reducible exact spec_l6fAt.mono _ _ _ _ _)
      | (with_reducible exact LeO.refl _)
      | (with_reducible exact LeO.none _)
      | (with_reducible refine LeO.ite ?_ ?_)
      | (with_reducible refine LeO.bind ?_ (fun _ => ?_))
      | exact ih0 _ _ _ _
      | exact ih1 _ _ _ _ _
      | exact spec_l6fAt.mono _ _ _ _ _
      | exact LeO.none _
      | refine LeO.ite ?_ ?_
      | refine LeO.bind ?_ (fun _ => ?_)
    · intro y0 y1 y2 y3 y4
      unfold spec_l6fWays.l1
      repeat' first
      | (with_reducible exact ih0 _ _ _ _)
      | (with_reducible exact ih1 _ _ _ _ _)
      | (with_reducible exact spec_l6fAt.mono _ _ _ _ _)
      | (with_reducible exact LeO.refl _)
      | (with_reducible exact LeO.none _)
      | (with_reducible refine LeO.ite ?_ ?_)
      | (with_reducible refine LeO.bind ?_ (fun _ => ?_))
      | exact ih0 _ _ _ _
      | exact ih1 _ _ _ _ _
      | exact spec_l6fAt.mono _ _ _ _ _
      | exact LeO.none _
      | refine LeO.ite ?_ ?_
      | refine LeO.bind ?_ (fun _ => ?_)
theorem spec_l6fWays.mono : ∀ a0 a1 k, LeO (spec_l6fWays.f k a0 a1) (spec_l6fWays.f (k + 1) a0 a1) := by
  intro a0 a1 k
  obtain ⟨ih0, ih1⟩ := spec_l6fWays.mono_l k
  unfold spec_l6fWays.f
  repeat' first
      | (with_reducible exact ih0 _ _ _ _)
      | (with_reducible exact ih1 _ _ _ _ _)
      | (with_reducible exact spec_l6fAt.mono _ _ _ _ _)
      | (with_reducible exact LeO.refl _)
      | (with_reducible exact LeO.none _)
      | (with_reducible refine LeO.ite ?_ ?_)
      | (with_reducible refine LeO.bind ?_ (fun _ => ?_))
      | exact ih0 _ _ _ _
      | exact ih1 _ _ _ _ _
      | exact spec_l6fAt.mono _ _ _ _ _
      | exact LeO.none _
      | refine LeO.ite ?_ ?_
      | refine LeO.bind ?_ (fun _ => ?_)
def spec_l6fWays.T11 : Bool × List (List Nat × List Nat) := (true, [([], []), ([], []), ([], []), ([], []), ([2, 3], [2, 3]), ([4], [4]), ([], []), ([], []), ([], []), ([], []), ([8, 9], [8, 9]), ([10], [10]), ([11], [11]), ([12], [12]), ([7, 13], [7, 13]), ([6, 14], [6, 14]), ([15], [15]), ([5, 16], [5, 16]), ([0, 1, 0, 1, 2, 3, 4, 5, 6, 7, 8, 9, 10, 11, 12, 13, 14, 15, 16, 17], [0, 1]), ([18, 17, 0, 1, 2, 3, 4, 5, 6, 7, 8, 9, 10, 11, 12, 13, 14, 15, 16, 17], [17, 18])])
def spec_l6fWays.B11 : List Nat := [0, 0, 0, 0, 12, 28, 0, 0, 0, 0, 768, 1792, 3840, 7936, 16256, 32704, 65472, 131068, 262143, 524287]
theorem spec_l6fWays.tab11 : rtab .any (opsOf Try.f45 11) = spec_l6fWays.T11 := by kernel_rfl
theorem spec_l6fWays.bits11 : waitsOk spec_l6fWays.T11.2 spec_l6fWays.B11 = true := by kernel_rfl
set_option maxHeartbeats 8000000 in
set_option maxRecDepth 100000 in
theorem spec_l6fWays.calls (k : Nat) (A0 : Option Addr) (c0 : Nat) (l0 : List (S40)) (A1 : Option Addr) (c1 : Nat) (l1 : List Int) (r : List Int) (w : World) (hr0 : Kd.C k40 w A0 l0.length l0) (hc0 : l0.length ≤ c0) (hr1 : Kd.C (Kd.int .i64) w A1 l1.length l1) (hc1 : l1.length ≤ c1) (h : spec_l6fWays.f k l0 l1 = some r) :
    Calls Try.prog 45 #[.slice A0 l0.length c0, .slice A1 l1.length c1] w fun e w' => ∃ v0_ : Value, e = .returned (v0_) ∧ Kd.R (Kd.int .i64) 3 w' w.heap.size (fun _ => True) v0_ r ∧ Below w.heap.size w w' := by
  have hu40 := Try.underlying40
  have HR0 := Aside0.mk hr0
  have HC0 := Aside0.mk hc0
  clear hr0 hc0
  have HR1 := Aside0.mk hr1
  have HC1 := Aside0.mk hc1
  clear hr1 hc1
  have HB := Aside0.mk (Below.refl w.heap.size w)
  have H : (if 0 ≤ (wrap64 ((l1.length : Int) + 1)) then (if (wrap64 ((l1.length : Int) + 1) : Int).toNat ≤ 35184372088832 then ((some (List.replicate (wrap64 ((l1.length : Int) + 1) : Int).toNat 0 : List Int)).bind fun y152 => (if 0 ≤ (l1.length : Int) then (if (l1.length : Int) < (y152.length : Int) then (spec_l6fWays.l0 k l0 l1 (y152.set ((l1.length : Int) : Int).toNat 1) (wrap64 ((l1.length : Int) - 1))) else (none)) else (none))) else (none)) else (none)) = some r := h
  clear h
  obtain ⟨ji3, hji3⟩ : ∃ j_ : Int, (wrap64 ((l1.length : Int) + 1)) = j_ := ⟨_, rfl⟩
  replace H : (if 0 ≤ (ji3) then (if (ji3 : Int).toNat ≤ 35184372088832 then ((some (List.replicate (ji3 : Int).toNat 0 : List Int)).bind fun y152 => (if 0 ≤ (l1.length : Int) then (if (l1.length : Int) < (y152.length : Int) then (spec_l6fWays.l0 k l0 l1 (y152.set ((l1.length : Int) : Int).toNat 1) (wrap64 ((l1.length : Int) - 1))) else (none)) else (none))) else (none)) else (none)) = some r := by first | (rw [hji3] at H; exact H) | (simp only [hji3] at H ⊢; exact H)
  have hji3w : (IntKind.i64.wrap ((l1.length : Int) + 1)) = ji3 := (i64_w _).trans hji3
  by_cases c4 : 0 ≤ (ji3)
  · rw [if_pos c4] at H
    have c4b0 := eq_true c4
    have c4b1 : decide (0 ≤ (ji3)) = true := decide_eq_true c4
    clear c4
    by_cases c5 : (ji3 : Int).toNat ≤ 35184372088832
    · rw [if_pos c5] at H
      have c5b0 := eq_true c5
      have c5b1 : decide ((ji3 : Int).toNat ≤ 35184372088832) = true := decide_eq_true c5
      clear c5
      obtain ⟨y152, hy152⟩ : ∃ y_ : List Int, y_ = (List.replicate (ji3 : Int).toNat 0) := ⟨_, rfl⟩
      replace H : (if 0 ≤ (l1.length : Int) then (if (l1.length : Int) < (y152.length : Int) then (spec_l6fWays.l0 k l0 l1 (y152.set ((l1.length : Int) : Int).toNat 1) (wrap64 ((l1.length : Int) - 1))) else (none)) else (none)) = some r := by first | (rw [hy152]; with_reducible exact H) | (have H2_ := (Option.bind_some _ _).symm.trans H; rw [hy152]; with_reducible exact H2_) | (have H2_ := (Option.bind_some _ _).symm.trans H; with_reducible exact H2_) | with_reducible exact H | (rw [hy152]; exact H) | exact H
      have Ny152 := Aside0.mk hy152
      clear hy152
      by_cases c6 : 0 ≤ (l1.length : Int)
      · rw [if_pos c6] at H
        have c6b0 : decide (0 ≤ (l1.length : Int)) = true := decide_eq_true c6
        have c6b1 : decide (0 ≤ l1.length) = true := decide_eq_true (by omega)
        clear c6
        by_cases c7 : (l1.length : Int) < (y152.length : Int)
        · rw [if_pos c7] at H
          have c7b0 : decide ((l1.length : Int) < (y152.length : Int)) = true := decide_eq_true c7
          have c7b1 : decide (l1.length < y152.length) = true := decide_eq_true (Int.ofNat_lt.mp c7)
          clear c7
          obtain ⟨y155, hy155⟩ : ∃ y_ : List Int, y_ = (y152.set ((l1.length : Int) : Int).toNat 1) := ⟨_, rfl⟩
          replace H : (spec_l6fWays.l0 k l0 l1 y155 (wrap64 ((l1.length : Int) - 1))) = some r := by first | (rw [hy155]; with_reducible exact H) | (have H2_ := (Option.bind_some _ _).symm.trans H; rw [hy155]; with_reducible exact H2_) | (have H2_ := (Option.bind_some _ _).symm.trans H; with_reducible exact H2_) | with_reducible exact H | (rw [hy155]; exact H) | exact H
          have Ny155 := Aside0.mk hy155
          clear hy155
          have H' := Aside0.mk H
          clear H
          go_enter Try.func45, Try.ntmps45
          go_wp2_with (first | ((with_reducible refine gate_dst (N := 13) rfl ?_); refine Kd.R_make (Kd.int .i64) _ 3 rfl (N := 13) rfl 29 _ _ rfl ji3 rfl rfl Try.underlying29 (.int .i64 0) 8 info3 rfl (by decide) (by omega) 0 (ok := fun _ => True) (okp := fun _ => True) rfl (fun _ hk => hk) trivial (of_decide_eq_true (by first | (with_reducible assumption) | assumption)) (Nat.le_trans (Nat.mul_le_mul_right _ (of_decide_eq_true (by first | (with_reducible assumption) | assumption) : ji3.toNat ≤ 35184372088832)) (by omega)) (Below.refl _ _) (Nat.le_refl _) ?_; intro v153 w9 ho10 hb hg_ hnew_; clear hg_ hnew_; (first | rw [← Ny152.out] at ho10 | (simp only [Int.reduceToNat] at ho10; rw [← Ny152.out] at ho10)); have n0_ := Aside0.mk (Kd.R_lower ho10 (below_size (by repeat (first | (with_reducible first | exact HB.out | apply below_alloc | apply pw_below_drewN | apply below_drew1) | exact HB.out)))); have n1_ := Aside0.mk (below_step (by repeat (first | (with_reducible first | exact HB.out | apply below_alloc | apply pw_below_drewN | apply below_drew1) | exact HB.out)) hb); clear HB; have HO154 := n0_; have HB := n1_; clear n0_ n1_; clear hb ho10; have p8 : 0 ≤ ((l1.length : Int) : Int) := of_decide_eq_true (by first | (with_reducible assumption) | assumption); have q8 : ((l1.length : Int) : Int) < ((y152.length : Int) : Int) := of_decide_eq_true (by first | (with_reducible assumption) | assumption); obtain ⟨go8, co8, eo8, gb8, gl8, cl8, HG8⟩ := Kd.R_form HO154.out (by omega); (first | cases eo8 | (injection eo8 with ea_ en_ ec_; (first | subst ea_ | (injection ea_ with ea_; subst ea_)); subst ec_; clear en_)); have GB8 := Aside0.mk gb8; have GG8 := Aside0.mk HG8; clear gb8 gl8 HG8; obtain ⟨hx8_0, hf8_0⟩ := Kd.R_celln 0 HO154.out ((l1.length : Int) : Int) p8 q8; replace p8 := eq_true p8; replace q8 := eq_true q8; obtain ⟨hy11_, hz11_⟩ := Kd.R_celln 0 HO154.out ((l1.length : Int) : Int) (of_decide_eq_true (by first | (with_reducible assumption) | assumption)) (of_decide_eq_true (by first | (with_reducible assumption) | assumption)); (try simp only [Go.IntWalk.toNatUp] at hy11_ hz11_); have HP11 := Kd.R_putg HO154.out ((l1.length : Int) : Int) 1) | ((with_reducible refine gate_store (t := 3) (p := 16) rfl ?_); refine store_event (t := 3) (p := 16) (v := ?vo_w12) (w1 := (w9.setCell ⟨go8, ((l1.length : Int) : Int).toNat, none⟩ (.int .i64 1))) ?hg ?ho ?hn ?hr ?_; (case ho => rfl); (case hg => rfl); (case hn => rfl); (case hr => first | (go_simp; done) | (go_simp; rfl)); intro w12 hw; have hg : w9.grownBy w12 (some go8) := (by rw [hw]; exact HP11.2); have hp_ : Kd.R (Kd.int .i64) 3 w12 w.heap.size (fun _ => True) (.slice (some ⟨go8, 0, none⟩) y152.length co8) y155 := (by rw [hw, Ny155.out]; exact HP11.1); clear HP11; have n0_ := Aside0.mk (hp_); have n1_ := Aside0.mk ((by rw [hw]; exact below_set (HB.out) GB8.out : Below w.heap.size w w12)); clear HO154; clear HB; have HO154 := n0_; have HB := n1_; clear n0_ n1_; clear hg hw hp_))
          go_loopg [7] k (fun kq v7 w' => ∃ (x6_1 : List Int) (x7_1 : Int), v7 = .int .i64 x7_1 ∧ Aside0 (spec_l6fWays.l0 kq l0 l1 x6_1 x7_1 = some r) ∧ Aside0 (kq ≤ k) ∧ Aside0 (Kd.R (Kd.int .i64) 3 w' w.heap.size (fun _ => True) (.slice (some ⟨go8, 0, none⟩) y152.length co8) x6_1) ∧ Aside0 (Below w.heap.size w w'))
          case atStart => exact ⟨(y155), (wrap64 ((l1.length : Int) - 1)), (by first | rfl | (simp; done) | (simp [*]; done)), H', ⟨Nat.le_refl _⟩, ⟨by (with_reducible repeat (first | apply Kd.R_alloc | apply Kd.R_drewN | apply Kd.R_drew)); exact HO154.out⟩, ⟨by repeat (first | (with_reducible first | exact HB.out | apply below_alloc | apply pw_below_drewN | apply below_drew1) | exact HB.out)⟩⟩
          case round =>
            clear H'
            try clear c1
            try clear p2
            try clear c4
            try clear c4b0
            try clear c4b1
            try clear c5
            try clear c5b0
            try clear c5b1
            try clear c6
            try clear c6b0
            try clear c6b1
            try clear p6
            try clear c7
            try clear c7b0
            try clear c7b1
            try clear p8
            try clear q8
            try clear hx8
            try clear hf8
            try clear hx8_0
            try clear p8
            try clear q8
            obtain ⟨x6_1, x7_1, rfl, HA, HK1, HO_6, HB⟩ := hrel
            have hl6_1 := (Kd.R_reads' HO_6.out).1
            rw [hl6_1] at HO_6
            (try simp only [hl6_1])
            cases gk with
            | zero => exact absurd HA.out (by simp [spec_l6fWays.l0])
            | succ k1 =>
              have H := HA.out
              clear HA
              simp only [spec_l6fWays.l0] at H
              by_cases c13 : x7_1 ≥ 0
              · rw [if_pos c13] at H
                have c13b0 : decide (0 ≤ x7_1) = true := decide_eq_true c13
                clear c13
                have H' := Aside0.mk H
                clear H
                go_wp2
                go_loopg [8] k1 (fun kq v8 w' => ∃ (x6_2 : List Int) (x8_2 : Int), v8 = .int .i64 x8_2 ∧ Aside0 (spec_l6fWays.l1 kq l0 l1 x6_2 x7_1 x8_2 = some r) ∧ Aside0 (kq ≤ k1) ∧ Aside0 (Kd.R (Kd.int .i64) 3 w' w.heap.size (fun _ => True) (.slice (some ⟨go8, 0, none⟩) x6_1.length co8) x6_2) ∧ Aside0 (Below w.heap.size w w'))
                case atStart => exact ⟨(x6_1), (0), (by first | rfl | (simp; done) | (simp [*]; done)), H', ⟨Nat.le_refl _⟩, ⟨by (try simp only [hl6_1]); (with_reducible repeat (first | apply Kd.R_alloc | apply Kd.R_drewN | apply Kd.R_drew)); exact HO_6.out⟩, ⟨by repeat (first | (with_reducible first | exact HB.out | apply below_alloc | apply pw_below_drewN | apply below_drew1) | exact HB.out)⟩⟩
                case round =>
                  clear H'
                  try clear c1
                  try clear p2
                  try clear c4
                  try clear c4b0
                  try clear c4b1
                  try clear c5
                  try clear c5b0
                  try clear c5b1
                  try clear c6
                  try clear c6b0
                  try clear c6b1
                  try clear p6
                  try clear c7
                  try clear c7b0
                  try clear c7b1
                  try clear p8
                  try clear q8
                  try clear hx8
                  try clear hf8
                  try clear c13
                  try clear c13b0
                  try clear hx8_0
                  try clear p2
                  try clear p6
                  try clear p8
                  try clear q8
                  obtain ⟨x6_2, x8_2, rfl, HA, HK2, HO_6, HB⟩ := hrel
                  have hl6_2 := (Kd.R_reads' HO_6.out).1
                  rw [hl6_2] at HO_6
                  (try simp only [hl6_2])
                  cases gk with
                  | zero => exact absurd HA.out (by simp [spec_l6fWays.l1])
                  | succ k2 =>
                    have H := HA.out
                    clear HA
                    simp only [spec_l6fWays.l1] at H
                    by_cases c14 : x8_2 < (l0.length : Int)
                    · rw [if_pos c14] at H
                      have c14b0 : decide (x8_2 < (l0.length : Int)) = true := decide_eq_true c14
                      clear c14
                      by_cases c15 : 0 ≤ x8_2
                      · rw [if_pos c15] at H
                        have c15b0 : decide (0 ≤ x8_2) = true := decide_eq_true c15
                        clear c15
                        replace H := Option.bind_eq_some_iff.mp H
                        obtain ⟨t157, A160, H⟩ := H
                        replace H : (if t157 = true then (if 0 ≤ x7_1 then (if x7_1 < (x6_2.length : Int) then (if 0 ≤ (wrap64 (x7_1 + (((rd_T40 l0 x8_2).f0).length : Int))) then (if (wrap64 (x7_1 + (((rd_T40 l0 x8_2).f0).length : Int))) < (x6_2.length : Int) then (spec_l6fWays.l1 k2 l0 l1 (x6_2.set (x7_1 : Int).toNat (wrap64 ((rd x6_2 x7_1) + (rd x6_2 (wrap64 (x7_1 + (((rd_T40 l0 x8_2).f0).length : Int))))))) x7_1 (wrap64 (x8_2 + 1))) else (none)) else (none)) else (none)) else (none)) else (spec_l6fWays.l1 k2 l0 l1 x6_2 x7_1 (wrap64 (x8_2 + 1)))) = some r := H
                        have A16 := Aside0.mk A160
                        clear A160
                        by_cases c17 : t157 = true
                        · subst c17
                          have H1 : (if 0 ≤ x7_1 then (if x7_1 < (x6_2.length : Int) then (if 0 ≤ (wrap64 (x7_1 + (((rd_T40 l0 x8_2).f0).length : Int))) then (if (wrap64 (x7_1 + (((rd_T40 l0 x8_2).f0).length : Int))) < (x6_2.length : Int) then (spec_l6fWays.l1 k2 l0 l1 (x6_2.set (x7_1 : Int).toNat (wrap64 ((rd x6_2 x7_1) + (rd x6_2 (wrap64 (x7_1 + (((rd_T40 l0 x8_2).f0).length : Int))))))) x7_1 (wrap64 (x8_2 + 1))) else (none)) else (none)) else (none)) else (none)) = some r := by rw [if_pos rfl] at H; exact H
                          clear H
                          have H := H1
                          clear H1
                          by_cases c18 : 0 ≤ x7_1
                          · rw [if_pos c18] at H
                            have c18b0 : decide (0 ≤ x7_1) = true := decide_eq_true c18
                            clear c18
                            by_cases c19 : x7_1 < (x6_2.length : Int)
                            · rw [if_pos c19] at H
                              have c19b0 : decide (x7_1 < (x6_2.length : Int)) = true := decide_eq_true c19
                              clear c19
                              obtain ⟨ji20, hji20⟩ : ∃ j_ : Int, (wrap64 (x7_1 + (((rd_T40 l0 x8_2).f0).length : Int))) = j_ := ⟨_, rfl⟩
                              replace H : (if 0 ≤ (ji20) then (if (ji20) < (x6_2.length : Int) then (spec_l6fWays.l1 k2 l0 l1 (x6_2.set (x7_1 : Int).toNat (wrap64 ((rd x6_2 x7_1) + (rd x6_2 (ji20))))) x7_1 (wrap64 (x8_2 + 1))) else (none)) else (none)) = some r := by first | (rw [hji20] at H; exact H) | (simp only [hji20] at H ⊢; exact H)
                              (try rw [hji20] at A16)
                              have hji20w : (IntKind.i64.wrap (x7_1 + (((rd_T40 l0 x8_2).f0).length : Int))) = ji20 := (i64_w _).trans hji20
                              by_cases c21 : 0 ≤ (ji20)
                              · rw [if_pos c21] at H
                                have c21b0 : decide (0 ≤ (ji20)) = true := decide_eq_true c21
                                clear c21
                                by_cases c22 : (ji20) < (x6_2.length : Int)
                                · rw [if_pos c22] at H
                                  have c22b0 : decide ((ji20) < (x6_2.length : Int)) = true := decide_eq_true c22
                                  clear c22
                                  obtain ⟨y161, hy161⟩ : ∃ y_ : List Int, y_ = (x6_2.set (x7_1 : Int).toNat (wrap64 ((rd x6_2 x7_1) + (rd x6_2 (ji20))))) := ⟨_, rfl⟩
                                  replace H : (spec_l6fWays.l1 k2 l0 l1 y161 x7_1 (wrap64 (x8_2 + 1))) = some r := by first | (rw [hy161]; with_reducible exact H) | (have H2_ := (Option.bind_some _ _).symm.trans H; rw [hy161]; with_reducible exact H2_) | (have H2_ := (Option.bind_some _ _).symm.trans H; with_reducible exact H2_) | with_reducible exact H | (rw [hy161]; exact H) | exact H
                                  have Ny161 := Aside0.mk hy161
                                  clear hy161
                                  have H' := Aside0.mk H
                                  clear H
                                  have p156 : 0 ≤ (x8_2 : Int) := of_decide_eq_true (by first | (with_reducible assumption) | assumption)
                                  have q156 : x8_2 < (l0.length : Int) := of_decide_eq_true (by first | (with_reducible assumption) | assumption)
                                  obtain ⟨ad156, A156_0, c156_0, e156, hx156_0, hx156_1, hl156_0, hi156_0⟩ := at_T40 HR0.out x8_2 p156 q156
                                  cases e156
                                  replace hx156_0 := (HB.out.cell (World.block_lt_of_cell? w _ hx156_0)).trans hx156_0
                                  replace hx156_1 := (HB.out.cell (World.block_lt_of_cell? w _ hx156_1)).trans hx156_1
                                  have HR156_0 := Aside0.mk hi156_0
                                  have HC156_0 := Aside0.mk hl156_0
                                  clear hi156_0 hl156_0
                                  replace p156 := eq_true p156
                                  replace q156 := eq_true q156
                                  try go_wp2_with (first | ((with_reducible refine gate_callee (f := 53) rfl ?_); refine goesL_ (some 35) rfl rfl Try.func53 (by kernel_rfl) rfl #[.agg #[.slice A156_0 ((rd_T40 l0 x8_2).f0).length c156_0, .int .i64 ((rd_T40 l0 x8_2).f1)], .slice A1 l1.length c1, .int .i64 x7_1] rfl (by (try simp only [List.map_toArray, List.map_cons, List.map_nil]); first | done | rfl | (simp only [List.length_drop, List.length_take]; rfl)) ?_; (with_reducible refine (spec_l6fAt.calls k2 _ _ ((rd_T40 l0 x8_2).f0) ((rd_T40 l0 x8_2).f1) _ _ l1 x7_1 true _ ?side1 ?side2 ?side3 ?side4 A16.out).mono ?_); (case side1 => repeat (first | exact (Kd.C_below HR156_0.out HB.out) | (with_reducible refine Kd.C_alloc ?_ _) | (with_reducible refine Kd.C_drewN ?_ _) | (with_reducible refine Kd.C_drew ?_))); (case side2 => exact HC156_0.out); (case side3 => repeat (first | exact (Kd.C_below HR1.out HB.out) | (with_reducible refine Kd.C_alloc ?_ _) | (with_reducible refine Kd.C_drewN ?_ _) | (with_reducible refine Kd.C_drew ?_))); (case side4 => exact HC1.out); rintro e w24 ⟨rfl, hb⟩; refine ⟨_, rfl, ?_⟩; have n0_ := Aside0.mk (Kd.R_below (by (with_reducible repeat (first | apply Kd.R_alloc | apply Kd.R_drewN | apply Kd.R_drew)); exact HO_6.out) hb); have n1_ := Aside0.mk (below_step (by repeat (first | (with_reducible first | exact HB.out | apply below_alloc | apply pw_below_drewN | apply below_drew1) | exact HB.out)) hb); clear HO_6; clear HB; have HO_6 := n0_; have HB := n1_; clear n0_ n1_; (try clear hb); (try clear hb2); (try clear hk); (try clear hi)))
                                  have n0_ := Aside0.mk (Kd.R_drew HO_6.out)
                                  have n1_ := Aside0.mk (below_drew1 HB.out)
                                  clear HO_6
                                  clear HB
                                  have HO_6 := n0_
                                  have HB := n1_
                                  clear n0_ n1_
                                  have p158 : 0 ≤ (x7_1 : Int) := of_decide_eq_true (by first | (with_reducible assumption) | assumption)
                                  have q158 : x7_1 < (x6_2.length : Int) := of_decide_eq_true (by first | (with_reducible assumption) | assumption)
                                  obtain ⟨ad158, e158, hx158_0⟩ := Kd.at_int (Kd.R_reads' HO_6.out).2.2 x7_1 p158 q158
                                  obtain rfl : (⟨go8, 0, none⟩ : Addr) = ad158 := (by injection e158)
                                  (first | simp only [add_plain] at hx158_0 | simp only [add_at] at hx158_0 | simp only [Addr.add, Nat.zero_add] at hx158_0 | skip)
                                  replace p158 := eq_true p158
                                  replace q158 := eq_true q158
                                  have p159 : 0 ≤ (x8_2 : Int) := of_decide_eq_true (by first | (with_reducible assumption) | assumption)
                                  have q159 : x8_2 < (l0.length : Int) := of_decide_eq_true (by first | (with_reducible assumption) | assumption)
                                  obtain ⟨ad159, A159_0, c159_0, e159, hx159_0, hx159_1, hl159_0, hi159_0⟩ := at_T40 HR0.out x8_2 p159 q159
                                  have hw159_1 := hx159_1
                                  have hw159_0 := hx159_0
                                  obtain rfl : ad156 = ad159 := (by injection e159)
                                  replace hx159_0 := (HB.out.cell (World.block_lt_of_cell? w _ hx159_0)).trans hx159_0
                                  replace hx159_1 := (HB.out.cell (World.block_lt_of_cell? w _ hx159_1)).trans hx159_1
                                  have HR159_0 := Aside0.mk hi159_0
                                  have HC159_0 := Aside0.mk hl159_0
                                  clear hi159_0 hl159_0
                                  replace p159 := eq_true p159
                                  replace q159 := eq_true q159
                                  have p160 : 0 ≤ ((ji20) : Int) := of_decide_eq_true (by first | (with_reducible assumption) | assumption)
                                  have q160 : (ji20) < (x6_2.length : Int) := of_decide_eq_true (by first | (with_reducible assumption) | assumption)
                                  obtain ⟨ad160, e160, hx160_0⟩ := Kd.at_int (Kd.R_reads' HO_6.out).2.2 (ji20) p160 q160
                                  obtain rfl : (⟨go8, 0, none⟩ : Addr) = ad160 := (by injection e160)
                                  (first | simp only [add_plain] at hx160_0 | simp only [add_at] at hx160_0 | simp only [Addr.add, Nat.zero_add] at hx160_0 | skip)
                                  replace p160 := eq_true p160
                                  replace q160 := eq_true q160
                                  have p23 : 0 ≤ (x7_1 : Int) := of_decide_eq_true (by first | (with_reducible assumption) | assumption)
                                  have q23 : (x7_1 : Int) < ((x6_2.length : Int) : Int) := of_decide_eq_true (by first | (with_reducible assumption) | assumption)
                                  obtain ⟨hx23_0, hf23_0⟩ := Kd.R_celln 0 HO_6.out (x7_1 : Int) p23 q23
                                  replace p23 := eq_true p23
                                  replace q23 := eq_true q23
                                  have HP26 := Kd.R_putn HO_6.out (x7_1 : Int) (wrap64 ((rd x6_2 x7_1) + (rd x6_2 (ji20))))
                                  rw [← Ny161.out] at HP26
                                  have HQ26 := Aside0.mk HP26
                                  clear HP26
                                  refine start_ (n := 20) (S := fun w' => w'.cell? ⟨go8, (x7_1).toNat, none⟩ = some (.int .i64 (rd x6_2 x7_1)) ∧ w'.cell? (ad156.add ((x8_2).toNat * 2)) = some (.slice A159_0 ((rd_T40 l0 x8_2).f0).length c159_0) ∧ w'.cell? ⟨(ad156.add ((x8_2).toNat * 2)).block, (ad156.add ((x8_2).toNat * 2)).off + 1, none⟩ = some (.int .i64 ((rd_T40 l0 x8_2).f1)) ∧ w'.cell? ⟨go8, ((ji20)).toNat, none⟩ = some (.int .i64 (rd x6_2 (ji20)))) (ds := [19]) #[false, false, false, false, false, false, false, false, false, false, false, false, false, false, false, false, false, false, false, false] (by kernel_rfl) rfl rfl ⟨hx158_0, ((HB.out.cell (World.block_lt_of_cell? w _ hw159_0)).trans hw159_0), ((HB.out.cell (World.block_lt_of_cell? w _ hw159_1)).trans hw159_1), hx160_0⟩ (fun hHeld => ?_); refine with_tabW spec_l6fWays.tab11 spec_l6fWays.bits11 (fun HT_ HW_ => ?_)
                                  generalize w24.drew = w25 at HO_6 HB HQ26 HR159_0 hf23_0 hx158_0 hx159_0 hx159_1 hx160_0 hx23_0 hHeld ⊢
                                  refine pure_ (i := 0) (N := some 36) (v := ?_) (a' := ?_) #[true, false, false, false, false, false, false, false, false, false, false, false, false, false, false, false, false, false, false, false] rfl rfl (any_of HT_.out (by kernel_rfl)) (fun _ _ _ h => h) (Or.inl ⟨by rfl, ?_⟩) ?_ ?_
                                  rotate_left
                                  · intro w'
                                    go_simp
                                    with_reducible rfl
                                  rotate_left
                                  · simp only [Act.put, List.setIfInBounds_toArray, List.set_cons_zero, List.set_cons_succ, i64_w, i32_w]
                                    rfl
                                  refine pure_ (i := 1) (N := some 37) (v := ?_) (a' := ?_) #[true, true, false, false, false, false, false, false, false, false, false, false, false, false, false, false, false, false, false, false] rfl rfl (any_of HT_.out (by kernel_rfl)) (fun _ _ _ h => h) (Or.inl ⟨by rfl, ?_⟩) ?_ ?_
                                  rotate_left
                                  · intro w'
                                    go_simp
                                    with_reducible rfl
                                  rotate_left
                                  · simp only [Act.put, List.setIfInBounds_toArray, List.set_cons_zero, List.set_cons_succ, i64_w, i32_w]
                                    rfl
                                  refine pure_ (i := 2) (N := some 38) (v := ?_) (a' := ?_) #[true, true, true, false, false, false, false, false, false, false, false, false, false, false, false, false, false, false, false, false] rfl rfl (any_of HT_.out (by kernel_rfl)) (fun _ _ _ h => h) (Or.inl ⟨by rfl, ?_⟩) ?_ ?_
                                  rotate_left
                                  · intro w'
                                    go_simp
                                    with_reducible rfl
                                  rotate_left
                                  · simp only [Act.put, List.setIfInBounds_toArray, List.set_cons_zero, List.set_cons_succ, i64_w, i32_w]
                                    rfl
                                  refine pure_ (i := 3) (N := some 39) (v := ?_) (a' := ?_) #[true, true, true, true, false, false, false, false, false, false, false, false, false, false, false, false, false, false, false, false] rfl rfl (any_of HT_.out (by kernel_rfl)) (fun _ _ _ h => h) (Or.inl ⟨by rfl, ?_⟩) ?_ ?_
                                  rotate_left
                                  · intro w'
                                    go_simp
                                    with_reducible rfl
                                  rotate_left
                                  · simp only [Act.put, List.setIfInBounds_toArray, List.set_cons_zero, List.set_cons_succ, i64_w, i32_w]
                                    rfl
                                  refine pure_ (i := 4) (N := some 40) (v := ?_) (a' := ?_) #[true, true, true, true, true, false, false, false, false, false, false, false, false, false, false, false, false, false, false, false] rfl rfl (any_of HT_.out (by kernel_rfl)) (fun _ _ _ h => h) (Or.inl ⟨by rfl, ?_⟩) ?_ ?_
                                  rotate_left
                                  · intro w'
                                    go_simp
                                    with_reducible rfl
                                  rotate_left
                                  · simp only [Act.put, List.setIfInBounds_toArray, List.set_cons_zero, List.set_cons_succ, i64_w, i32_w]
                                    rfl
                                  refine pure_ (i := 6) (N := some 42) (v := ?_) (a' := ?_) #[true, true, true, true, true, false, true, false, false, false, false, false, false, false, false, false, false, false, false, false] rfl rfl (any_of HT_.out (by kernel_rfl)) (fun _ _ _ h => h) (Or.inl ⟨by rfl, ?_⟩) ?_ ?_
                                  rotate_left
                                  · intro w'
                                    go_simp
                                    with_reducible rfl
                                  rotate_left
                                  · simp only [Act.put, List.setIfInBounds_toArray, List.set_cons_zero, List.set_cons_succ, i64_w, i32_w]
                                    rfl
                                  refine pure_ (i := 7) (N := some 43) (v := ?_) (a' := ?_) #[true, true, true, true, true, false, true, true, false, false, false, false, false, false, false, false, false, false, false, false] rfl rfl (any_of HT_.out (by kernel_rfl)) (fun _ _ _ h => h) (Or.inl ⟨by rfl, ?_⟩) ?_ ?_
                                  rotate_left
                                  · intro w'
                                    go_simp
                                    with_reducible rfl
                                  rotate_left
                                  · simp only [Act.put, List.setIfInBounds_toArray, List.set_cons_zero, List.set_cons_succ, i64_w, i32_w]
                                    rfl
                                  refine pure_ (i := 8) (N := some 44) (v := ?_) (a' := ?_) #[true, true, true, true, true, false, true, true, true, false, false, false, false, false, false, false, false, false, false, false] rfl rfl (any_of HT_.out (by kernel_rfl)) (fun _ _ _ h => h) (Or.inl ⟨by rfl, ?_⟩) ?_ ?_
                                  rotate_left
                                  · intro w'
                                    go_simp
                                    with_reducible rfl
                                  rotate_left
                                  · simp only [Act.put, List.setIfInBounds_toArray, List.set_cons_zero, List.set_cons_succ, i64_w, i32_w]
                                    rfl
                                  refine pure_ (i := 9) (N := some 45) (v := ?_) (a' := ?_) #[true, true, true, true, true, false, true, true, true, true, false, false, false, false, false, false, false, false, false, false] rfl rfl (any_of HT_.out (by kernel_rfl)) (fun _ _ _ h => h) (Or.inl ⟨by rfl, ?_⟩) ?_ ?_
                                  rotate_left
                                  · intro w'
                                    go_simp
                                    with_reducible rfl
                                  rotate_left
                                  · simp only [Act.put, List.setIfInBounds_toArray, List.set_cons_zero, List.set_cons_succ, i64_w, i32_w]
                                    rfl
                                  refine pure_ (i := 10) (N := some 46) (v := ?_) (a' := ?_) #[true, true, true, true, true, false, true, true, true, true, true, false, false, false, false, false, false, false, false, false] rfl rfl (any_of HT_.out (by kernel_rfl)) (fun _ _ _ h => h) (Or.inl ⟨by rfl, ?_⟩) ?_ ?_
                                  rotate_left
                                  · intro w'
                                    go_simp
                                    with_reducible rfl
                                  rotate_left
                                  · simp only [Act.put, List.setIfInBounds_toArray, List.set_cons_zero, List.set_cons_succ, i64_w, i32_w]
                                    rfl
                                  refine pure_ (i := 11) (N := some 47) (v := ?_) (a' := ?_) #[true, true, true, true, true, false, true, true, true, true, true, true, false, false, false, false, false, false, false, false] rfl rfl (any_of HT_.out (by kernel_rfl)) (fun _ _ _ h => h) (Or.inl ⟨by rfl, ?_⟩) ?_ ?_
                                  rotate_left
                                  · intro w'
                                    go_simp
                                    with_reducible rfl
                                  rotate_left
                                  · simp only [Act.put, List.setIfInBounds_toArray, List.set_cons_zero, List.set_cons_succ, i64_w, i32_w]
                                    rfl
                                  refine take_ (i := 5) (N := some 41) (v := ?_) (a' := ?_) #[true, true, true, true, true, true, true, true, true, true, true, true, false, false, false, false, false, false, false, false] rfl rfl (take_ofW HT_.out HW_.out (by kernel_rfl)) (fun _ _ _ h => h) (Or.inl ⟨by rfl, ?_⟩) hHeld ?_ ?_
                                  rotate_left
                                  · rintro w' ⟨s0, s1, s2, s3⟩
                                    go_simp
                                    with_reducible rfl
                                  rotate_left
                                  · simp only [Act.put, List.setIfInBounds_toArray, List.set_cons_zero, List.set_cons_succ, i64_w, i32_w]
                                    rfl
                                  refine take_ (i := 12) (N := some 48) (v := ?_) (a' := ?_) #[true, true, true, true, true, true, true, true, true, true, true, true, true, false, false, false, false, false, false, false] rfl rfl (take_ofW HT_.out HW_.out (by kernel_rfl)) (fun _ _ _ h => h) (Or.inl ⟨by rfl, ?_⟩) hHeld ?_ ?_
                                  rotate_left
                                  · rintro w' ⟨s0, s1, s2, s3⟩
                                    go_simp
                                    with_reducible rfl
                                  rotate_left
                                  · simp only [Act.put, List.setIfInBounds_toArray, List.set_cons_zero, List.set_cons_succ, i64_w, i32_w]
                                    rfl
                                  refine pure_ (i := 13) (N := some 49) (v := ?_) (a' := ?_) #[true, true, true, true, true, true, true, true, true, true, true, true, true, true, false, false, false, false, false, false] rfl rfl (any_of HT_.out (by kernel_rfl)) (fun _ _ _ h => h) (Or.inl ⟨by rfl, ?_⟩) ?_ ?_
                                  rotate_left
                                  · intro w'
                                    go_simp
                                    with_reducible rfl
                                  rotate_left
                                  · simp only [Act.put, List.setIfInBounds_toArray, List.set_cons_zero, List.set_cons_succ, i64_w, i32_w]
                                    rfl
                                  refine pure_ (i := 14) (N := some 50) (v := ?_) (a' := ?_) #[true, true, true, true, true, true, true, true, true, true, true, true, true, true, true, false, false, false, false, false] rfl rfl (any_of HT_.out (by kernel_rfl)) (fun _ _ _ h => h) (Or.inl ⟨by rfl, ?_⟩) ?_ ?_
                                  rotate_left
                                  · intro w'
                                    go_simp
                                    with_reducible rfl
                                  rotate_left
                                  · simp only [Act.put, List.setIfInBounds_toArray, List.set_cons_zero, List.set_cons_succ, i64_w, i32_w]
                                    rfl
                                  refine pure_ (i := 15) (N := some 51) (v := ?_) (a' := ?_) #[true, true, true, true, true, true, true, true, true, true, true, true, true, true, true, true, false, false, false, false] rfl rfl (any_of HT_.out (by kernel_rfl)) (fun _ _ _ h => h) (Or.inl ⟨by rfl, ?_⟩) ?_ ?_
                                  rotate_left
                                  · intro w'
                                    go_simp
                                    with_reducible rfl
                                  rotate_left
                                  · simp only [Act.put, List.setIfInBounds_toArray, List.set_cons_zero, List.set_cons_succ, i64_w, i32_w]
                                    rfl
                                  refine take_ (i := 16) (N := some 52) (v := ?_) (a' := ?_) #[true, true, true, true, true, true, true, true, true, true, true, true, true, true, true, true, true, false, false, false] rfl rfl (take_ofW HT_.out HW_.out (by kernel_rfl)) (fun _ _ _ h => h) (Or.inl ⟨by rfl, ?_⟩) hHeld ?_ ?_
                                  rotate_left
                                  · rintro w' ⟨s0, s1, s2, s3⟩
                                    go_simp
                                    with_reducible rfl
                                  rotate_left
                                  · simp only [Act.put, List.setIfInBounds_toArray, List.set_cons_zero, List.set_cons_succ, i64_w, i32_w]
                                    rfl
                                  refine pure_ (i := 17) (N := some 53) (v := ?_) (a' := ?_) #[true, true, true, true, true, true, true, true, true, true, true, true, true, true, true, true, true, true, false, false] rfl rfl (any_of HT_.out (by kernel_rfl)) (fun _ _ _ h => h) (Or.inl ⟨by rfl, ?_⟩) ?_ ?_
                                  rotate_left
                                  · intro w'
                                    go_simp
                                    with_reducible rfl
                                  rotate_left
                                  · simp only [Act.put, List.setIfInBounds_toArray, List.set_cons_zero, List.set_cons_succ, i64_w, i32_w]
                                    rfl
                                  refine pure_ (i := 18) (N := some 54) (v := ?_) (a' := ?_) #[true, true, true, true, true, true, true, true, true, true, true, true, true, true, true, true, true, true, true, false] rfl rfl (any_of HT_.out (by kernel_rfl)) (fun _ _ _ h => h) (Or.inl ⟨by rfl, ?_⟩) ?_ ?_
                                  rotate_left
                                  · intro w'
                                    go_simp
                                    with_reducible rfl
                                  rotate_left
                                  · simp only [Act.put, List.setIfInBounds_toArray, List.set_cons_zero, List.set_cons_succ, i64_w, i32_w]
                                    rfl
                                  refine last_ (i := 19) (N := none) #[true, true, true, true, true, true, true, true, true, true, true, true, true, true, true, true, true, true, true, true] rfl rfl (one_of HT_.out (by kernel_rfl)) (by decide) (fun K hK => ?_)
                                  refine skip_ (w1 := ?_) (by rfl) rfl ?_ ?_
                                  rotate_left
                                  · go_simp
                                    rfl
                                  refine hK.out _ _ ?_
                                  clear hK K
                                  refine done_ (done_of HT_.out (by kernel_rfl)) ?_
                                  try go_wp2
                                  (try simp only [← hl6_2])
                                  go_roundg k2
                                  case measure => have := HK1.out; have := HK2.out; omega
                                  case rel => exact ⟨(y161), (wrap64 (x8_2 + 1)), (by first | rfl | (simp; done) | (simp [*]; done)), H', ⟨by have := HK1.out; have := HK2.out; omega⟩, ⟨by (try simp only [hl6_1]); (try simp only [hl6_2]); (with_reducible repeat (first | apply Kd.R_alloc | apply Kd.R_drewN | apply Kd.R_drew)); exact HQ26.out⟩, ⟨by repeat (first | (with_reducible first | exact HB.out | apply below_alloc | apply pw_below_drewN | apply below_drew1 | refine below_set ?_ GB8.out) | exact HB.out)⟩⟩
                                · rw [if_neg c22] at H
                                  exact absurd H (by simp)
                              · rw [if_neg c21] at H
                                exact absurd H (by simp)
                            · rw [if_neg c19] at H
                              exact absurd H (by simp)
                          · rw [if_neg c18] at H
                            exact absurd H (by simp)
                        · replace c17 := Bool.eq_false_iff.mpr c17
                          subst c17
                          have H1 : (spec_l6fWays.l1 k2 l0 l1 x6_2 x7_1 (wrap64 (x8_2 + 1))) = some r := by rw [if_neg (show ¬ (false = true) by decide)] at H; exact H
                          clear H
                          have H := H1
                          clear H1
                          have H' := Aside0.mk H
                          clear H
                          have p156 : 0 ≤ (x8_2 : Int) := of_decide_eq_true (by first | (with_reducible assumption) | assumption)
                          have q156 : x8_2 < (l0.length : Int) := of_decide_eq_true (by first | (with_reducible assumption) | assumption)
                          obtain ⟨ad156, A156_0, c156_0, e156, hx156_0, hx156_1, hl156_0, hi156_0⟩ := at_T40 HR0.out x8_2 p156 q156
                          cases e156
                          replace hx156_0 := (HB.out.cell (World.block_lt_of_cell? w _ hx156_0)).trans hx156_0
                          replace hx156_1 := (HB.out.cell (World.block_lt_of_cell? w _ hx156_1)).trans hx156_1
                          have HR156_0 := Aside0.mk hi156_0
                          have HC156_0 := Aside0.mk hl156_0
                          clear hi156_0 hl156_0
                          replace p156 := eq_true p156
                          replace q156 := eq_true q156
                          go_wp2_with (first | ((with_reducible refine gate_callee (f := 53) rfl ?_); refine goesL_ (some 35) rfl rfl Try.func53 (by kernel_rfl) rfl #[.agg #[.slice A156_0 ((rd_T40 l0 x8_2).f0).length c156_0, .int .i64 ((rd_T40 l0 x8_2).f1)], .slice A1 l1.length c1, .int .i64 x7_1] rfl (by (try simp only [List.map_toArray, List.map_cons, List.map_nil]); first | done | rfl | (simp only [List.length_drop, List.length_take]; rfl)) ?_; (with_reducible refine (spec_l6fAt.calls k2 _ _ ((rd_T40 l0 x8_2).f0) ((rd_T40 l0 x8_2).f1) _ _ l1 x7_1 false _ ?side1 ?side2 ?side3 ?side4 A16.out).mono ?_); (case side1 => repeat (first | exact (Kd.C_below HR156_0.out HB.out) | (with_reducible refine Kd.C_alloc ?_ _) | (with_reducible refine Kd.C_drewN ?_ _) | (with_reducible refine Kd.C_drew ?_))); (case side2 => exact HC156_0.out); (case side3 => repeat (first | exact (Kd.C_below HR1.out HB.out) | (with_reducible refine Kd.C_alloc ?_ _) | (with_reducible refine Kd.C_drewN ?_ _) | (with_reducible refine Kd.C_drew ?_))); (case side4 => exact HC1.out); rintro e w27 ⟨rfl, hb⟩; refine ⟨_, rfl, ?_⟩; have n0_ := Aside0.mk (Kd.R_below (by (with_reducible repeat (first | apply Kd.R_alloc | apply Kd.R_drewN | apply Kd.R_drew)); exact HO_6.out) hb); have n1_ := Aside0.mk (below_step (by repeat (first | (with_reducible first | exact HB.out | apply below_alloc | apply pw_below_drewN | apply below_drew1) | exact HB.out)) hb); clear HO_6; clear HB; have HO_6 := n0_; have HB := n1_; clear n0_ n1_; (try clear hb); (try clear hb2); (try clear hk); (try clear hi)))
                          (try simp only [← hl6_2])
                          go_roundg k2
                          case measure => have := HK1.out; have := HK2.out; omega
                          case rel => exact ⟨(x6_2), (wrap64 (x8_2 + 1)), (by first | rfl | (simp; done) | (simp [*]; done)), H', ⟨by have := HK1.out; have := HK2.out; omega⟩, ⟨by (try simp only [hl6_1]); (try simp only [hl6_2]); (with_reducible repeat (first | apply Kd.R_alloc | apply Kd.R_drewN | apply Kd.R_drew)); exact HO_6.out⟩, ⟨by repeat (first | (with_reducible first | exact HB.out | apply below_alloc | apply pw_below_drewN | apply below_drew1) | exact HB.out)⟩⟩
                      · rw [if_neg c15] at H
                        exact absurd H (by simp)
                    · rw [if_neg c14] at H
                      have c14b0 : decide (x8_2 < (l0.length : Int)) = false := decide_eq_false c14
                      clear c14
                      have H' := Aside0.mk H
                      clear H
                      go_wp2
                      (try simp only [← hl6_1, ← hl6_2])
                      go_roundg k2
                      case measure => have := HK1.out; have := HK2.out; omega
                      case rel => exact ⟨(x6_2), (wrap64 (x7_1 - 1)), (by first | rfl | (simp; done) | (simp [*]; done)), H', ⟨by have := HK1.out; have := HK2.out; omega⟩, ⟨by (try simp only [hl6_1]); (try simp only [hl6_2]); (with_reducible repeat (first | apply Kd.R_alloc | apply Kd.R_drewN | apply Kd.R_drew)); exact HO_6.out⟩, ⟨by repeat (first | (with_reducible first | exact HB.out | apply below_alloc | apply pw_below_drewN | apply below_drew1) | exact HB.out)⟩⟩
              · rw [if_neg c13] at H
                have c13b0 : decide (0 ≤ x7_1) = false := decide_eq_false c13
                clear c13
                obtain rfl := Option.some.inj H
                go_wp2
                go_ret
                exact ⟨_, by first | rfl | (simp [errW_none, errW_some] <;> rfl) | (simp only [← hji3]; first | rfl | (simp [errW_none, errW_some] <;> rfl)) | (simp [*, errW_none, errW_some] <;> rfl), by (with_reducible repeat (first | apply Kd.R_alloc | apply Kd.R_drewN | apply Kd.R_drew)); exact HO_6.out, by repeat (first | (with_reducible first | exact HB.out | apply below_alloc | apply pw_below_drewN | apply below_drew1) | exact HB.out)⟩
        · rw [if_neg c7] at H
          exact absurd H (by simp)
      · rw [if_neg c6] at H
        exact absurd H (by simp)
    · rw [if_neg c5] at H
      exact absurd H (by simp)
  · rw [if_neg c4] at H
    exact absurd H (by simp)

/-! spec_FormulasFirst: as the print has it, but the cut list has a name of its own -/
mutual
def spec_FormulasFirst.j0 : Nat → List (S40) → List Int → List Int → Bool → Option (List Int)
  | 0, _, _, _, _ => none
  | k + 1, x0, x1, x5, x17 => if x17 = true then (some x5) else ((spec_l6fWays.f k x0 x1).bind fun t166 => (spec_FormulasFirst.l0 k x0 x1 x5 t166 0))
def spec_FormulasFirst.l0 : Nat → List (S40) → List Int → List Int → List Int → Int → Option (List Int)
  | 0, _, _, _, _, _ => none
  | k + 1, x0, x1, x5, x6, x7 => if x7 < (x0.length : Int) then (if 0 ≤ x7 then ((spec_l6fAt.f k ((rd_T40 x0 x7).f0) ((rd_T40 x0 x7).f1) x1 0).bind fun t170 => (if t170 = true then (if 0 ≤ (((rd_T40 x0 x7).f0).length : Int) then (if (((rd_T40 x0 x7).f0).length : Int) < (x6.length : Int) then (if (rd x6 (((rd_T40 x0 x7).f0).length : Int)) > 0 then (if x5.length < 17592186044416 then (spec_FormulasFirst.l0 k x0 x1 (x5 ++ [x7]) x6 (wrap64 (x7 + 1))) else (none)) else (spec_FormulasFirst.l0 k x0 x1 x5 x6 (wrap64 (x7 + 1)))) else (none)) else (none)) else (spec_FormulasFirst.l0 k x0 x1 x5 x6 (wrap64 (x7 + 1))))) else (none)) else (some x5)
end
def spec_FormulasFirst.f (k : Nat) (l0 : List (S40)) (l1 : List Int) : Option (List Int) := (some (([] : List Int) : List Int)).bind fun y162 => ((spec_l6fOk.f k l0 l1).bind fun t165 => (if t165 = true then (spec_FormulasFirst.j0 k l0 l1 y162 ((l1.length : Int) == 0)) else (spec_FormulasFirst.j0 k l0 l1 y162 true)))
theorem spec_FormulasFirst.mono_l : ∀ k, (∀ y0 y1 y2 y3, LeO (spec_FormulasFirst.j0 k y0 y1 y2 y3) (spec_FormulasFirst.j0 (k + 1) y0 y1 y2 y3)) ∧ (∀ y0 y1 y2 y3 y4, LeO (spec_FormulasFirst.l0 k y0 y1 y2 y3 y4) (spec_FormulasFirst.l0 (k + 1) y0 y1 y2 y3 y4))
  | 0 => ⟨fun _ _ _ _ r h => by simp [spec_FormulasFirst.j0] at h, fun _ _ _ _ _ r h => by simp [spec_FormulasFirst.l0] at h⟩
  | k + 1 => by
    obtain ⟨ih0, ih1⟩ := spec_FormulasFirst.mono_l k
    refine ⟨?_, ?_⟩
    · intro y0 y1 y2 y3
      unfold spec_FormulasFirst.j0
      repeat' first
      | (with_reducible exact ih0 _ _ _ _)
      | (with_reducible exact ih1 _ _ _ _ _)
      | (with_reducible exact spec_l6fAt.mono _ _ _ _ _)
      | (with_reducible exact spec_l6fOk.mono _ _ _)
      | (with_reducible exact spec_l6fWays.mono _ _ _)
      | (with_reducible exact LeO.refl _)
      | (with_reducible exact LeO.none _)
      | (with_reducible refine LeO.ite ?_ ?_)
      | (with_reducible refine LeO.bind ?_ (fun _ => ?_))
      | exact ih0 _ _ _ _
      | exact ih1 _ _ _ _ _
      | exact spec_l6fAt.mono _ _ _ _ _
      | exact spec_l6fOk.mono _ _ _
      | exact spec_l6fWays.mono _ _ _
      | exact LeO.none _
      | refine LeO.ite ?_ ?_
      | refine LeO.bind ?_ (fun _ => ?_)
    · intro y0 y1 y2 y3 y4
      unfold spec_FormulasFirst.l0
      repeat' first
      | (with_reducible exact ih0 _ _ _ _)
      | (with_reducible exact ih1 _ _ _ _ _)
      | (with_reducible exact spec_l6fAt.mono _ _ _ _ _)
      | (with_reducible exact spec_l6fOk.mono _ _ _)
      | (with_reducible exact spec_l6fWays.mono _ _ _)
      | (with_reducible exact LeO.refl _)
      | (with_reducible exact LeO.none _)
      | (with_reducible refine LeO.ite ?_ ?_)
      | (with_reducible refine LeO.bind ?_ (fun _ => ?_))
      | exact ih0 _ _ _ _
      | exact ih1 _ _ _ _ _
      | exact spec_l6fAt.mono _ _ _ _ _
      | exact spec_l6fOk.mono _ _ _
      | exact spec_l6fWays.mono _ _ _
      | exact LeO.none _
      | refine LeO.ite ?_ ?_
      | refine LeO.bind ?_ (fun _ => ?_)
theorem spec_FormulasFirst.mono : ∀ a0 a1 k, LeO (spec_FormulasFirst.f k a0 a1) (spec_FormulasFirst.f (k + 1) a0 a1) := by
  intro a0 a1 k
  obtain ⟨ih0, ih1⟩ := spec_FormulasFirst.mono_l k
  unfold spec_FormulasFirst.f
  repeat' first
      | (with_reducible exact ih0 _ _ _ _)
      | (with_reducible exact ih1 _ _ _ _ _)
      | (with_reducible exact spec_l6fAt.mono _ _ _ _ _)
      | (with_reducible exact spec_l6fOk.mono _ _ _)
      | (with_reducible exact spec_l6fWays.mono _ _ _)
      | (with_reducible exact LeO.refl _)
      | (with_reducible exact LeO.none _)
      | (with_reducible refine LeO.ite ?_ ?_)
      | (with_reducible refine LeO.bind ?_ (fun _ => ?_))
      | exact ih0 _ _ _ _
      | exact ih1 _ _ _ _ _
      | exact spec_l6fAt.mono _ _ _ _ _
      | exact spec_l6fOk.mono _ _ _
      | exact spec_l6fWays.mono _ _ _
      | exact LeO.none _
      | refine LeO.ite ?_ ?_
      | refine LeO.bind ?_ (fun _ => ?_)
set_option maxHeartbeats 8000000 in
set_option maxRecDepth 100000 in
theorem spec_FormulasFirst.calls (k : Nat) (A0 : Option Addr) (c0 : Nat) (l0 : List (S40)) (A1 : Option Addr) (c1 : Nat) (l1 : List Int) (r : List Int) (w : World) (hr0 : Kd.C k40 w A0 l0.length l0) (hc0 : l0.length ≤ c0) (hr1 : Kd.C (Kd.int .i64) w A1 l1.length l1) (hc1 : l1.length ≤ c1) (h : spec_FormulasFirst.f k l0 l1 = some r) :
    Calls Try.prog 25 #[.slice A0 l0.length c0, .slice A1 l1.length c1] w fun e w' => ∃ v0_ : Value, e = .returned (v0_) ∧ Kd.R (Kd.int .i64) 3 w' w.heap.size (fun _ => True) v0_ r ∧ Below w.heap.size w w' := by
  have hu40 := Try.underlying40
  have HR0 := Aside0.mk hr0
  have HC0 := Aside0.mk hc0
  clear hr0 hc0
  have HR1 := Aside0.mk hr1
  have HC1 := Aside0.mk hc1
  clear hr1 hc1
  have HB := Aside0.mk (Below.refl w.heap.size w)
  have H : ((some (([] : List Int) : List Int)).bind fun y162 => ((spec_l6fOk.f k l0 l1).bind fun t165 => (if t165 = true then (spec_FormulasFirst.j0 k l0 l1 y162 ((l1.length : Int) == 0)) else (spec_FormulasFirst.j0 k l0 l1 y162 true)))) = some r := h
  clear h
  obtain ⟨y162, hy162⟩ : ∃ y_ : List Int, y_ = (([] : List Int)) := ⟨_, rfl⟩
  replace H : ((spec_l6fOk.f k l0 l1).bind fun t165 => (if t165 = true then (spec_FormulasFirst.j0 k l0 l1 y162 ((l1.length : Int) == 0)) else (spec_FormulasFirst.j0 k l0 l1 y162 true))) = some r := by first | (rw [hy162]; with_reducible exact H) | (have H2_ := (Option.bind_some _ _).symm.trans H; rw [hy162]; with_reducible exact H2_) | (have H2_ := (Option.bind_some _ _).symm.trans H; with_reducible exact H2_) | with_reducible exact H | (rw [hy162]; exact H) | exact H
  have Ny162 := Aside0.mk hy162
  clear hy162
  have HC3 := Aside0.mk H
  clear H
  go_enter Try.func25, Try.ntmps25
  go_upto_region 2 with (first | ((with_reducible refine gate_dst (N := 8) rfl ?_); (try (refine gate_guard (by rfl) ?_; dsimp only)); refine Kd.R_lit (Kd.int .i64) _ 3 ?hg (N := 8) ?hd (xs := ([] : List Int)) (inner := []) (ok := fun _ => True) (okp := fun _ => True) ?hr ?hp (fun _ hk => hk) trivial (Below.refl _ _) (Nat.le_refl _) (by simp) ?_; (case hd => rfl); (case hg => rfl); (case hr => first | (go_simp; done) | (go_simp; rfl)); (case hp => exact (Reps.none _ _)); intro v163 w4 ho5 hb hg_ hnew_; clear hg_ hnew_; (first | rw [← Ny162.out] at ho5 | (simp only [Int.reduceToNat] at ho5; rw [← Ny162.out] at ho5)); have n0_ := Aside0.mk (Kd.R_lower ho5 (below_size (by repeat (first | (with_reducible first | exact HB.out | apply below_alloc | apply pw_below_drewN | apply below_drew1) | exact HB.out)))); have n1_ := Aside0.mk (below_step (by repeat (first | (with_reducible first | exact HB.out | apply below_alloc | apply pw_below_drewN | apply below_drew1) | exact HB.out)) hb); clear HB; have HO164 := n0_; have HB := n1_; clear n0_ n1_; clear hb ho5))
  (try simp only [Act.put, List.setIfInBounds_toArray, List.set_cons_zero, List.set_cons_succ])
  go_cut [17] (fun v17 wc => ∃ (kq : Nat) (x17_2 : Bool), v17 = .bool x17_2 ∧ Aside0 (spec_FormulasFirst.j0 kq l0 l1 y162 x17_2 = some r) ∧ Aside0 (kq ≤ k) ∧ Aside0 (Kd.R (Kd.int .i64) 3 wc w.heap.size (fun _ => True) v163 y162) ∧ Aside0 (Below w.heap.size w wc))
  case first =>
    have H := HC3.out
    clear HC3
    replace H := Option.bind_eq_some_iff.mp H
    obtain ⟨t165, A60, H⟩ := H
    replace H : (if t165 = true then (spec_FormulasFirst.j0 k l0 l1 y162 ((l1.length : Int) == 0)) else (spec_FormulasFirst.j0 k l0 l1 y162 true)) = some r := H
    have A6 := Aside0.mk A60
    clear A60
    by_cases c7 : t165 = true
    · subst c7
      have H1 : (spec_FormulasFirst.j0 k l0 l1 y162 ((l1.length : Int) == 0)) = some r := by rw [if_pos rfl] at H; exact H
      clear H
      have H := H1
      clear H1
      have H' := Aside0.mk H
      clear H
      go_wp2_with (first | ((with_reducible refine gate_callee (f := 44) rfl ?_); refine goesL_ (some 11) rfl rfl Try.func44 (by kernel_rfl) rfl #[.slice A0 l0.length c0, .slice A1 l1.length c1] rfl (by (try simp only [List.map_toArray, List.map_cons, List.map_nil]); first | done | rfl | (simp only [List.length_drop, List.length_take]; rfl)) ?_; (with_reducible refine (spec_l6fOk.calls k _ _ l0 _ _ l1 true _ ?side1 ?side2 ?side3 ?side4 A6.out).mono ?_); (case side1 => repeat (first | exact (Kd.C_below HR0.out HB.out) | (with_reducible refine Kd.C_alloc ?_ _) | (with_reducible refine Kd.C_drewN ?_ _) | (with_reducible refine Kd.C_drew ?_))); (case side2 => exact HC0.out); (case side3 => repeat (first | exact (Kd.C_below HR1.out HB.out) | (with_reducible refine Kd.C_alloc ?_ _) | (with_reducible refine Kd.C_drewN ?_ _) | (with_reducible refine Kd.C_drew ?_))); (case side4 => exact HC1.out); rintro e w8 ⟨rfl, hb⟩; refine ⟨_, rfl, ?_⟩; have n0_ := Aside0.mk (Kd.R_below (by (with_reducible repeat (first | apply Kd.R_alloc | apply Kd.R_drewN | apply Kd.R_drew)); exact HO164.out) hb); have n1_ := Aside0.mk (below_step (by repeat (first | (with_reducible first | exact HB.out | apply below_alloc | apply pw_below_drewN | apply below_drew1) | exact HB.out)) hb); clear HO164; clear HB; have HO164 := n0_; have HB := n1_; clear n0_ n1_; (try clear hb); (try clear hb2); (try clear hk); (try clear hi)))
      go_meet
      case rel => exact ⟨_, (((l1.length : Int) == 0)), (by first | rfl | (simp; done) | (simp [*]; done)), H', ⟨by first | omega | exact Nat.le_refl _⟩, ⟨by (with_reducible repeat (first | apply Kd.R_alloc | apply Kd.R_drewN | apply Kd.R_drew)); exact HO164.out⟩, ⟨by repeat (first | (with_reducible first | exact HB.out | apply below_alloc | apply pw_below_drewN | apply below_drew1) | exact HB.out)⟩⟩
    · replace c7 := Bool.eq_false_iff.mpr c7
      subst c7
      have H1 : (spec_FormulasFirst.j0 k l0 l1 y162 true) = some r := by rw [if_neg (show ¬ (false = true) by decide)] at H; exact H
      clear H
      have H := H1
      clear H1
      have H' := Aside0.mk H
      clear H
      go_wp2_with (first | ((with_reducible refine gate_callee (f := 44) rfl ?_); refine goesL_ (some 11) rfl rfl Try.func44 (by kernel_rfl) rfl #[.slice A0 l0.length c0, .slice A1 l1.length c1] rfl (by (try simp only [List.map_toArray, List.map_cons, List.map_nil]); first | done | rfl | (simp only [List.length_drop, List.length_take]; rfl)) ?_; (with_reducible refine (spec_l6fOk.calls k _ _ l0 _ _ l1 false _ ?side1 ?side2 ?side3 ?side4 A6.out).mono ?_); (case side1 => repeat (first | exact (Kd.C_below HR0.out HB.out) | (with_reducible refine Kd.C_alloc ?_ _) | (with_reducible refine Kd.C_drewN ?_ _) | (with_reducible refine Kd.C_drew ?_))); (case side2 => exact HC0.out); (case side3 => repeat (first | exact (Kd.C_below HR1.out HB.out) | (with_reducible refine Kd.C_alloc ?_ _) | (with_reducible refine Kd.C_drewN ?_ _) | (with_reducible refine Kd.C_drew ?_))); (case side4 => exact HC1.out); rintro e w9 ⟨rfl, hb⟩; refine ⟨_, rfl, ?_⟩; have n0_ := Aside0.mk (Kd.R_below (by (with_reducible repeat (first | apply Kd.R_alloc | apply Kd.R_drewN | apply Kd.R_drew)); exact HO164.out) hb); have n1_ := Aside0.mk (below_step (by repeat (first | (with_reducible first | exact HB.out | apply below_alloc | apply pw_below_drewN | apply below_drew1) | exact HB.out)) hb); clear HO164; clear HB; have HO164 := n0_; have HB := n1_; clear n0_ n1_; (try clear hb); (try clear hb2); (try clear hk); (try clear hi)))
      go_meet
      case rel => exact ⟨_, (true), (by first | rfl | (simp; done) | (simp [*]; done)), H', ⟨by first | omega | exact Nat.le_refl _⟩, ⟨by (with_reducible repeat (first | apply Kd.R_alloc | apply Kd.R_drewN | apply Kd.R_drew)); exact HO164.out⟩, ⟨by repeat (first | (with_reducible first | exact HB.out | apply below_alloc | apply pw_below_drewN | apply below_drew1) | exact HB.out)⟩⟩
  case rest =>
    clear HC3
    try clear c1
    try clear c2
    try clear p2
    try clear c4
    try clear c7
    obtain ⟨kq, x17_2, rfl, HA, HJ2, HO_5, HB⟩ := hcut
    cases kq with
    | zero => exact absurd HA.out (by simp [spec_FormulasFirst.j0])
    | succ kj2 =>
      have H := HA.out
      clear HA
      simp only [spec_FormulasFirst.j0] at H
      by_cases c10 : x17_2 = true
      · subst c10
        have H1 : (some y162) = some r := by rw [if_pos rfl] at H; exact H
        clear H
        have H := H1
        clear H1
        obtain rfl := Option.some.inj H
        go_wp2
        go_ret
        exact ⟨_, by first | rfl | (simp [errW_none, errW_some] <;> rfl) | (simp [*, errW_none, errW_some] <;> rfl), by (with_reducible repeat (first | apply Kd.R_alloc | apply Kd.R_drewN | apply Kd.R_drew)); exact HO_5.out, by repeat (first | (with_reducible first | exact HB.out | apply below_alloc | apply pw_below_drewN | apply below_drew1) | exact HB.out)⟩
      · replace c10 := Bool.eq_false_iff.mpr c10
        subst c10
        have H1 : ((spec_l6fWays.f kj2 l0 l1).bind fun t166 => (spec_FormulasFirst.l0 kj2 l0 l1 y162 t166 0)) = some r := by rw [if_neg (show ¬ (false = true) by decide)] at H; exact H
        clear H
        have H := H1
        clear H1
        replace H := Option.bind_eq_some_iff.mp H
        obtain ⟨t166, A110, H⟩ := H
        replace H : (spec_FormulasFirst.l0 kj2 l0 l1 y162 t166 0) = some r := H
        have A11 := Aside0.mk A110
        clear A110
        have H' := Aside0.mk H
        clear H
        go_wp2_with (first | ((with_reducible refine gate_callee (f := 45) rfl ?_); refine goesL_ (some 21) rfl rfl Try.func45 (by kernel_rfl) rfl #[.slice A0 l0.length c0, .slice A1 l1.length c1] rfl (by (try simp only [List.map_toArray, List.map_cons, List.map_nil]); first | done | rfl | (simp only [List.length_drop, List.length_take]; rfl)) ?_; (with_reducible refine (spec_l6fWays.calls kj2 _ _ l0 _ _ l1 t166 _ ?side1 ?side2 ?side3 ?side4 A11.out).mono ?_); (case side1 => repeat (first | exact (Kd.C_below HR0.out HB.out) | (with_reducible refine Kd.C_alloc ?_ _) | (with_reducible refine Kd.C_drewN ?_ _) | (with_reducible refine Kd.C_drew ?_))); (case side2 => exact HC0.out); (case side3 => repeat (first | exact (Kd.C_below HR1.out HB.out) | (with_reducible refine Kd.C_alloc ?_ _) | (with_reducible refine Kd.C_drewN ?_ _) | (with_reducible refine Kd.C_drew ?_))); (case side4 => exact HC1.out); rintro e w12 ⟨v167, rfl, ho0, hb⟩; refine ⟨_, rfl, ?_⟩; have n0_ := Aside0.mk (Kd.R_elder' (by (with_reducible repeat (first | apply Kd.R_alloc | apply Kd.R_drewN | apply Kd.R_drew)); exact HO_5.out) (Kd.R_base ho0) hb); have n1_ := Aside0.mk (Kd.R_lower (Kd.R_new' ho0 (Kd.R_lt (by (with_reducible repeat (first | apply Kd.R_alloc | apply Kd.R_drewN | apply Kd.R_drew)); exact HO_5.out))) (below_size (by repeat (first | (with_reducible first | exact HB.out | apply below_alloc | apply pw_below_drewN | apply below_drew1) | exact HB.out)))); have n2_ := Aside0.mk (below_step (by repeat (first | (with_reducible first | exact HB.out | apply below_alloc | apply pw_below_drewN | apply below_drew1) | exact HB.out)) hb); clear HO_5; clear HB; have HO_5 := n0_; have HO168 := n1_; have HB := n2_; clear n0_ n1_ n2_; (try clear hb); (try clear hb2); (try clear hk); (try clear hi); (try clear ho0)))
        go_loopg [5, 7] kj2 (fun kq v5 v7 w' => ∃ (x5_2 : List Int) (x7_2 : Int), v7 = .int .i64 x7_2 ∧ Aside0 (spec_FormulasFirst.l0 kq l0 l1 x5_2 t166 x7_2 = some r) ∧ Aside0 (kq ≤ kj2) ∧ Aside0 (Kd.R (Kd.int .i64) 3 w' w.heap.size (fun k_ => some k_ ≠ (v167 : Value).ownBlock) v5 x5_2) ∧ Aside0 (Kd.R (Kd.int .i64) 3 w' w.heap.size (fun k_ => some k_ ≠ (v5 : Value).ownBlock) v167 t166) ∧ Aside0 (Below w.heap.size w w'))
        case atStart => exact ⟨(y162), (0), (by first | rfl | (simp; done) | (simp [*]; done)), H', ⟨Nat.le_refl _⟩, ⟨by (with_reducible repeat (first | apply Kd.R_alloc | apply Kd.R_drewN | apply Kd.R_drew)); exact Kd.R_mono HO_5.out (fun _ hk => hk.2)⟩, ⟨by (with_reducible repeat (first | apply Kd.R_alloc | apply Kd.R_drewN | apply Kd.R_drew)); exact Kd.R_mono HO168.out (fun _ hk => hk.2)⟩, ⟨by repeat (first | (with_reducible first | exact HB.out | apply below_alloc | apply pw_below_drewN | apply below_drew1) | exact HB.out)⟩⟩
        case round =>
          clear H'
          try clear c1
          try clear c2
          try clear p2
          try clear c4
          try clear c7
          try clear c10
          try clear p2
          obtain ⟨x5_2, x7_2, rfl, HA, HK2, HO_5, HO_6, HB⟩ := hrel
          cases gk with
          | zero => exact absurd HA.out (by simp [spec_FormulasFirst.l0])
          | succ k2 =>
            have H := HA.out
            clear HA
            simp only [spec_FormulasFirst.l0] at H
            by_cases c13 : x7_2 < (l0.length : Int)
            · rw [if_pos c13] at H
              have c13b0 : decide (x7_2 < (l0.length : Int)) = true := decide_eq_true c13
              clear c13
              by_cases c14 : 0 ≤ x7_2
              · rw [if_pos c14] at H
                have c14b0 : decide (0 ≤ x7_2) = true := decide_eq_true c14
                clear c14
                replace H := Option.bind_eq_some_iff.mp H
                obtain ⟨t170, A150, H⟩ := H
                replace H : (if t170 = true then (if 0 ≤ (((rd_T40 l0 x7_2).f0).length : Int) then (if (((rd_T40 l0 x7_2).f0).length : Int) < (t166.length : Int) then (if (rd t166 (((rd_T40 l0 x7_2).f0).length : Int)) > 0 then (if x5_2.length < 17592186044416 then (spec_FormulasFirst.l0 k2 l0 l1 (x5_2 ++ [x7_2]) t166 (wrap64 (x7_2 + 1))) else (none)) else (spec_FormulasFirst.l0 k2 l0 l1 x5_2 t166 (wrap64 (x7_2 + 1)))) else (none)) else (none)) else (spec_FormulasFirst.l0 k2 l0 l1 x5_2 t166 (wrap64 (x7_2 + 1)))) = some r := H
                have A15 := Aside0.mk A150
                clear A150
                by_cases c16 : t170 = true
                · subst c16
                  have H1 : (if 0 ≤ (((rd_T40 l0 x7_2).f0).length : Int) then (if (((rd_T40 l0 x7_2).f0).length : Int) < (t166.length : Int) then (if (rd t166 (((rd_T40 l0 x7_2).f0).length : Int)) > 0 then (if x5_2.length < 17592186044416 then (spec_FormulasFirst.l0 k2 l0 l1 (x5_2 ++ [x7_2]) t166 (wrap64 (x7_2 + 1))) else (none)) else (spec_FormulasFirst.l0 k2 l0 l1 x5_2 t166 (wrap64 (x7_2 + 1)))) else (none)) else (none)) = some r := by rw [if_pos rfl] at H; exact H
                  clear H
                  have H := H1
                  clear H1
                  by_cases c17 : 0 ≤ (((rd_T40 l0 x7_2).f0).length : Int)
                  · rw [if_pos c17] at H
                    have c17b0 : decide (0 ≤ (((rd_T40 l0 x7_2).f0).length : Int)) = true := decide_eq_true c17
                    have c17b1 : decide (0 ≤ ((rd_T40 l0 x7_2).f0).length) = true := decide_eq_true (by omega)
                    clear c17
                    by_cases c18 : (((rd_T40 l0 x7_2).f0).length : Int) < (t166.length : Int)
                    · rw [if_pos c18] at H
                      have c18b0 : decide ((((rd_T40 l0 x7_2).f0).length : Int) < (t166.length : Int)) = true := decide_eq_true c18
                      have c18b1 : decide (((rd_T40 l0 x7_2).f0).length < t166.length) = true := decide_eq_true (Int.ofNat_lt.mp c18)
                      clear c18
                      by_cases c19 : (rd t166 (((rd_T40 l0 x7_2).f0).length : Int)) > 0
                      · rw [if_pos c19] at H
                        have c19b0 : decide (0 < (rd t166 (((rd_T40 l0 x7_2).f0).length : Int))) = true := decide_eq_true c19
                        clear c19
                        by_cases c20 : x5_2.length < 17592186044416
                        · rw [if_pos c20] at H
                          have LMc20 := Aside0.mk c20
                          clear c20
                          obtain ⟨y173, hy173⟩ : ∃ y_ : List Int, y_ = (x5_2 ++ [x7_2]) := ⟨_, rfl⟩
                          replace H : (spec_FormulasFirst.l0 k2 l0 l1 y173 t166 (wrap64 (x7_2 + 1))) = some r := by first | (rw [hy173]; with_reducible exact H) | (have H2_ := (Option.bind_some _ _).symm.trans H; rw [hy173]; with_reducible exact H2_) | (have H2_ := (Option.bind_some _ _).symm.trans H; with_reducible exact H2_) | with_reducible exact H | (rw [hy173]; exact H) | exact H
                          have Ny173 := Aside0.mk hy173
                          clear hy173
                          have H' := Aside0.mk H
                          clear H
                          have p169 : 0 ≤ (x7_2 : Int) := of_decide_eq_true (by first | (with_reducible assumption) | assumption)
                          have q169 : x7_2 < (l0.length : Int) := of_decide_eq_true (by first | (with_reducible assumption) | assumption)
                          obtain ⟨ad169, A169_0, c169_0, e169, hx169_0, hx169_1, hl169_0, hi169_0⟩ := at_T40 HR0.out x7_2 p169 q169
                          cases e169
                          replace hx169_0 := (HB.out.cell (World.block_lt_of_cell? w _ hx169_0)).trans hx169_0
                          replace hx169_1 := (HB.out.cell (World.block_lt_of_cell? w _ hx169_1)).trans hx169_1
                          have HR169_0 := Aside0.mk hi169_0
                          have HC169_0 := Aside0.mk hl169_0
                          clear hi169_0 hl169_0
                          replace p169 := eq_true p169
                          replace q169 := eq_true q169
                          go_wp2_with (first | ((with_reducible refine gate_callee (f := 53) rfl ?_); refine goesL_ (some 33) rfl rfl Try.func53 (by kernel_rfl) rfl #[.agg #[.slice A169_0 ((rd_T40 l0 x7_2).f0).length c169_0, .int .i64 ((rd_T40 l0 x7_2).f1)], .slice A1 l1.length c1, .int .i64 0] rfl (by (try simp only [List.map_toArray, List.map_cons, List.map_nil]); first | done | rfl | (simp only [List.length_drop, List.length_take]; rfl)) ?_; (with_reducible refine (spec_l6fAt.calls k2 _ _ ((rd_T40 l0 x7_2).f0) ((rd_T40 l0 x7_2).f1) _ _ l1 0 true _ ?side1 ?side2 ?side3 ?side4 A15.out).mono ?_); (case side1 => repeat (first | exact (Kd.C_below HR169_0.out HB.out) | (with_reducible refine Kd.C_alloc ?_ _) | (with_reducible refine Kd.C_drewN ?_ _) | (with_reducible refine Kd.C_drew ?_))); (case side2 => exact HC169_0.out); (case side3 => repeat (first | exact (Kd.C_below HR1.out HB.out) | (with_reducible refine Kd.C_alloc ?_ _) | (with_reducible refine Kd.C_drewN ?_ _) | (with_reducible refine Kd.C_drew ?_))); (case side4 => exact HC1.out); rintro e w21 ⟨rfl, hb⟩; refine ⟨_, rfl, ?_⟩; have n0_ := Aside0.mk (Kd.R_below (by (with_reducible repeat (first | apply Kd.R_alloc | apply Kd.R_drewN | apply Kd.R_drew)); exact HO_5.out) hb); have n1_ := Aside0.mk (Kd.R_below (by (with_reducible repeat (first | apply Kd.R_alloc | apply Kd.R_drewN | apply Kd.R_drew)); exact HO_6.out) hb); have n2_ := Aside0.mk (below_step (by repeat (first | (with_reducible first | exact HB.out | apply below_alloc | apply pw_below_drewN | apply below_drew1) | exact HB.out)) hb); clear HO_5; clear HO_6; clear HB; have HO_5 := n0_; have HO_6 := n1_; have HB := n2_; clear n0_ n1_ n2_; (try clear hb); (try clear hb2); (try clear hk); (try clear hi); have p171 : 0 ≤ (x7_2 : Int) := of_decide_eq_true (by first | (with_reducible assumption) | assumption); have q171 : x7_2 < (l0.length : Int) := of_decide_eq_true (by first | (with_reducible assumption) | assumption); obtain ⟨ad171, A171_0, c171_0, e171, hx171_0, hx171_1, hl171_0, hi171_0⟩ := at_T40 HR0.out x7_2 p171 q171; obtain rfl : ad169 = ad171 := (by injection e171); replace hx171_0 := (HB.out.cell (World.block_lt_of_cell? w _ hx171_0)).trans hx171_0; replace hx171_1 := (HB.out.cell (World.block_lt_of_cell? w _ hx171_1)).trans hx171_1; have HR171_0 := Aside0.mk hi171_0; have HC171_0 := Aside0.mk hl171_0; clear hi171_0 hl171_0; replace p171 := eq_true p171; replace q171 := eq_true q171; obtain ⟨Ao22, co22, eo22⟩ := Kd.R_slice HO_6.out; subst eo22; have p172 : 0 ≤ ((((rd_T40 l0 x7_2).f0).length : Int) : Int) := of_decide_eq_true (by first | (with_reducible assumption) | assumption); have q172 : (((rd_T40 l0 x7_2).f0).length : Int) < (t166.length : Int) := of_decide_eq_true (by first | (with_reducible assumption) | assumption); obtain ⟨ad172, e172, hx172_0⟩ := Kd.at_int (Kd.R_reads' HO_6.out).2.2 (((rd_T40 l0 x7_2).f0).length : Int) p172 q172; cases e172; (try simp only [Go.IntWalk.toNatUp] at hx172_0); replace p172 := eq_true p172; replace q172 := eq_true q172) | ((with_reducible refine gate_builtin (b := .append) (xs := #[.tmp 46, .tmp 48]) rfl ?_); (try (refine gate_guard (by rfl) ?_; dsimp only)); at_builtin; refine Kd.R_append (Kd.int .i64) (w0 := w) w.heap.size rfl (.tmp 46) (.tmp 48) 29 3 (.int .i64 0) 8 rfl Try.underlying29 info3 rfl (by decide) (by omega) u5 x5_2 x7_2 [.int .i64 x7_2] (fun k_ => some k_ ≠ (.slice (some ad172) t166.length co22 : Value).ownBlock) (fun _ => False) rfl rfl ?aP (fun _ hk => hk.elim) ?aF ?aO ?aB ?aS ?aL ?_; (case aP => exact rfl); (case aB => exact (by repeat (first | (with_reducible first | exact HB.out | apply below_alloc | apply pw_below_drewN | apply below_drew1) | exact HB.out))); (case aF => exact (fun k_ hk => Kd.fresh' (Kd.R_lt (by (with_reducible repeat (first | apply Kd.R_alloc | apply Kd.R_drewN | apply Kd.R_drew)); exact HO_6.out)) k_ hk)); (case aO => exact (by (with_reducible repeat (first | apply Kd.R_alloc | apply Kd.R_drewN | apply Kd.R_drew)); exact HO_5.out)); (case aS => exact (below_size (by repeat (first | (with_reducible first | exact HB.out | apply below_alloc | apply pw_below_drewN | apply below_drew1) | exact HB.out)))); (case aL => have := LMc20.out; omega); intro v174 w23 ho hb hg hat; rw [← Ny173.out] at ho; have n0_ := Aside0.mk (Kd.R_after (ok := (fun _ => True)) (by (with_reducible repeat (first | apply Kd.R_alloc | apply Kd.R_drewN | apply Kd.R_drew)); exact Kd.R_mono HO_6.out (fun _ hk => ⟨trivial, hk⟩)) hg hat); have n1_ := Aside0.mk (hb); have n2_ := Aside0.mk (ho); clear HO_6; clear HB; clear HO_5; have HO_6 := n0_; have HB := n1_; have HO175 := n2_; clear n0_ n1_ n2_; clear ho hb hg hat))
                          go_roundg k2
                          case measure => have := HJ2.out; have := HK2.out; omega
                          case rel => exact ⟨(y173), (wrap64 (x7_2 + 1)), (by first | rfl | (simp; done) | (simp [*]; done)), H', ⟨by have := HJ2.out; have := HK2.out; omega⟩, ⟨by (with_reducible repeat (first | apply Kd.R_alloc | apply Kd.R_drewN | apply Kd.R_drew)); exact HO175.out⟩, ⟨by (with_reducible repeat (first | apply Kd.R_alloc | apply Kd.R_drewN | apply Kd.R_drew)); exact Kd.R_mono HO_6.out (fun _ hk => hk.2)⟩, ⟨by repeat (first | (with_reducible first | exact HB.out | apply below_alloc | apply pw_below_drewN | apply below_drew1) | exact HB.out)⟩⟩
                        · rw [if_neg c20] at H
                          exact absurd H (by simp)
                      · rw [if_neg c19] at H
                        have c19b0 : decide (0 < (rd t166 (((rd_T40 l0 x7_2).f0).length : Int))) = false := decide_eq_false c19
                        clear c19
                        have H' := Aside0.mk H
                        clear H
                        have p169 : 0 ≤ (x7_2 : Int) := of_decide_eq_true (by first | (with_reducible assumption) | assumption)
                        have q169 : x7_2 < (l0.length : Int) := of_decide_eq_true (by first | (with_reducible assumption) | assumption)
                        obtain ⟨ad169, A169_0, c169_0, e169, hx169_0, hx169_1, hl169_0, hi169_0⟩ := at_T40 HR0.out x7_2 p169 q169
                        cases e169
                        replace hx169_0 := (HB.out.cell (World.block_lt_of_cell? w _ hx169_0)).trans hx169_0
                        replace hx169_1 := (HB.out.cell (World.block_lt_of_cell? w _ hx169_1)).trans hx169_1
                        have HR169_0 := Aside0.mk hi169_0
                        have HC169_0 := Aside0.mk hl169_0
                        clear hi169_0 hl169_0
                        replace p169 := eq_true p169
                        replace q169 := eq_true q169
                        go_wp2_with (first | ((with_reducible refine gate_callee (f := 53) rfl ?_); refine goesL_ (some 33) rfl rfl Try.func53 (by kernel_rfl) rfl #[.agg #[.slice A169_0 ((rd_T40 l0 x7_2).f0).length c169_0, .int .i64 ((rd_T40 l0 x7_2).f1)], .slice A1 l1.length c1, .int .i64 0] rfl (by (try simp only [List.map_toArray, List.map_cons, List.map_nil]); first | done | rfl | (simp only [List.length_drop, List.length_take]; rfl)) ?_; (with_reducible refine (spec_l6fAt.calls k2 _ _ ((rd_T40 l0 x7_2).f0) ((rd_T40 l0 x7_2).f1) _ _ l1 0 true _ ?side1 ?side2 ?side3 ?side4 A15.out).mono ?_); (case side1 => repeat (first | exact (Kd.C_below HR169_0.out HB.out) | (with_reducible refine Kd.C_alloc ?_ _) | (with_reducible refine Kd.C_drewN ?_ _) | (with_reducible refine Kd.C_drew ?_))); (case side2 => exact HC169_0.out); (case side3 => repeat (first | exact (Kd.C_below HR1.out HB.out) | (with_reducible refine Kd.C_alloc ?_ _) | (with_reducible refine Kd.C_drewN ?_ _) | (with_reducible refine Kd.C_drew ?_))); (case side4 => exact HC1.out); rintro e w24 ⟨rfl, hb⟩; refine ⟨_, rfl, ?_⟩; have n0_ := Aside0.mk (Kd.R_below (by (with_reducible repeat (first | apply Kd.R_alloc | apply Kd.R_drewN | apply Kd.R_drew)); exact HO_5.out) hb); have n1_ := Aside0.mk (Kd.R_below (by (with_reducible repeat (first | apply Kd.R_alloc | apply Kd.R_drewN | apply Kd.R_drew)); exact HO_6.out) hb); have n2_ := Aside0.mk (below_step (by repeat (first | (with_reducible first | exact HB.out | apply below_alloc | apply pw_below_drewN | apply below_drew1) | exact HB.out)) hb); clear HO_5; clear HO_6; clear HB; have HO_5 := n0_; have HO_6 := n1_; have HB := n2_; clear n0_ n1_ n2_; (try clear hb); (try clear hb2); (try clear hk); (try clear hi); have p171 : 0 ≤ (x7_2 : Int) := of_decide_eq_true (by first | (with_reducible assumption) | assumption); have q171 : x7_2 < (l0.length : Int) := of_decide_eq_true (by first | (with_reducible assumption) | assumption); obtain ⟨ad171, A171_0, c171_0, e171, hx171_0, hx171_1, hl171_0, hi171_0⟩ := at_T40 HR0.out x7_2 p171 q171; obtain rfl : ad169 = ad171 := (by injection e171); replace hx171_0 := (HB.out.cell (World.block_lt_of_cell? w _ hx171_0)).trans hx171_0; replace hx171_1 := (HB.out.cell (World.block_lt_of_cell? w _ hx171_1)).trans hx171_1; have HR171_0 := Aside0.mk hi171_0; have HC171_0 := Aside0.mk hl171_0; clear hi171_0 hl171_0; replace p171 := eq_true p171; replace q171 := eq_true q171; obtain ⟨Ao25, co25, eo25⟩ := Kd.R_slice HO_6.out; subst eo25; have p172 : 0 ≤ ((((rd_T40 l0 x7_2).f0).length : Int) : Int) := of_decide_eq_true (by first | (with_reducible assumption) | assumption); have q172 : (((rd_T40 l0 x7_2).f0).length : Int) < (t166.length : Int) := of_decide_eq_true (by first | (with_reducible assumption) | assumption); obtain ⟨ad172, e172, hx172_0⟩ := Kd.at_int (Kd.R_reads' HO_6.out).2.2 (((rd_T40 l0 x7_2).f0).length : Int) p172 q172; cases e172; (try simp only [Go.IntWalk.toNatUp] at hx172_0); replace p172 := eq_true p172; replace q172 := eq_true q172))
                        go_roundg k2
                        case measure => have := HJ2.out; have := HK2.out; omega
                        case rel => exact ⟨(x5_2), (wrap64 (x7_2 + 1)), (by first | rfl | (simp; done) | (simp [*]; done)), H', ⟨by have := HJ2.out; have := HK2.out; omega⟩, ⟨by (with_reducible repeat (first | apply Kd.R_alloc | apply Kd.R_drewN | apply Kd.R_drew)); exact HO_5.out⟩, ⟨by (with_reducible repeat (first | apply Kd.R_alloc | apply Kd.R_drewN | apply Kd.R_drew)); exact HO_6.out⟩, ⟨by repeat (first | (with_reducible first | exact HB.out | apply below_alloc | apply pw_below_drewN | apply below_drew1) | exact HB.out)⟩⟩
                    · rw [if_neg c18] at H
                      exact absurd H (by simp)
                  · rw [if_neg c17] at H
                    exact absurd H (by simp)
                · replace c16 := Bool.eq_false_iff.mpr c16
                  subst c16
                  have H1 : (spec_FormulasFirst.l0 k2 l0 l1 x5_2 t166 (wrap64 (x7_2 + 1))) = some r := by rw [if_neg (show ¬ (false = true) by decide)] at H; exact H
                  clear H
                  have H := H1
                  clear H1
                  have H' := Aside0.mk H
                  clear H
                  have p169 : 0 ≤ (x7_2 : Int) := of_decide_eq_true (by first | (with_reducible assumption) | assumption)
                  have q169 : x7_2 < (l0.length : Int) := of_decide_eq_true (by first | (with_reducible assumption) | assumption)
                  obtain ⟨ad169, A169_0, c169_0, e169, hx169_0, hx169_1, hl169_0, hi169_0⟩ := at_T40 HR0.out x7_2 p169 q169
                  cases e169
                  replace hx169_0 := (HB.out.cell (World.block_lt_of_cell? w _ hx169_0)).trans hx169_0
                  replace hx169_1 := (HB.out.cell (World.block_lt_of_cell? w _ hx169_1)).trans hx169_1
                  have HR169_0 := Aside0.mk hi169_0
                  have HC169_0 := Aside0.mk hl169_0
                  clear hi169_0 hl169_0
                  replace p169 := eq_true p169
                  replace q169 := eq_true q169
                  go_wp2_with (first | ((with_reducible refine gate_callee (f := 53) rfl ?_); refine goesL_ (some 33) rfl rfl Try.func53 (by kernel_rfl) rfl #[.agg #[.slice A169_0 ((rd_T40 l0 x7_2).f0).length c169_0, .int .i64 ((rd_T40 l0 x7_2).f1)], .slice A1 l1.length c1, .int .i64 0] rfl (by (try simp only [List.map_toArray, List.map_cons, List.map_nil]); first | done | rfl | (simp only [List.length_drop, List.length_take]; rfl)) ?_; (with_reducible refine (spec_l6fAt.calls k2 _ _ ((rd_T40 l0 x7_2).f0) ((rd_T40 l0 x7_2).f1) _ _ l1 0 false _ ?side1 ?side2 ?side3 ?side4 A15.out).mono ?_); (case side1 => repeat (first | exact (Kd.C_below HR169_0.out HB.out) | (with_reducible refine Kd.C_alloc ?_ _) | (with_reducible refine Kd.C_drewN ?_ _) | (with_reducible refine Kd.C_drew ?_))); (case side2 => exact HC169_0.out); (case side3 => repeat (first | exact (Kd.C_below HR1.out HB.out) | (with_reducible refine Kd.C_alloc ?_ _) | (with_reducible refine Kd.C_drewN ?_ _) | (with_reducible refine Kd.C_drew ?_))); (case side4 => exact HC1.out); rintro e w26 ⟨rfl, hb⟩; refine ⟨_, rfl, ?_⟩; have n0_ := Aside0.mk (Kd.R_below (by (with_reducible repeat (first | apply Kd.R_alloc | apply Kd.R_drewN | apply Kd.R_drew)); exact HO_5.out) hb); have n1_ := Aside0.mk (Kd.R_below (by (with_reducible repeat (first | apply Kd.R_alloc | apply Kd.R_drewN | apply Kd.R_drew)); exact HO_6.out) hb); have n2_ := Aside0.mk (below_step (by repeat (first | (with_reducible first | exact HB.out | apply below_alloc | apply pw_below_drewN | apply below_drew1) | exact HB.out)) hb); clear HO_5; clear HO_6; clear HB; have HO_5 := n0_; have HO_6 := n1_; have HB := n2_; clear n0_ n1_ n2_; (try clear hb); (try clear hb2); (try clear hk); (try clear hi)))
                  go_roundg k2
                  case measure => have := HJ2.out; have := HK2.out; omega
                  case rel => exact ⟨(x5_2), (wrap64 (x7_2 + 1)), (by first | rfl | (simp; done) | (simp [*]; done)), H', ⟨by have := HJ2.out; have := HK2.out; omega⟩, ⟨by (with_reducible repeat (first | apply Kd.R_alloc | apply Kd.R_drewN | apply Kd.R_drew)); exact HO_5.out⟩, ⟨by (with_reducible repeat (first | apply Kd.R_alloc | apply Kd.R_drewN | apply Kd.R_drew)); exact HO_6.out⟩, ⟨by repeat (first | (with_reducible first | exact HB.out | apply below_alloc | apply pw_below_drewN | apply below_drew1) | exact HB.out)⟩⟩
              · rw [if_neg c14] at H
                exact absurd H (by simp)
            · rw [if_neg c13] at H
              have c13b0 : decide (x7_2 < (l0.length : Int)) = false := decide_eq_false c13
              clear c13
              obtain rfl := Option.some.inj H
              go_wp2
              go_ret
              exact ⟨_, by first | rfl | (simp [errW_none, errW_some] <;> rfl) | (simp [*, errW_none, errW_some] <;> rfl), by (with_reducible repeat (first | apply Kd.R_alloc | apply Kd.R_drewN | apply Kd.R_drew)); exact Kd.R_mono HO_5.out (fun _ hk => trivial), by repeat (first | (with_reducible first | exact HB.out | apply below_alloc | apply pw_below_drewN | apply below_drew1) | exact HB.out)⟩

theorem spec_l2Same_ev (a b : List Int) (hl : a.length ≤ 1000000000000) : Ev (fun k => spec_l2Same.f k a b) (a == b) := by
  unfold spec_l2Same.f
  by_cases hlen : (a.length : Int) = (b.length : Int)
  · refine Ev.pos hlen ?_
    have := Ev.over (0 : Int) a (fun k (_ : Unit) i => spec_l2Same.l0 k a b i) (fun _ rest => rest == b.drop (a.length - rest.length)) (fun _ _ => True) (by
      intro s _
      refine Ev.succ ?_
      simp only [spec_l2Same.l0]
      refine Ev.eqr (Ev.neg (by omega) (Ev.now _)) ?_
      have : b.drop a.length = [] := List.drop_eq_nil_of_le (by omega)
      simp [this]) (by
      intro s i rest _ hi hdr ih
      have hrl : rest.length + 1 + i = a.length := by
        have := congrArg List.length hdr
        simp at this; omega
      refine Ev.succ ?_
      simp only [spec_l2Same.l0]
      rw [w64 (by omega) (by omega)]
      refine Ev.pos (by omega) (Ev.pos (by omega) (Ev.pos (by omega) ?_))
      have hra : rd a (i : Int) = a.getD i 0 := rfl
      have hrb : rd b (i : Int) = b.getD i 0 := rfl
      rw [hra, hrb]
      have e2 : a.length - (a.getD i 0 :: rest).length = i := by simp; omega
      have e1 : a.length - rest.length = i + 1 := by omega
      have e3 : b.drop i = b.getD i 0 :: b.drop (i + 1) := by
        rw [List.drop_eq_getElem_cons (by omega), List.getD_eq_getElem?_getD, List.getElem?_eq_getElem (by omega)]; rfl
      rw [e2, e3]
      have ih := ih () trivial
      rw [e1] at ih
      by_cases h : a.getD i 0 = b.getD i 0
      · refine Ev.pos h (Ev.eqr ih ?_)
        rw [h, Bool.eq_iff_iff]; simp
      · refine Ev.neg h (Ev.eqr (Ev.now _) ?_)
        symm; rw [beq_eq_false_iff_ne]; intro hc; exact h (List.cons.inj hc).1) 0 () (Nat.zero_le _) trivial
    simpa using this
  · refine Ev.neg hlen (Ev.eqr (Ev.now _) ?_)
    symm; rw [beq_eq_false_iff_ne]; rintro rfl; exact hlen rfl
theorem spec_l6fOne_ev (x : S40) (hl : x.f0.length ≤ 1000000000000) : Ev (fun k => spec_l6fOne.f k x.f0 x.f1) (fOk x) := by
  unfold spec_l6fOne.f
  have := Ev.over (0 : Int) x.f0 (fun k (_ : Unit) i => spec_l6fOne.l0 k i x.f0 x.f1) (fun _ rest => rest.all (inR (-7) 7) && (decide (1 ≤ (x.f0.length : Int) ∧ (x.f0.length : Int) ≤ 5) && decide (1 ≤ x.f1 ∧ x.f1 ≤ 9))) (fun _ _ => True) (by
    intro s _
    refine Ev.succ ?_
    simp only [spec_l6fOne.l0, List.all_nil, Bool.true_and]
    refine Ev.neg (by omega) (Ev.conb (spec_l6In_eq _ _ _) ?_)
    by_cases h : 1 ≤ (x.f0.length : Int) ∧ (x.f0.length : Int) ≤ 5
    · rw [decide_eq_true h]
      exact Ev.pos rfl (Ev.conb (spec_l6In_eq _ _ _) (Ev.now _))
    · rw [decide_eq_false h]
      exact Ev.neg (by simp) (Ev.now _)) (by
    intro s i rest _ hi _ ih
    refine Ev.succ ?_
    simp only [spec_l6fOne.l0, List.all_cons]
    rw [w64 (by omega) (by omega)]
    refine Ev.pos (by omega) (Ev.pos (by omega) (Ev.conb (spec_l6In_eq _ _ _) ?_))
    have hrd : rd x.f0 (i : Int) = x.f0.getD i 0 := rfl
    rw [hrd]
    show Ev _ ((decide (-7 ≤ x.f0.getD i 0 ∧ x.f0.getD i 0 ≤ 7) && _) && _)
    by_cases h : -7 ≤ x.f0.getD i 0 ∧ x.f0.getD i 0 ≤ 7
    · rw [decide_eq_true h]
      exact Ev.pos rfl (ih () trivial)
    · rw [decide_eq_false h]
      exact Ev.neg (by simp) (Ev.now _)) 0 () (Nat.zero_le _) trivial
  refine Ev.eqr (by simpa using this) ?_
  unfold fOk
  cases x.f0.all (inR (-7) 7) <;> simp
theorem spec_FormulasValid_ev (l : List S40) (hll : l.length ≤ 1000000000000) (hl : ∀ x ∈ l, x.f0.length ≤ 1000000000000) : Ev (fun k => spec_FormulasValid.f k l) (fsOk l) := by
  unfold spec_FormulasValid.f
  have := Ev.over z40 l (fun k (_ : Unit) i => spec_FormulasValid.l0 k l i) (fun _ rest => goF (l.take (l.length - rest.length)) rest && decide ((l.length : Int) ≤ 8)) (fun _ _ => True) (by
    intro s _
    refine Ev.succ ?_
    simp only [spec_FormulasValid.l0, goF, Bool.true_and]
    exact Ev.neg (by omega) (Ev.now _)) (by
    intro s i rest _ hi hdr ih
    have hrl : rest.length + 1 + i = l.length := by
      have := congrArg List.length hdr
      simp at this; omega
    have hm : l.getD i z40 ∈ l := by
      rw [List.getD_eq_getElem?_getD, List.getElem?_eq_getElem hi]; exact List.getElem_mem hi
    have hx := hl _ hm
    refine Ev.succ ?_
    simp only [spec_FormulasValid.l0]
    refine Ev.pos (by omega) (Ev.pos (by omega) ?_)
    have hrd : rd_T40 l (i : Int) = l.getD i z40 := rfl
    have e2 : l.length - (l.getD i z40 :: rest).length = i := by simp; omega
    have e1 : l.length - rest.length = i + 1 := by omega
    have ih := ih () trivial
    rw [e1, take_rd l i hi] at ih
    rw [e2]
    rw [← hrd] at hx ih ⊢
    simp only [goF]
    refine Ev.bind (spec_l6fOne_ev _ hx) ?_
    cases hf : fOk (rd_T40 l (i : Int))
    · exact Ev.neg (by simp) (Ev.now _)
    refine Ev.pos rfl ?_
    simp only [Bool.true_and]
    have htl : (l.take i).length = i := by simp; omega
    have inner := Ev.over z40 (l.take i) (fun k (_ : Unit) j => spec_FormulasValid.l1 k l i j) (fun _ rest' => (!(rest'.any (fun y => y.f0 == (rd_T40 l (i : Int)).f0)) && goF (l.take i ++ [rd_T40 l (i : Int)]) rest) && decide ((l.length : Int) ≤ 8)) (fun _ _ => True) (by
      intro s _
      refine Ev.succ ?_
      simp only [spec_FormulasValid.l1]
      refine Ev.neg (by omega) ?_
      rw [w64 (by omega) (by omega)]
      simpa using ih) (by
      intro s j rest' _ hj _ ih'
      have hjm : (l.take i).getD j z40 ∈ l := by
        rw [List.getD_eq_getElem?_getD, List.getElem?_eq_getElem hj]; exact List.mem_of_mem_take (List.getElem_mem hj)
      have hxj := hl _ hjm
      refine Ev.succ ?_
      simp only [spec_FormulasValid.l1]
      refine Ev.pos (by omega) (Ev.pos (by omega) (Ev.pos (by omega) (Ev.pos (by omega) (Ev.pos (by omega) ?_))))
      have hrd' : rd_T40 l (j : Int) = (l.take i).getD j z40 := by
        rw [List.getD_eq_getElem?_getD, List.getElem?_take, if_pos (by omega)]
        simp [rd_T40]
      rw [hrd']
      generalize (l.take i).getD j z40 = y at hxj
      refine Ev.bind (spec_l2Same_ev _ _ hx) ?_
      simp only [List.any_cons]
      have hcm : (y.f0 == (rd_T40 l (i : Int)).f0) = ((rd_T40 l (i : Int)).f0 == y.f0) := by rw [Bool.eq_iff_iff, beq_iff_eq, beq_iff_eq]; exact eq_comm
      rw [hcm]
      cases (rd_T40 l (i : Int)).f0 == y.f0
      · refine Ev.neg (by simp) ?_
        rw [w64 (by omega) (by omega)]
        simpa using ih' () trivial
      · exact Ev.pos rfl (Ev.now _)) 0 () (Nat.zero_le _) trivial
    simpa using inner) 0 () (Nat.zero_le _) trivial
  refine Ev.eqr (by simpa using this) ?_
  unfold fsOk
  rw [Bool.and_comm]

/-! the reference's counting of readings -/
theorem spec_l6fAt_ev (f : S40) (S : List Int) (i : Nat) (hi : i ≤ S.length) (hS : S.length ≤ 1000000) (hf : f.f0.length ≤ 1000000) : Ev (fun k => spec_l6fAt.f k f.f0 f.f1 S (i : Int)) (isPre f.f0 (S.drop i)) := by
  unfold spec_l6fAt.f isPre
  rw [w64 (by omega) (by omega)]
  by_cases h : (i : Int) + (f.f0.length : Int) ≤ (S.length : Int)
  · rw [decide_eq_true (by rw [List.length_drop]; omega : f.f0.length ≤ (S.drop i).length), Bool.true_and]
    refine Ev.pos h (Ev.pos (by omega) (Ev.pos (by omega) ?_))
    have e : ((S.take ((i : Int) + (f.f0.length : Int)).toNat).drop (i : Int).toNat) = (S.drop i).take f.f0.length := by
      have e1 : ((i : Int) + (f.f0.length : Int)).toNat = i + f.f0.length := by omega
      rw [e1, Int.toNat_natCast, List.drop_take]
      congr 1; omega
    rw [e]
    exact Ev.bind (spec_l2Same_ev _ _ (by rw [List.length_take, List.length_drop]; omega)) (Ev.now _)
  · rw [decide_eq_false (by rw [List.length_drop]; omega : ¬ f.f0.length ≤ (S.drop i).length)]
    exact Ev.neg h (Ev.now _)
theorem spec_l6fSteps_ev (S : List Int) (hS : S.length ≤ 1000000000000) : Ev (fun k => spec_l6fSteps.f k S) (decide (S.length ≤ 23) && S.all (inR (-20) 20)) := by
  unfold spec_l6fSteps.f
  have := Ev.over (0 : Int) S (fun k (_ : Unit) i => spec_l6fSteps.l0 k S i) (fun _ rest => rest.all (inR (-20) 20) && decide (S.length ≤ 23)) (fun _ _ => True) (by
    intro s _
    refine Ev.succ ?_
    simp only [spec_l6fSteps.l0]
    refine Ev.neg (by omega) (Ev.eqr (Ev.now _) ?_)
    simp only [List.all_nil, Bool.true_and]
    rw [Bool.eq_iff_iff]; simp; omega) (by
    intro s i rest _ hi _ ih
    refine Ev.succ ?_
    simp only [spec_l6fSteps.l0, List.all_cons]
    rw [w64 (by omega) (by omega)]
    refine Ev.pos (by omega) (Ev.pos (by omega) (Ev.conb (spec_l6In_eq _ _ _) ?_))
    have hrd : rd S (i : Int) = S.getD i 0 := rfl
    rw [hrd]
    show Ev _ ((decide (-20 ≤ S.getD i 0 ∧ S.getD i 0 ≤ 20) && _) && _)
    by_cases h : -20 ≤ S.getD i 0 ∧ S.getD i 0 ≤ 20
    · rw [decide_eq_true h]
      exact Ev.pos rfl (ih () trivial)
    · rw [decide_eq_false h]
      exact Ev.neg (by simp) (Ev.now _)) 0 () (Nat.zero_le _) trivial
  refine Ev.eqr (by simpa using this) ?_
  rw [Bool.and_comm]
theorem spec_l6fOk_ev (L : List S40) (S : List Int) (hll : L.length ≤ 1000000000000) (hl : ∀ x ∈ L, x.f0.length ≤ 1000000000000) (hS : S.length ≤ 1000000000000) : Ev (fun k => spec_l6fOk.f k L S) (okR L S) := by
  unfold spec_l6fOk.f okR
  refine Ev.bind (spec_FormulasValid_ev L hll hl) ?_
  cases fsOk L
  · exact Ev.neg (by simp) (Ev.now _)
  · refine Ev.pos rfl ?_
    rw [Bool.true_and]
    exact Ev.bind (spec_l6fSteps_ev S hS) (Ev.now _)

theorem getD_set_self {y : List Int} {i : Nat} (v : Int) (h : i < y.length) : (y.set i v).getD i 0 = v := by
  rw [List.getD_eq_getElem?_getD, List.getElem?_set_self h]; rfl
theorem getD_set_other {y : List Int} {i j : Nat} (v : Int) (h : i ≠ j) : (y.set i v).getD j 0 = y.getD j 0 := by
  rw [List.getD_eq_getElem?_getD, List.getElem?_set_ne h, ← List.getD_eq_getElem?_getD]
theorem ext_getD {a b : List Int} (h : a.length = b.length) (h' : ∀ j, j < a.length → a.getD j 0 = b.getD j 0) : a = b := by
  apply List.ext_getElem h
  intro j h1 h2
  have := h' j h1
  rw [List.getD_eq_getElem?_getD, List.getD_eq_getElem?_getD, List.getElem?_eq_getElem h1, List.getElem?_eq_getElem h2] at this
  exact this

def mA (g : List Int → Int) (s : List Int) : List S40 → Int → Int
  | [], a => a
  | f :: fs, a => if isPre f.f0 s = true then mA g s fs (wrap64 (a + g (s.drop f.f0.length))) else mA g s fs a
theorem wrap_range (x : Int) : -9223372036854775808 ≤ wrap64 x ∧ wrap64 x ≤ 9223372036854775807 := by unfold wrap64; omega
theorem outW_f0 (o : OutC) (f : S40) (r : OutC) : (outW o f r).f0 = wrap64 (o.f0 + r.f0) := by unfold outW; split <;> rfl
theorem rdA_many (rec : List Int → OutC) (s : List Int) : ∀ (L : List S40) (acc : OutC), -9223372036854775808 ≤ acc.f0 → acc.f0 ≤ 9223372036854775807 → (rdA rec s L acc).f0 = mA (fun t => (rec t).f0) s L acc.f0
  | [], acc, _, _ => rfl
  | f :: fs, acc, h, h' => by
    simp only [rdA, mA]
    by_cases hp : isPre f.f0 s = true
    · rw [if_pos hp, if_pos hp]
      by_cases hz : (rec (s.drop f.f0.length)).f0 = 0
      · rw [if_pos hz, rdA_many rec s fs acc h h', hz, Int.add_zero, w64 h h']
      · rw [if_neg hz]
        have := wrap_range (acc.f0 + (rec (s.drop f.f0.length)).f0)
        rw [rdA_many rec s fs _ (by rw [outW_f0]; exact this.1) (by rw [outW_f0]; exact this.2), outW_f0]
    · rw [if_neg hp, if_neg hp, rdA_many rec s fs acc h h']
theorem spec_l6fWays_inner {L : List S40} {S : List Int} (hL : ∀ f ∈ L, 1 ≤ f.f0.length ∧ f.f0.length ≤ 5) (hll : L.length ≤ 8) (hS : S.length ≤ 23) (i : Nat) (hi : i < S.length) (R : List Int)
    (W : Nat → Int) (hW : ∀ j, W j = (rdO L (S.drop j)).f0)
    (hnext : ∀ y : List Int, y.length = S.length + 1 → (∀ j, i ≤ j → j ≤ S.length → y.getD j 0 = W j) → (∀ j, j < i → y.getD j 0 = 0) → Ev (fun k => spec_l6fWays.l0 k L S y ((i : Int) - 1)) R)
    (y : List Int) (hy : y.length = S.length + 1) (hy1 : ∀ j, i < j → j ≤ S.length → y.getD j 0 = W j) (hy2 : ∀ j, j ≤ i → y.getD j 0 = 0) :
    Ev (fun k => spec_l6fWays.l1 k L S y (i : Int) 0) R := by
  have hWi : W i = mA (fun t => (rdO L t).f0) (S.drop i) L 0 := by
    rw [hW, rdO_step (fun f hf => (hL f hf).1) (by intro h; have := congrArg List.length h; rw [List.length_drop, List.length_nil] at this; omega)]
    exact rdA_many _ _ L _ (by simp) (by simp)
  have := Ev.over z40 L (fun k (y : List Int) q => spec_l6fWays.l1 k L S y (i : Int) q) (fun _ _ => R) (fun q y => y.length = S.length + 1 ∧ (∀ j, i < j → j ≤ S.length → y.getD j 0 = W j) ∧ (∀ j, j < i → y.getD j 0 = 0) ∧ mA (fun t => (rdO L t).f0) (S.drop i) (L.drop q) (y.getD i 0) = W i) (by
    intro y ⟨h1, h2, h3, h4⟩
    rw [List.drop_length] at h4
    simp only [mA] at h4
    refine Ev.succ ?_
    simp only [spec_l6fWays.l1]
    refine Ev.neg (by omega) ?_
    rw [w64 (by omega) (by omega)]
    exact hnext y h1 (fun j hj hj' => by rcases Nat.lt_or_eq_of_le hj with h | h; exact h2 j h hj'; rw [← h]; exact h4) h3) (by
    intro y q rest ⟨h1, h2, h3, h4⟩ hq hdr ih
    have hm : L.getD q z40 ∈ L := by
      rw [List.getD_eq_getElem?_getD, List.getElem?_eq_getElem hq]; exact List.getElem_mem hq
    have hf := hL _ hm
    have hrest : rest = L.drop (q + 1) := by
      rw [List.drop_eq_getElem_cons hq] at hdr
      exact ((List.cons.inj hdr).2).symm
    rw [hdr] at h4
    simp only [mA] at h4
    refine Ev.succ ?_
    simp only [spec_l6fWays.l1]
    have hrd : rd_T40 L (q : Int) = L.getD q z40 := rfl
    rw [hrd]
    rw [w64 (x := (q : Int) + 1) (by omega) (by omega)]
    generalize L.getD q z40 = f at hf h4
    refine Ev.pos (by omega) (Ev.pos (by omega) (Ev.bind (spec_l6fAt_ev f S i (by omega) (by omega) (by omega)) ?_))
    cases hp : isPre f.f0 (S.drop i)
    · rw [if_neg (by rw [hp]; simp)] at h4
      refine Ev.neg (by simp) (ih y ⟨h1, h2, h3, ?_⟩)
      rw [← hrest]; exact h4
    · rw [if_pos hp] at h4
      have hl := isPre_len hp
      rw [List.length_drop] at hl
      rw [w64 (x := (i : Int) + (f.f0.length : Int)) (by omega) (by omega)]
      refine Ev.pos rfl (Ev.pos (by omega) (Ev.pos (by omega) (Ev.pos (by omega) (Ev.pos (by omega) ?_))))
      have e1 : rd y (i : Int) = y.getD i 0 := rfl
      have e2 : rd y ((i : Int) + (f.f0.length : Int)) = W (i + f.f0.length) := by
        have : ((i : Int) + (f.f0.length : Int)).toNat = i + f.f0.length := by omega
        unfold rd
        rw [this]; exact h2 _ (by omega) (by omega)
      rw [e1, e2, Int.toNat_natCast]
      refine ih _ ⟨by rw [List.length_set]; exact h1, fun j hj hj' => by rw [getD_set_other _ (by omega)]; exact h2 j hj hj', fun j hj => by rw [getD_set_other _ (by omega)]; exact h3 j hj, ?_⟩
      rw [getD_set_self _ (by omega), ← hrest, hW (i + f.f0.length), ← List.drop_drop]
      exact h4) 0 y (Nat.zero_le _) ⟨hy, hy1, fun j hj => hy2 j (by omega), by rw [hy2 i (Nat.le_refl _), List.drop_zero]; exact hWi.symm⟩
  simpa using this
def waysL (L : List S40) (S : List Int) : List Int := (List.range (S.length + 1)).map (fun j => (rdO L (S.drop j)).f0)
theorem waysL_get {L : List S40} {S : List Int} {j : Nat} (h : j ≤ S.length) : (waysL L S).getD j 0 = (rdO L (S.drop j)).f0 := by
  unfold waysL
  rw [List.getD_eq_getElem?_getD, List.getElem?_map, List.getElem?_range (by omega)]; rfl
theorem waysL_len {L : List S40} {S : List Int} : (waysL L S).length = S.length + 1 := by unfold waysL; simp
theorem spec_l6fWays_ev {L : List S40} {S : List Int} (hL : ∀ f ∈ L, 1 ≤ f.f0.length ∧ f.f0.length ≤ 5) (hll : L.length ≤ 8) (hS : S.length ≤ 23) : Ev (fun k => spec_l6fWays.f k L S) (waysL L S) := by
  have key : ∀ m, m ≤ S.length → ∀ y : List Int, y.length = S.length + 1 → (∀ j, m ≤ j → j ≤ S.length → y.getD j 0 = (rdO L (S.drop j)).f0) → (∀ j, j < m → y.getD j 0 = 0) → Ev (fun k => spec_l6fWays.l0 k L S y ((m : Int) - 1)) (waysL L S) := by
    intro m
    induction m with
    | zero =>
      intro _ y h1 h2 _
      refine Ev.succ ?_
      simp only [spec_l6fWays.l0]
      refine Ev.neg (by omega) (Ev.eqr (Ev.now _) ?_)
      refine ext_getD (by rw [h1, waysL_len]) (fun j hj => ?_)
      rw [h2 j (Nat.zero_le _) (by omega), waysL_get (by omega)]
    | succ m ih =>
      intro hm y h1 h2 h3
      refine Ev.succ ?_
      simp only [spec_l6fWays.l0]
      have e : ((m + 1 : Nat) : Int) - 1 = (m : Int) := by omega
      rw [e]
      refine Ev.pos (by omega) ?_
      exact spec_l6fWays_inner hL hll hS m (by omega) _ (fun j => (rdO L (S.drop j)).f0) (fun _ => rfl) (fun y h1 h2 h3 => ih (by omega) y h1 h2 h3) y h1 (fun j hj hj' => h2 j (by omega) hj') (fun j hj => h3 j (by omega))
  unfold spec_l6fWays.f
  rw [w64 (x := (S.length : Int) + 1) (by omega) (by omega), w64 (x := (S.length : Int) - 1) (by omega) (by omega)]
  have e : ((S.length : Int) + 1).toNat = S.length + 1 := by omega
  rw [e]
  refine Ev.pos (by omega) (Ev.pos (by omega) (Ev.someb (Ev.pos (by omega) (Ev.pos (by rw [List.length_replicate]; omega) ?_))))
  rw [Int.toNat_natCast]
  refine key S.length (Nat.le_refl _) _ (by simp) (fun j hj hj' => ?_) (fun j hj => ?_)
  · obtain rfl : j = S.length := by omega
    rw [getD_set_self _ (by simp), List.drop_length, rdO_nil]
  · rw [getD_set_other _ (by omega), List.getD_eq_getElem?_getD, List.getElem?_replicate, if_pos (by omega)]; rfl

/-! how much a reader finds at most -/
theorem goF_pw : ∀ {l acc : List S40}, goF acc l = true → (∀ a ∈ acc, ∀ b ∈ l, a.f0 ≠ b.f0) ∧ l.Pairwise (fun a b => a.f0 ≠ b.f0)
  | [], acc, _ => ⟨by simp, List.Pairwise.nil⟩
  | x :: xs, acc, h => by
    simp only [goF, Bool.and_eq_true, Bool.not_eq_true', List.any_eq_false, beq_iff_eq] at h
    obtain ⟨_, h1, h2⟩ := h
    obtain ⟨h3, h4⟩ := goF_pw h2
    refine ⟨fun a ha b hb => ?_, List.pairwise_cons.2 ⟨fun b hb => h3 x (by simp) b hb, h4⟩⟩
    rcases List.mem_cons.1 hb with rfl | hb
    · exact h1 a ha
    · exact h3 a (List.mem_append_left _ ha) b hb
def sumB (s : List Int) : List S40 → Nat
  | [] => 0
  | f :: fs => (if isPre f.f0 s = true then 2 ^ (s.length - f.f0.length) else 0) + sumB s fs
theorem sum_pow : ∀ (n : Nat) (ks : List Nat), ks.Nodup → (∀ k ∈ ks, 1 ≤ k ∧ k ≤ n) → (ks.map (fun k => 2 ^ (n - k))).sum + 1 ≤ 2 ^ n
  | 0, ks, _, h => by
    cases ks with
    | nil => simp
    | cons k ks => have := h k (by simp); omega
  | n + 1, ks, hn, h => by
    have key : ∀ l : List Nat, (∀ k ∈ l, k ≤ n) → (l.map (fun k => 2 ^ (n + 1 - k))).sum = 2 * (l.map (fun k => 2 ^ (n - k))).sum := by
      intro l
      induction l with
      | nil => intro _; rfl
      | cons k l ih =>
        intro hl
        have h1 := hl k (by simp)
        have e : n + 1 - k = (n - k) + 1 := by omega
        simp only [List.map_cons, List.sum_cons]
        rw [ih (fun k hk => hl k (by simp [hk])), e, Nat.pow_succ]; omega
    by_cases hm : n + 1 ∈ ks
    · have hp := List.perm_cons_erase hm
      have h1 := sum_pow n (ks.erase (n + 1)) (hn.erase _) (fun k hk => by
        have h2 := h k (List.mem_of_mem_erase hk)
        have : k ≠ n + 1 := fun e => by subst e; exact (List.Nodup.not_mem_erase hn) hk
        omega)
      have h2 := (hp.map (fun k => 2 ^ (n + 1 - k))).sum_nat
      rw [h2, List.map_cons, List.sum_cons, key _ (fun k hk => by
        have h2 := h k (List.mem_of_mem_erase hk)
        have : k ≠ n + 1 := fun e => by subst e; exact (List.Nodup.not_mem_erase hn) hk
        omega), Nat.sub_self, Nat.pow_succ]
      omega
    · rw [key _ (fun k hk => by have := h k hk; have : k ≠ n + 1 := fun e => hm (e ▸ hk); omega)]
      have h1 := sum_pow n ks hn (fun k hk => by have := h k hk; have : k ≠ n + 1 := fun e => hm (e ▸ hk); omega)
      rw [Nat.pow_succ]; omega
theorem isPre_take {p s : List Int} (h : isPre p s = true) : s.take p.length = p := by
  unfold isPre at h; simp at h; exact h.2
theorem sumB_eq (s : List Int) : ∀ L : List S40, sumB s L = (((L.filter (fun f => isPre f.f0 s)).map (fun f => f.f0.length)).map (fun k => 2 ^ (s.length - k))).sum
  | [] => rfl
  | f :: fs => by
    simp only [sumB]
    rw [sumB_eq s fs, List.filter_cons]
    cases isPre f.f0 s <;> simp
theorem sumB_le {s : List Int} {L : List S40} (hL : ∀ f ∈ L, 1 ≤ f.f0.length) (hp : L.Pairwise (fun a b => a.f0 ≠ b.f0)) : sumB s L ≤ 2 ^ s.length := by
  rw [sumB_eq]
  have h1 : ((L.filter (fun f => isPre f.f0 s)).map (fun f => f.f0.length)).Nodup := by
    rw [List.nodup_iff_pairwise_ne, List.pairwise_map]
    have h2 := hp.filter (fun f => isPre f.f0 s)
    refine List.Pairwise.imp_of_mem (fun {a b} ha hb h => ?_) h2
    intro e
    have h3 := isPre_take (List.mem_filter.1 ha).2
    have h4 := isPre_take (List.mem_filter.1 hb).2
    rw [e] at h3
    exact h (h3.symm.trans h4)
  have := sum_pow s.length _ h1 (fun k hk => by
    obtain ⟨f, hf, rfl⟩ := List.mem_map.1 hk
    obtain ⟨hf1, hf2⟩ := List.mem_filter.1 hf
    exact ⟨hL f hf1, isPre_len hf2⟩)
  omega
/-- A least sum, -1 for none. -/
def lA (c : S40 → Int) (g : List Int → Int) (s : List Int) : List S40 → Int → Int
  | [], a => a
  | f :: fs, a => if isPre f.f0 s = true then (if g (s.drop f.f0.length) < 0 then lA c g s fs a else lA c g s fs (if a < 0 ∨ g (s.drop f.f0.length) + c f < a then g (s.drop f.f0.length) + c f else a)) else lA c g s fs a
def oW (o : OutC) : Int := if o.f0 = 0 then -1 else o.f1
def oF (o : OutC) : Int := if o.f0 = 0 then -1 else o.f2
structure OBd (n : Nat) (o : OutC) : Prop where
  lo : 0 ≤ o.f0
  hi : o.f0 ≤ ((2 ^ n : Nat) : Int)
  w0 : o.f0 ≠ 0 → 0 ≤ o.f1
  w1 : o.f0 ≠ 0 → o.f1 ≤ 9 * (n : Int)
  f0 : o.f0 ≠ 0 → 0 ≤ o.f2
  f1 : o.f0 ≠ 0 → o.f2 ≤ (n : Int)
theorem OBd.oW {n : Nat} {o : OutC} (h : OBd n o) : -1 ≤ Pure.oW o ∧ Pure.oW o ≤ 9 * (n : Int) := by
  unfold Pure.oW
  by_cases hz : o.f0 = 0
  · rw [if_pos hz]; omega
  · rw [if_neg hz]; have := h.w0 hz; have := h.w1 hz; omega
theorem OBd.oF {n : Nat} {o : OutC} (h : OBd n o) : -1 ≤ Pure.oF o ∧ Pure.oF o ≤ (n : Int) := by
  unfold Pure.oF
  by_cases hz : o.f0 = 0
  · rw [if_pos hz]; omega
  · rw [if_neg hz]; have := h.f0 hz; have := h.f1 hz; omega
theorem outW_plain {n m : Nat} {o r : OutC} {f : S40} (hn : n ≤ 23) (hm : m + f.f0.length ≤ n) (hf : 1 ≤ f.f0.length) (hw : 1 ≤ f.f1 ∧ f.f1 ≤ 9) (h1 : OBd n o) (h2 : OBd m r) (hr : r.f0 ≠ 0) (hs : o.f0 + r.f0 ≤ ((2 ^ n : Nat) : Int)) :
    OBd n (outW o f r) ∧ (outW o f r).f0 = o.f0 + r.f0 ∧ oW (outW o f r) = (if oW o < 0 ∨ oW r + f.f1 < oW o then oW r + f.f1 else oW o) ∧ oF (outW o f r) = (if oF o < 0 ∨ oF r + 1 < oF o then oF r + 1 else oF o) := by
  have hp : (2 : Nat) ^ n ≤ 2 ^ 23 := Nat.pow_le_pow_right (by omega) hn
  have hp' : (2 : Nat) ^ 23 = 8388608 := rfl
  obtain ⟨a1, a2, a3, a4, a5, a6⟩ := h1
  obtain ⟨b1, b2, b3, b4, b5, b6⟩ := h2
  have b3 := b3 hr; have b4 := b4 hr; have b5 := b5 hr; have b6 := b6 hr
  have hne : o.f0 + r.f0 ≠ 0 := by omega
  unfold outW
  by_cases h : o.f0 > 0
  · have hz : o.f0 ≠ 0 := by omega
    have a3 := a3 hz; have a4 := a4 hz; have a5 := a5 hz; have a6 := a6 hz
    rw [if_pos h, w64 (x := o.f0 + r.f0) (by omega) (by omega), w64 (x := f.f1 + r.f1) (by omega) (by omega), w64 (x := 1 + r.f2) (by omega) (by omega)]
    have m1 := mn_le (f.f1 + r.f1) o.f1
    have m2 := mn_le (1 + r.f2) o.f2
    refine ⟨⟨by simp only []; omega, hs, fun _ => by simp only []; omega, fun _ => by simp only []; omega, fun _ => by simp only []; omega, fun _ => by simp only []; omega⟩, rfl, ?_, ?_⟩
    · unfold oW
      simp only []
      rw [if_neg hne, if_neg hz, if_neg hr]
      by_cases hc : r.f1 + f.f1 < o.f1
      · rw [if_pos (.inr hc)]; omega
      · rw [if_neg (by omega)]; omega
    · unfold oF
      simp only []
      rw [if_neg hne, if_neg hz, if_neg hr]
      by_cases hc : r.f2 + 1 < o.f2
      · rw [if_pos (.inr hc)]; omega
      · rw [if_neg (by omega)]; omega
  · have hz : o.f0 = 0 := by omega
    rw [if_neg h, w64 (x := o.f0 + r.f0) (by omega) (by omega), w64 (x := f.f1 + r.f1) (by omega) (by omega), w64 (x := 1 + r.f2) (by omega) (by omega)]
    refine ⟨⟨by simp only []; omega, hs, fun _ => by simp only []; omega, fun _ => by simp only []; omega, fun _ => by simp only []; omega, fun _ => by simp only []; omega⟩, rfl, ?_, ?_⟩
    · unfold oW
      simp only []
      rw [if_neg hne, if_pos hz, if_neg hr, if_pos (.inl (by omega))]; omega
    · unfold oF
      simp only []
      rw [if_neg hne, if_pos hz, if_neg hr, if_pos (.inl (by omega))]; omega
theorem rdA_plain {rec : List Int → OutC} {s : List Int} (hs : s.length ≤ 23) (hrec : ∀ k, 1 ≤ k → k ≤ s.length → OBd (s.length - k) (rec (s.drop k))) :
    ∀ (L : List S40) (acc : OutC), (∀ f ∈ L, 1 ≤ f.f0.length ∧ 1 ≤ f.f1 ∧ f.f1 ≤ 9) → OBd s.length acc → acc.f0 + (sumB s L : Int) ≤ ((2 ^ s.length : Nat) : Int) →
      OBd s.length (rdA rec s L acc) ∧ oW (rdA rec s L acc) = lA (fun f => f.f1) (fun t => oW (rec t)) s L (oW acc) ∧ oF (rdA rec s L acc) = lA (fun _ => 1) (fun t => oF (rec t)) s L (oF acc)
  | [], acc, _, h, _ => ⟨h, rfl, rfl⟩
  | f :: fs, acc, hL, h, hb => by
    have hf := hL f (by simp)
    have hL' := fun g hg => hL g (List.mem_cons_of_mem _ hg)
    simp only [rdA, lA, sumB] at hb ⊢
    by_cases hp : isPre f.f0 s = true
    · rw [if_pos hp] at hb
      rw [if_pos hp, if_pos hp, if_pos hp]
      have hl := isPre_len hp
      have hr := hrec f.f0.length hf.1 hl
      generalize rec (s.drop f.f0.length) = r at hr ⊢
      rw [Int.natCast_add] at hb
      have hbr := hr.hi
      by_cases hz : r.f0 = 0
      · have e1 : oW r = -1 := if_pos hz
        have e2 : oF r = -1 := if_pos hz
        rw [if_pos hz, if_pos (by rw [e1]; omega), if_pos (by rw [e2]; omega)]
        have := hr.lo
        exact rdA_plain hs hrec fs acc hL' h (by omega)
      · have e1 : ¬ oW r < 0 := by unfold oW; rw [if_neg hz]; have := hr.w0 hz; omega
        have e2 : ¬ oF r < 0 := by unfold oF; rw [if_neg hz]; have := hr.f0 hz; omega
        rw [if_neg hz, if_neg e1, if_neg e2]
        obtain ⟨o1, o2, o3, o4⟩ := outW_plain (n := s.length) (m := s.length - f.f0.length) (o := acc) (r := r) (f := f) hs (by omega) hf.1 hf.2 h hr hz (by omega)
        rw [← o3, ← o4]
        exact rdA_plain hs hrec fs (outW acc f r) hL' o1 (by rw [o2]; omega)
    · rw [if_neg hp] at hb
      rw [if_neg hp, if_neg hp, if_neg hp]
      exact rdA_plain hs hrec fs acc hL' h (by omega)
/-- What valid formulas are good for. -/
structure FsV (L : List S40) : Prop where
  len : L.length ≤ 8
  one : ∀ f ∈ L, 1 ≤ f.f0.length ∧ f.f0.length ≤ 5
  wt : ∀ f ∈ L, 1 ≤ f.f1 ∧ f.f1 ≤ 9
  pw : L.Pairwise (fun a b => a.f0 ≠ b.f0)
theorem FsV.of {L : List S40} (h : fsOk L = true) : FsV L :=
  ⟨fsOk_len h, fun f hf => fOk_len (fsOk_all h f hf), fun f hf => fOk_weight (fsOk_all h f hf), (goF_pw (acc := []) (by unfold fsOk at h; simp at h; exact h.2)).2⟩
theorem rdO_bd {L : List S40} (hv : FsV L) : ∀ (n : Nat) (s : List Int), s.length = n → n ≤ 23 → OBd n (rdO L s) := by
  intro n
  induction n using Nat.strongRecOn with
  | ind n ih =>
    intro s hs hn
    by_cases hne : s = []
    · subst hne
      simp at hs
      subst hs
      rw [rdO_nil]
      exact ⟨by simp, by simp, by simp, by simp, by simp, by simp⟩
    · rw [rdO_step (fun f hf => (hv.one f hf).1) hne]
      subst hs
      refine (rdA_plain hn (fun k hk hk' => ih (s.length - k) (by omega) _ (by rw [List.length_drop]) (by omega)) L ⟨0, 0, 0⟩ (fun f hf => ⟨(hv.one f hf).1, hv.wt f hf⟩) ⟨by simp, Int.natCast_nonneg _, by simp, by simp, by simp, by simp⟩ ?_).1
      have := sumB_le (s := s) (fun f hf => (hv.one f hf).1) hv.pw
      simp only [Int.zero_add]
      exact_mod_cast this
theorem rdO_least {L : List S40} (hv : FsV L) {s : List Int} (hs : s.length ≤ 23) (hne : s ≠ []) :
    oW (rdO L s) = lA (fun f => f.f1) (fun t => oW (rdO L t)) s L (-1) ∧ oF (rdO L s) = lA (fun _ => 1) (fun t => oF (rdO L t)) s L (-1) := by
  have h := rdA_plain (rec := rdO L) (s := s) hs (fun k hk hk' => rdO_bd hv (s.length - k) _ (by rw [List.length_drop]) (by omega)) L ⟨0, 0, 0⟩ (fun f hf => ⟨(hv.one f hf).1, hv.wt f hf⟩) ⟨by simp, Int.natCast_nonneg _, by simp, by simp, by simp, by simp⟩ (by
    have := sumB_le (s := s) (fun f hf => (hv.one f hf).1) hv.pw
    simp only [Int.zero_add]
    exact_mod_cast this)
  rw [rdO_step (fun f hf => (hv.one f hf).1) hne]
  exact ⟨h.2.1, h.2.2⟩

/-! the first formulas, by the reference -/
theorem rdC_step {rec : List Int → OutC} {s : List Int} {L : List S40} {q : Nat} (hq : q < L.length) : rdC rec s (q : Int) (L.drop q) = (if isPre (L.getD q z40).f0 s = true then (if (rec (s.drop (L.getD q z40).f0.length)).f0 = 0 then [] else [((q : Int), rec (s.drop (L.getD q z40).f0.length))]) else []) ++ rdC rec s ((q + 1 : Nat) : Int) (L.drop (q + 1)) := by
  have e : L.drop q = L.getD q z40 :: L.drop (q + 1) := by
    rw [List.drop_eq_getElem_cons hq, List.getD_eq_getElem?_getD, List.getElem?_eq_getElem hq]; rfl
  rw [e]
  simp only [rdC]
  have e2 : ((q : Int) + 1) = ((q + 1 : Nat) : Int) := by omega
  rw [e2]
  split
  · split <;> simp
  · simp
theorem fFirst_len (L : List S40) (S : List Int) : (fFirst L S).length ≤ 8 := by
  unfold fFirst
  split
  · rename_i h
    rw [List.length_map]
    have := rdCalls_len L S
    have := (okR_lens h).2.1
    omega
  · exact Nat.zero_le _
theorem spec_FormulasFirst_ev (L : List S40) (S : List Int) (hll : L.length ≤ 1000000000000) (hl : ∀ x ∈ L, x.f0.length ≤ 1000000000000) (hS : S.length ≤ 1000000000000) : Ev (fun k => spec_FormulasFirst.f k L S) (fFirst L S) := by
  unfold spec_FormulasFirst.f fFirst
  refine Ev.someb (Ev.bind (spec_l6fOk_ev L S hll hl hS) ?_)
  cases hok : okR L S
  · refine Ev.neg (by simp) (Ev.succ ?_)
    simp only [spec_FormulasFirst.j0]
    exact Ev.pos trivial (Ev.eqr (Ev.now _) (by simp))
  · rw [if_pos rfl]
    refine Ev.pos rfl (Ev.succ ?_)
    simp only [spec_FormulasFirst.j0]
    by_cases hs : S = []
    · subst hs
      exact Ev.pos (by simp) (Ev.eqr (Ev.now _) (by simp [rdCalls]))
    · have h0 : S.length ≠ 0 := fun h => hs (List.eq_nil_of_length_eq_zero h)
      obtain ⟨l1, l2, l3⟩ := okR_lens hok
      have hv := FsV.of (okR_of hok).1
      refine Ev.neg (by simp; omega) (Ev.bind (spec_l6fWays_ev l1 l2 l3) ?_)
      have hcl : rdCalls L S = rdC (rdO L) S 0 L := if_neg hs
      rw [hcl]
      have := Ev.over z40 L (fun k (y : List Int) q => spec_FormulasFirst.l0 k L S y (waysL L S) q) (fun _ _ => (rdC (rdO L) S 0 L).map (·.1)) (fun q y => y ++ (rdC (rdO L) S (q : Int) (L.drop q)).map (·.1) = (rdC (rdO L) S 0 L).map (·.1) ∧ y.length ≤ q) (by
        intro y ⟨h1, _⟩
        rw [List.drop_length] at h1
        simp only [rdC, List.map_nil, List.append_nil] at h1
        refine Ev.succ ?_
        simp only [spec_FormulasFirst.l0]
        exact Ev.neg (by omega) (Ev.eqr (Ev.now _) h1)) (by
        intro y q rest ⟨h1, h2⟩ hq hdr ih
        have hm : L.getD q z40 ∈ L := by
          rw [List.getD_eq_getElem?_getD, List.getElem?_eq_getElem hq]; exact List.getElem_mem hq
        have hf := l1 _ hm
        rw [rdC_step hq, List.map_append, ← List.append_assoc] at h1
        refine Ev.succ ?_
        simp only [spec_FormulasFirst.l0]
        have hrd : rd_T40 L (q : Int) = L.getD q z40 := rfl
        rw [hrd]
        rw [w64 (x := (q : Int) + 1) (by omega) (by omega)]
        generalize L.getD q z40 = f at hf h1
        refine Ev.pos (by omega) (Ev.pos (by omega) (Ev.bind (spec_l6fAt_ev f S 0 (by omega) (by omega) (by omega)) ?_))
        rw [List.drop_zero]
        cases hp : isPre f.f0 S
        · rw [if_neg (by rw [hp]; simp), List.map_nil, List.append_nil] at h1
          exact Ev.neg (by simp) (ih y ⟨h1, by omega⟩)
        · rw [if_pos hp] at h1
          have hlen := isPre_len hp
          have e2 : rd (waysL L S) (f.f0.length : Int) = (rdO L (S.drop f.f0.length)).f0 := by
            unfold rd
            rw [Int.toNat_natCast, waysL_get hlen]
          rw [e2]
          have hb := rdO_bd hv (S.length - f.f0.length) (S.drop f.f0.length) (by rw [List.length_drop]) (by omega)
          refine Ev.pos rfl (Ev.pos (by omega) (Ev.pos (by rw [waysL_len]; omega) ?_))
          by_cases hz : (rdO L (S.drop f.f0.length)).f0 = 0
          · rw [if_pos hz, List.map_nil, List.append_nil] at h1
            exact Ev.neg (by omega) (ih y ⟨h1, by omega⟩)
          · rw [if_neg hz] at h1
            have := hb.lo
            exact Ev.pos (by omega) (Ev.pos (by omega) (ih _ ⟨h1, by rw [List.length_append, List.length_singleton]; omega⟩))) 0 [] (Nat.zero_le _) ⟨by rw [List.drop_zero]; rfl, Nat.zero_le _⟩
      simpa using this

end Go.Proofs.Ytohnkicfnfejnaa.Pure
