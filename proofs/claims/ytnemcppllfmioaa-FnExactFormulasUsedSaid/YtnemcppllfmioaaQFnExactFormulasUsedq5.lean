/- Lemmas on the printed functions for the law FnExactFormulasUsed. -/
import Derived.Test.YtnemcppllfmioaaQFnExactFormulasUsedq0
import Derived.Test.YtnemcppllfmioaaQFnExactFormulasUsedq1
import Derived.Test.YtnemcppllfmioaaQFnExactFormulasUsedq2
import Derived.Test.YtnemcppllfmioaaQFnExactFormulasUsedq3
import Derived.Test.YtnemcppllfmioaaQFnExactFormulasUsedq4
import Derived.Deep.RegionHeld3
import Derived.BigRegion
import Derived.Deep.Slices
import Derived.Laws.CopyOwn
namespace Go.Proofs.Ytnemcppllfmioaa.Pure
set_option linter.unusedVariables false
set_option linter.unusedSimpArgs false
open Go Go.RowKit Go.Proofs.Ytnemcppllfmioaa.PFnExactFormulasUsed Go.Proofs.YtnemcppllfmioaaW.PrintWords Go.Proofs.YtnemcppllfmioaaW.PrintLast Go.Proofs.YtnemcppllfmioaaW.PrintMore

/-! spec_l6fWays: as the print has it, but the cut list has a name of its own -/
mutual
def spec_l6fWays.l0 : Nat → List (S55) → List Int → List Int → Int → Option (List Int)
  | 0, _, _, _, _ => none
  | k + 1, x0, x1, x6, x7 => if x7 ≥ 0 then (spec_l6fWays.l1 k x0 x1 x6 x7 0) else (some x6)
def spec_l6fWays.l1 : Nat → List (S55) → List Int → List Int → Int → Int → Option (List Int)
  | 0, _, _, _, _, _ => none
  | k + 1, x0, x1, x6, x7, x8 => if x8 < (x0.length : Int) then (if 0 ≤ x8 then ((spec_l6fAt.f k ((rd_T55 x0 x8).f0) ((rd_T55 x0 x8).f1) x1 x7).bind fun t157 => (if t157 = true then (if 0 ≤ x7 then (if x7 < (x6.length : Int) then (if 0 ≤ (wrap64 (x7 + (((rd_T55 x0 x8).f0).length : Int))) then (if (wrap64 (x7 + (((rd_T55 x0 x8).f0).length : Int))) < (x6.length : Int) then (spec_l6fWays.l1 k x0 x1 (x6.set (x7 : Int).toNat (wrap64 ((rd x6 x7) + (rd x6 (wrap64 (x7 + (((rd_T55 x0 x8).f0).length : Int))))))) x7 (wrap64 (x8 + 1))) else (none)) else (none)) else (none)) else (none)) else (spec_l6fWays.l1 k x0 x1 x6 x7 (wrap64 (x8 + 1))))) else (none)) else (spec_l6fWays.l0 k x0 x1 x6 (wrap64 (x7 - 1)))
end
def spec_l6fWays.f (k : Nat) (l0 : List (S55)) (l1 : List Int) : Option (List Int) := if 0 ≤ (wrap64 ((l1.length : Int) + 1)) then (if (wrap64 ((l1.length : Int) + 1) : Int).toNat ≤ 35184372088832 then ((some (List.replicate (wrap64 ((l1.length : Int) + 1) : Int).toNat 0 : List Int)).bind fun y152 => (if 0 ≤ (l1.length : Int) then (if (l1.length : Int) < (y152.length : Int) then (spec_l6fWays.l0 k l0 l1 (y152.set ((l1.length : Int) : Int).toNat 1) (wrap64 ((l1.length : Int) - 1))) else (none)) else (none))) else (none)) else (none)
theorem spec_l6fWays.mono_l : ∀ k, (∀ y0 y1 y2 y3, LeO (spec_l6fWays.l0 k y0 y1 y2 y3) (spec_l6fWays.l0 (k + 1) y0 y1 y2 y3)) ∧ (∀ y0 y1 y2 y3 y4, LeO (spec_l6fWays.l1 k y0 y1 y2 y3 y4) (spec_l6fWays.l1 (k + 1) y0 y1 y2 y3 y4))
  | 0 => ⟨fun _ _ _ _ r h => by simp [spec_l6fWays.l0] at h, fun _ _ _ _ _ r h => by simp [spec_l6fWays.l1] at h⟩
  | k + 1 => by
    obtain ⟨ih0, ih1⟩ := spec_l6fWays.mono_l k
    refine ⟨?_, ?_⟩
    · intro y0 y1 y2 y3
      unfold spec_l6fWays.l0
      repeat' first
      | (with_reducible exact ih0 _ _ _ _)
      | (with_reducible exact ih1 _ _ _ _ _)
      | (with_reducible exact spec_l6fAt.mono _ _ _ _ _)
      | (with_reducible exact LeO.refl _)
      | (with_reducible exact LeO.none _)
      | (with_reducible refine LeO.ite ?_ ?_)
      | (with_reducible refine LeO.bind ?_ (fun _ => ?_))
      | exact ih0 _ _ _ _
      | exact ih1 _ _ _ _ _
      | exact spec_l6fAt.mono _ _ _ _ _
      | exact LeO.none _
      | refine LeO.ite ?_ ?_
      | refine LeO.bind ?_ (fun _ => ?_)
    · intro y0 y1 y2 y3 y4
      unfold spec_l6fWays.l1
      repeat' first
      | (with_reducible exact ih0 _ _ _ _)
      | (with_reducible exact ih1 _ _ _ _ _)
      | (with_reducible exact spec_l6fAt.mono _ _ _ _ _)
      | (with_reducible exact LeO.refl _)
      | (with_reducible exact LeO.none _)
      | (with_reducible refine LeO.ite ?_ ?_)
      | (with_reducible refine LeO.bind ?_ (fun _ => ?_))
      | exact ih0 _ _ _ _
      | exact ih1 _ _ _ _ _
      | exact spec_l6fAt.mono _ _ _ _ _
      | exact LeO.none _
      | refine LeO.ite ?_ ?_
      | refine LeO.bind ?_ (fun _ => ?_)
theorem spec_l6fWays.mono : ∀ a0 a1 k, LeO (spec_l6fWays.f k a0 a1) (spec_l6fWays.f (k + 1) a0 a1) := by
  intro a0 a1 k
  obtain ⟨ih0, ih1⟩ := spec_l6fWays.mono_l k
  unfold spec_l6fWays.f
  repeat' first
      | (with_reducible exact ih0 _ _ _ _)
      | (with_reducible exact ih1 _ _ _ _ _)
      | (with_reducible exact spec_l6fAt.mono _ _ _ _ _)
      | (with_reducible exact LeO.refl _)
      | (with_reducible exact LeO.none _)
      | (with_reducible refine LeO.ite ?_ ?_)
      | (with_reducible refine LeO.bind ?_ (fun _ => ?_))
      | exact ih0 _ _ _ _
      | exact ih1 _ _ _ _ _
      | exact spec_l6fAt.mono _ _ _ _ _
      | exact LeO.none _
      | refine LeO.ite ?_ ?_
      | refine LeO.bind ?_ (fun _ => ?_)
def spec_l6fWays.T11 : Bool × List (List Nat × List Nat) := (true, [([], []), ([], []), ([], []), ([], []), ([2, 3], [2, 3]), ([4], [4]), ([], []), ([], []), ([], []), ([], []), ([8, 9], [8, 9]), ([10], [10]), ([11], [11]), ([12], [12]), ([7, 13], [7, 13]), ([6, 14], [6, 14]), ([15], [15]), ([5, 16], [5, 16]), ([0, 1, 0, 1, 2, 3, 4, 5, 6, 7, 8, 9, 10, 11, 12, 13, 14, 15, 16, 17], [0, 1]), ([18, 17, 0, 1, 2, 3, 4, 5, 6, 7, 8, 9, 10, 11, 12, 13, 14, 15, 16, 17], [17, 18])])
def spec_l6fWays.B11 : List Nat := [0, 0, 0, 0, 12, 28, 0, 0, 0, 0, 768, 1792, 3840, 7936, 16256, 32704, 65472, 131068, 262143, 524287]
theorem spec_l6fWays.tab11 : rtab .any (opsOf Try.f84 11) = spec_l6fWays.T11 := by kernel_rfl
theorem spec_l6fWays.bits11 : waitsOk spec_l6fWays.T11.2 spec_l6fWays.B11 = true := by kernel_rfl
set_option maxHeartbeats 8000000 in
set_option maxRecDepth 100000 in
theorem spec_l6fWays.calls (k : Nat) (A0 : Option Addr) (c0 : Nat) (l0 : List (S55)) (A1 : Option Addr) (c1 : Nat) (l1 : List Int) (r : List Int) (w : World) (hr0 : Kd.C k55 w A0 l0.length l0) (hc0 : l0.length ≤ c0) (hr1 : Kd.C (Kd.int .i64) w A1 l1.length l1) (hc1 : l1.length ≤ c1) (h : spec_l6fWays.f k l0 l1 = some r) :
    Calls Try.prog 84 #[.slice A0 l0.length c0, .slice A1 l1.length c1] w fun e w' => ∃ v0_ : Value, e = .returned (v0_) ∧ Kd.R (Kd.int .i64) 3 w' w.heap.size (fun _ => True) v0_ r ∧ Below w.heap.size w w' := by
  have hu55 := Try.underlying55
  have HR0 := Aside0.mk hr0
  have HC0 := Aside0.mk hc0
  clear hr0 hc0
  have HR1 := Aside0.mk hr1
  have HC1 := Aside0.mk hc1
  clear hr1 hc1
  have HB := Aside0.mk (Below.refl w.heap.size w)
  have H : (if 0 ≤ (wrap64 ((l1.length : Int) + 1)) then (if (wrap64 ((l1.length : Int) + 1) : Int).toNat ≤ 35184372088832 then ((some (List.replicate (wrap64 ((l1.length : Int) + 1) : Int).toNat 0 : List Int)).bind fun y152 => (if 0 ≤ (l1.length : Int) then (if (l1.length : Int) < (y152.length : Int) then (spec_l6fWays.l0 k l0 l1 (y152.set ((l1.length : Int) : Int).toNat 1) (wrap64 ((l1.length : Int) - 1))) else (none)) else (none))) else (none)) else (none)) = some r := h
  clear h
  obtain ⟨ji3, hji3⟩ : ∃ j_ : Int, (wrap64 ((l1.length : Int) + 1)) = j_ := ⟨_, rfl⟩
  replace H : (if 0 ≤ (ji3) then (if (ji3 : Int).toNat ≤ 35184372088832 then ((some (List.replicate (ji3 : Int).toNat 0 : List Int)).bind fun y152 => (if 0 ≤ (l1.length : Int) then (if (l1.length : Int) < (y152.length : Int) then (spec_l6fWays.l0 k l0 l1 (y152.set ((l1.length : Int) : Int).toNat 1) (wrap64 ((l1.length : Int) - 1))) else (none)) else (none))) else (none)) else (none)) = some r := by first | (rw [hji3] at H; exact H) | (simp only [hji3] at H ⊢; exact H)
  have hji3w : (IntKind.i64.wrap ((l1.length : Int) + 1)) = ji3 := (i64_w _).trans hji3
  by_cases c4 : 0 ≤ (ji3)
  · rw [if_pos c4] at H
    have c4b0 := eq_true c4
    have c4b1 : decide (0 ≤ (ji3)) = true := decide_eq_true c4
    clear c4
    by_cases c5 : (ji3 : Int).toNat ≤ 35184372088832
    · rw [if_pos c5] at H
      have c5b0 := eq_true c5
      have c5b1 : decide ((ji3 : Int).toNat ≤ 35184372088832) = true := decide_eq_true c5
      clear c5
      obtain ⟨y152, hy152⟩ : ∃ y_ : List Int, y_ = (List.replicate (ji3 : Int).toNat 0) := ⟨_, rfl⟩
      replace H : (if 0 ≤ (l1.length : Int) then (if (l1.length : Int) < (y152.length : Int) then (spec_l6fWays.l0 k l0 l1 (y152.set ((l1.length : Int) : Int).toNat 1) (wrap64 ((l1.length : Int) - 1))) else (none)) else (none)) = some r := by first | (rw [hy152]; with_reducible exact H) | (have H2_ := (Option.bind_some _ _).symm.trans H; rw [hy152]; with_reducible exact H2_) | (have H2_ := (Option.bind_some _ _).symm.trans H; with_reducible exact H2_) | with_reducible exact H | (rw [hy152]; exact H) | exact H
      have Ny152 := Aside0.mk hy152
      clear hy152
      by_cases c6 : 0 ≤ (l1.length : Int)
      · rw [if_pos c6] at H
        have c6b0 : decide (0 ≤ (l1.length : Int)) = true := decide_eq_true c6
        have c6b1 : decide (0 ≤ l1.length) = true := decide_eq_true (by omega)
        clear c6
        by_cases c7 : (l1.length : Int) < (y152.length : Int)
        · rw [if_pos c7] at H
          have c7b0 : decide ((l1.length : Int) < (y152.length : Int)) = true := decide_eq_true c7
          have c7b1 : decide (l1.length < y152.length) = true := decide_eq_true (Int.ofNat_lt.mp c7)
          clear c7
          obtain ⟨y155, hy155⟩ : ∃ y_ : List Int, y_ = (y152.set ((l1.length : Int) : Int).toNat 1) := ⟨_, rfl⟩
          replace H : (spec_l6fWays.l0 k l0 l1 y155 (wrap64 ((l1.length : Int) - 1))) = some r := by first | (rw [hy155]; with_reducible exact H) | (have H2_ := (Option.bind_some _ _).symm.trans H; rw [hy155]; with_reducible exact H2_) | (have H2_ := (Option.bind_some _ _).symm.trans H; with_reducible exact H2_) | with_reducible exact H | (rw [hy155]; exact H) | exact H
          have Ny155 := Aside0.mk hy155
          clear hy155
          have H' := Aside0.mk H
          clear H
          go_enter Try.func84, Try.ntmps84
          go_wp2_with (first | ((with_reducible refine gate_dst (N := 13) rfl ?_); refine Kd.R_make (Kd.int .i64) _ 3 rfl (N := 13) rfl 46 _ _ rfl ji3 rfl rfl Try.underlying46 (.int .i64 0) 8 info3 rfl (by decide) (by omega) 0 (ok := fun _ => True) (okp := fun _ => True) rfl (fun _ hk => hk) trivial (of_decide_eq_true (by first | (with_reducible assumption) | assumption)) (Nat.le_trans (Nat.mul_le_mul_right _ (of_decide_eq_true (by first | (with_reducible assumption) | assumption) : ji3.toNat ≤ 35184372088832)) (by omega)) (Below.refl _ _) (Nat.le_refl _) ?_; intro v153 w9 ho10 hb hg_ hnew_; clear hg_ hnew_; (first | rw [← Ny152.out] at ho10 | (simp only [Int.reduceToNat] at ho10; rw [← Ny152.out] at ho10)); have n0_ := Aside0.mk (Kd.R_lower ho10 (below_size (by repeat (first | (with_reducible first | exact HB.out | apply below_alloc | apply pw_below_drewN | apply below_drew1) | exact HB.out)))); have n1_ := Aside0.mk (below_step (by repeat (first | (with_reducible first | exact HB.out | apply below_alloc | apply pw_below_drewN | apply below_drew1) | exact HB.out)) hb); clear HB; have HO154 := n0_; have HB := n1_; clear n0_ n1_; clear hb ho10; have p8 : 0 ≤ ((l1.length : Int) : Int) := of_decide_eq_true (by first | (with_reducible assumption) | assumption); have q8 : ((l1.length : Int) : Int) < ((y152.length : Int) : Int) := of_decide_eq_true (by first | (with_reducible assumption) | assumption); obtain ⟨go8, co8, eo8, gb8, gl8, cl8, HG8⟩ := Kd.R_form HO154.out (by omega); (first | cases eo8 | (injection eo8 with ea_ en_ ec_; (first | subst ea_ | (injection ea_ with ea_; subst ea_)); subst ec_; clear en_)); have GB8 := Aside0.mk gb8; have GG8 := Aside0.mk HG8; clear gb8 gl8 HG8; obtain ⟨hx8_0, hf8_0⟩ := Kd.R_celln 0 HO154.out ((l1.length : Int) : Int) p8 q8; replace p8 := eq_true p8; replace q8 := eq_true q8; obtain ⟨hy11_, hz11_⟩ := Kd.R_celln 0 HO154.out ((l1.length : Int) : Int) (of_decide_eq_true (by first | (with_reducible assumption) | assumption)) (of_decide_eq_true (by first | (with_reducible assumption) | assumption)); (try simp only [Go.IntWalk.toNatUp] at hy11_ hz11_); have HP11 := Kd.R_putg HO154.out ((l1.length : Int) : Int) 1) | ((with_reducible refine gate_store (t := 3) (p := 16) rfl ?_); refine store_event (t := 3) (p := 16) (v := ?vo_w12) (w1 := (w9.setCell ⟨go8, ((l1.length : Int) : Int).toNat, none⟩ (.int .i64 1))) ?hg ?ho ?hn ?hr ?_; (case ho => rfl); (case hg => rfl); (case hn => rfl); (case hr => first | (go_simp; done) | (go_simp; rfl)); intro w12 hw; have hg : w9.grownBy w12 (some go8) := (by rw [hw]; exact HP11.2); have hp_ : Kd.R (Kd.int .i64) 3 w12 w.heap.size (fun _ => True) (.slice (some ⟨go8, 0, none⟩) y152.length co8) y155 := (by rw [hw, Ny155.out]; exact HP11.1); clear HP11; have n0_ := Aside0.mk (hp_); have n1_ := Aside0.mk ((by rw [hw]; exact below_set (HB.out) GB8.out : Below w.heap.size w w12)); clear HO154; clear HB; have HO154 := n0_; have HB := n1_; clear n0_ n1_; clear hg hw hp_))
          go_loopg [7] k (fun kq v7 w' => ∃ (x6_1 : List Int) (x7_1 : Int), v7 = .int .i64 x7_1 ∧ Aside0 (spec_l6fWays.l0 kq l0 l1 x6_1 x7_1 = some r) ∧ Aside0 (kq ≤ k) ∧ Aside0 (Kd.R (Kd.int .i64) 3 w' w.heap.size (fun _ => True) (.slice (some ⟨go8, 0, none⟩) y152.length co8) x6_1) ∧ Aside0 (Below w.heap.size w w'))
          case atStart => exact ⟨(y155), (wrap64 ((l1.length : Int) - 1)), (by first | rfl | (simp; done) | (simp [*]; done)), H', ⟨Nat.le_refl _⟩, ⟨by (with_reducible repeat (first | apply Kd.R_alloc | apply Kd.R_drewN | apply Kd.R_drew)); exact HO154.out⟩, ⟨by repeat (first | (with_reducible first | exact HB.out | apply below_alloc | apply pw_below_drewN | apply below_drew1) | exact HB.out)⟩⟩
          case round =>
            clear H'
            try clear c1
            try clear p2
            try clear c4
            try clear c4b0
            try clear c4b1
            try clear c5
            try clear c5b0
            try clear c5b1
            try clear c6
            try clear c6b0
            try clear c6b1
            try clear p6
            try clear c7
            try clear c7b0
            try clear c7b1
            try clear c8
            try clear p8
            try clear q8
            try clear hx8
            try clear hf8
            try clear hx8_0
            try clear p8
            try clear q8
            obtain ⟨x6_1, x7_1, rfl, HA, HK1, HO_6, HB⟩ := hrel
            have hl6_1 := (Kd.R_reads' HO_6.out).1
            rw [hl6_1] at HO_6
            (try simp only [hl6_1])
            cases gk with
            | zero => exact absurd HA.out (by simp [spec_l6fWays.l0])
            | succ k1 =>
              have H := HA.out
              clear HA
              simp only [spec_l6fWays.l0] at H
              by_cases c13 : x7_1 ≥ 0
              · rw [if_pos c13] at H
                have c13b0 : decide (0 ≤ x7_1) = true := decide_eq_true c13
                clear c13
                have H' := Aside0.mk H
                clear H
                go_wp2
                go_loopg [8] k1 (fun kq v8 w' => ∃ (x6_2 : List Int) (x8_2 : Int), v8 = .int .i64 x8_2 ∧ Aside0 (spec_l6fWays.l1 kq l0 l1 x6_2 x7_1 x8_2 = some r) ∧ Aside0 (kq ≤ k1) ∧ Aside0 (Kd.R (Kd.int .i64) 3 w' w.heap.size (fun _ => True) (.slice (some ⟨go8, 0, none⟩) x6_1.length co8) x6_2) ∧ Aside0 (Below w.heap.size w w'))
                case atStart => exact ⟨(x6_1), (0), (by first | rfl | (simp; done) | (simp [*]; done)), H', ⟨Nat.le_refl _⟩, ⟨by (try simp only [hl6_1]); (with_reducible repeat (first | apply Kd.R_alloc | apply Kd.R_drewN | apply Kd.R_drew)); exact HO_6.out⟩, ⟨by repeat (first | (with_reducible first | exact HB.out | apply below_alloc | apply pw_below_drewN | apply below_drew1) | exact HB.out)⟩⟩
                case round =>
                  clear H'
                  try clear c1
                  try clear p2
                  try clear c4
                  try clear c4b0
                  try clear c4b1
                  try clear c5
                  try clear c5b0
                  try clear c5b1
                  try clear c6
                  try clear c6b0
                  try clear c6b1
                  try clear p6
                  try clear c7
                  try clear c7b0
                  try clear c7b1
                  try clear c8
                  try clear p8
                  try clear q8
                  try clear hx8
                  try clear hf8
                  try clear c13
                  try clear c13b0
                  try clear hx8_0
                  try clear p2
                  try clear p6
                  try clear p8
                  try clear q8
                  obtain ⟨x6_2, x8_2, rfl, HA, HK2, HO_6, HB⟩ := hrel
                  have hl6_2 := (Kd.R_reads' HO_6.out).1
                  rw [hl6_2] at HO_6
                  (try simp only [hl6_2])
                  cases gk with
                  | zero => exact absurd HA.out (by simp [spec_l6fWays.l1])
                  | succ k2 =>
                    have H := HA.out
                    clear HA
                    simp only [spec_l6fWays.l1] at H
                    by_cases c14 : x8_2 < (l0.length : Int)
                    · rw [if_pos c14] at H
                      have c14b0 : decide (x8_2 < (l0.length : Int)) = true := decide_eq_true c14
                      clear c14
                      by_cases c15 : 0 ≤ x8_2
                      · rw [if_pos c15] at H
                        have c15b0 : decide (0 ≤ x8_2) = true := decide_eq_true c15
                        clear c15
                        replace H := Option.bind_eq_some_iff.mp H
                        obtain ⟨t157, A160, H⟩ := H
                        replace H : (if t157 = true then (if 0 ≤ x7_1 then (if x7_1 < (x6_2.length : Int) then (if 0 ≤ (wrap64 (x7_1 + (((rd_T55 l0 x8_2).f0).length : Int))) then (if (wrap64 (x7_1 + (((rd_T55 l0 x8_2).f0).length : Int))) < (x6_2.length : Int) then (spec_l6fWays.l1 k2 l0 l1 (x6_2.set (x7_1 : Int).toNat (wrap64 ((rd x6_2 x7_1) + (rd x6_2 (wrap64 (x7_1 + (((rd_T55 l0 x8_2).f0).length : Int))))))) x7_1 (wrap64 (x8_2 + 1))) else (none)) else (none)) else (none)) else (none)) else (spec_l6fWays.l1 k2 l0 l1 x6_2 x7_1 (wrap64 (x8_2 + 1)))) = some r := H
                        have A16 := Aside0.mk A160
                        clear A160
                        by_cases c17 : t157 = true
                        · subst c17
                          have H1 : (if 0 ≤ x7_1 then (if x7_1 < (x6_2.length : Int) then (if 0 ≤ (wrap64 (x7_1 + (((rd_T55 l0 x8_2).f0).length : Int))) then (if (wrap64 (x7_1 + (((rd_T55 l0 x8_2).f0).length : Int))) < (x6_2.length : Int) then (spec_l6fWays.l1 k2 l0 l1 (x6_2.set (x7_1 : Int).toNat (wrap64 ((rd x6_2 x7_1) + (rd x6_2 (wrap64 (x7_1 + (((rd_T55 l0 x8_2).f0).length : Int))))))) x7_1 (wrap64 (x8_2 + 1))) else (none)) else (none)) else (none)) else (none)) = some r := by rw [if_pos rfl] at H; exact H
                          clear H
                          have H := H1
                          clear H1
                          by_cases c18 : 0 ≤ x7_1
                          · rw [if_pos c18] at H
                            have c18b0 : decide (0 ≤ x7_1) = true := decide_eq_true c18
                            clear c18
                            by_cases c19 : x7_1 < (x6_2.length : Int)
                            · rw [if_pos c19] at H
                              have c19b0 : decide (x7_1 < (x6_2.length : Int)) = true := decide_eq_true c19
                              clear c19
                              obtain ⟨ji20, hji20⟩ : ∃ j_ : Int, (wrap64 (x7_1 + (((rd_T55 l0 x8_2).f0).length : Int))) = j_ := ⟨_, rfl⟩
                              replace H : (if 0 ≤ (ji20) then (if (ji20) < (x6_2.length : Int) then (spec_l6fWays.l1 k2 l0 l1 (x6_2.set (x7_1 : Int).toNat (wrap64 ((rd x6_2 x7_1) + (rd x6_2 (ji20))))) x7_1 (wrap64 (x8_2 + 1))) else (none)) else (none)) = some r := by first | (rw [hji20] at H; exact H) | (simp only [hji20] at H ⊢; exact H)
                              (try rw [hji20] at A16)
                              have hji20w : (IntKind.i64.wrap (x7_1 + (((rd_T55 l0 x8_2).f0).length : Int))) = ji20 := (i64_w _).trans hji20
                              by_cases c21 : 0 ≤ (ji20)
                              · rw [if_pos c21] at H
                                have c21b0 : decide (0 ≤ (ji20)) = true := decide_eq_true c21
                                clear c21
                                by_cases c22 : (ji20) < (x6_2.length : Int)
                                · rw [if_pos c22] at H
                                  have c22b0 : decide ((ji20) < (x6_2.length : Int)) = true := decide_eq_true c22
                                  clear c22
                                  obtain ⟨y161, hy161⟩ : ∃ y_ : List Int, y_ = (x6_2.set (x7_1 : Int).toNat (wrap64 ((rd x6_2 x7_1) + (rd x6_2 (ji20))))) := ⟨_, rfl⟩
                                  replace H : (spec_l6fWays.l1 k2 l0 l1 y161 x7_1 (wrap64 (x8_2 + 1))) = some r := by first | (rw [hy161]; with_reducible exact H) | (have H2_ := (Option.bind_some _ _).symm.trans H; rw [hy161]; with_reducible exact H2_) | (have H2_ := (Option.bind_some _ _).symm.trans H; with_reducible exact H2_) | with_reducible exact H | (rw [hy161]; exact H) | exact H
                                  have Ny161 := Aside0.mk hy161
                                  clear hy161
                                  have H' := Aside0.mk H
                                  clear H
                                  have p156 : 0 ≤ (x8_2 : Int) := of_decide_eq_true (by first | (with_reducible assumption) | assumption)
                                  have q156 : x8_2 < (l0.length : Int) := of_decide_eq_true (by first | (with_reducible assumption) | assumption)
                                  obtain ⟨ad156, A156_0, c156_0, e156, hx156_0, hx156_1, hl156_0, hi156_0⟩ := at_T55 HR0.out x8_2 p156 q156
                                  cases e156
                                  replace hx156_0 := (HB.out.cell (World.block_lt_of_cell? w _ hx156_0)).trans hx156_0
                                  replace hx156_1 := (HB.out.cell (World.block_lt_of_cell? w _ hx156_1)).trans hx156_1
                                  have HR156_0 := Aside0.mk hi156_0
                                  have HC156_0 := Aside0.mk hl156_0
                                  clear hi156_0 hl156_0
                                  replace p156 := eq_true p156
                                  replace q156 := eq_true q156
                                  try go_wp2_with (first | ((with_reducible refine gate_callee (f := 83) rfl ?_); refine goesL_ (some 35) rfl rfl Try.func83 (by kernel_rfl) rfl #[.agg #[.slice A156_0 ((rd_T55 l0 x8_2).f0).length c156_0, .int .i64 ((rd_T55 l0 x8_2).f1)], .slice A1 l1.length c1, .int .i64 x7_1] rfl (by (try simp only [List.map_toArray, List.map_cons, List.map_nil]); first | done | rfl | (simp only [List.length_drop, List.length_take]; rfl)) ?_; (with_reducible refine (spec_l6fAt.calls k2 _ _ ((rd_T55 l0 x8_2).f0) ((rd_T55 l0 x8_2).f1) _ _ l1 x7_1 true _ ?side1 ?side2 ?side3 ?side4 A16.out).mono ?_); (case side1 => repeat (first | exact (Kd.C_below HR156_0.out HB.out) | (with_reducible refine Kd.C_alloc ?_ _) | (with_reducible refine Kd.C_drewN ?_ _) | (with_reducible refine Kd.C_drew ?_))); (case side2 => exact HC156_0.out); (case side3 => repeat (first | exact (Kd.C_below HR1.out HB.out) | (with_reducible refine Kd.C_alloc ?_ _) | (with_reducible refine Kd.C_drewN ?_ _) | (with_reducible refine Kd.C_drew ?_))); (case side4 => exact HC1.out); rintro e w24 ⟨rfl, hb⟩; refine ⟨_, rfl, ?_⟩; have n0_ := Aside0.mk (Kd.R_below (by (with_reducible repeat (first | apply Kd.R_alloc | apply Kd.R_drewN | apply Kd.R_drew)); exact HO_6.out) hb); have n1_ := Aside0.mk (below_step (by repeat (first | (with_reducible first | exact HB.out | apply below_alloc | apply pw_below_drewN | apply below_drew1) | exact HB.out)) hb); clear HO_6; clear HB; have HO_6 := n0_; have HB := n1_; clear n0_ n1_; (try clear hb); (try clear hb2); (try clear hk); (try clear hi)))
                                  have n0_ := Aside0.mk (Kd.R_drew HO_6.out)
                                  have n1_ := Aside0.mk (below_drew1 HB.out)
                                  clear HO_6
                                  clear HB
                                  have HO_6 := n0_
                                  have HB := n1_
                                  clear n0_ n1_
                                  have p158 : 0 ≤ (x7_1 : Int) := of_decide_eq_true (by first | (with_reducible assumption) | assumption)
                                  have q158 : x7_1 < (x6_2.length : Int) := of_decide_eq_true (by first | (with_reducible assumption) | assumption)
                                  obtain ⟨ad158, e158, hx158_0⟩ := Kd.at_int (Kd.R_reads' HO_6.out).2.2 x7_1 p158 q158
                                  obtain rfl : (⟨go8, 0, none⟩ : Addr) = ad158 := (by injection e158)
                                  (first | simp only [add_plain] at hx158_0 | simp only [add_at] at hx158_0 | simp only [Addr.add, Nat.zero_add] at hx158_0 | skip)
                                  replace p158 := eq_true p158
                                  replace q158 := eq_true q158
                                  have p159 : 0 ≤ (x8_2 : Int) := of_decide_eq_true (by first | (with_reducible assumption) | assumption)
                                  have q159 : x8_2 < (l0.length : Int) := of_decide_eq_true (by first | (with_reducible assumption) | assumption)
                                  obtain ⟨ad159, A159_0, c159_0, e159, hx159_0, hx159_1, hl159_0, hi159_0⟩ := at_T55 HR0.out x8_2 p159 q159
                                  have hw159_1 := hx159_1
                                  have hw159_0 := hx159_0
                                  obtain rfl : ad156 = ad159 := (by injection e159)
                                  replace hx159_0 := (HB.out.cell (World.block_lt_of_cell? w _ hx159_0)).trans hx159_0
                                  replace hx159_1 := (HB.out.cell (World.block_lt_of_cell? w _ hx159_1)).trans hx159_1
                                  have HR159_0 := Aside0.mk hi159_0
                                  have HC159_0 := Aside0.mk hl159_0
                                  clear hi159_0 hl159_0
                                  replace p159 := eq_true p159
                                  replace q159 := eq_true q159
                                  have p160 : 0 ≤ ((ji20) : Int) := of_decide_eq_true (by first | (with_reducible assumption) | assumption)
                                  have q160 : (ji20) < (x6_2.length : Int) := of_decide_eq_true (by first | (with_reducible assumption) | assumption)
                                  obtain ⟨ad160, e160, hx160_0⟩ := Kd.at_int (Kd.R_reads' HO_6.out).2.2 (ji20) p160 q160
                                  obtain rfl : (⟨go8, 0, none⟩ : Addr) = ad160 := (by injection e160)
                                  (first | simp only [add_plain] at hx160_0 | simp only [add_at] at hx160_0 | simp only [Addr.add, Nat.zero_add] at hx160_0 | skip)
                                  replace p160 := eq_true p160
                                  replace q160 := eq_true q160
                                  have p23 : 0 ≤ (x7_1 : Int) := of_decide_eq_true (by first | (with_reducible assumption) | assumption)
                                  have q23 : (x7_1 : Int) < ((x6_2.length : Int) : Int) := of_decide_eq_true (by first | (with_reducible assumption) | assumption)
                                  obtain ⟨hx23_0, hf23_0⟩ := Kd.R_celln 0 HO_6.out (x7_1 : Int) p23 q23
                                  replace p23 := eq_true p23
                                  replace q23 := eq_true q23
                                  have HP26 := Kd.R_putn HO_6.out (x7_1 : Int) (wrap64 ((rd x6_2 x7_1) + (rd x6_2 (ji20))))
                                  rw [← Ny161.out] at HP26
                                  have HQ26 := Aside0.mk HP26
                                  clear HP26
                                  refine start_ (n := 20) (S := fun w' => w'.cell? ⟨go8, (x7_1).toNat, none⟩ = some (.int .i64 (rd x6_2 x7_1)) ∧ w'.cell? (ad156.add ((x8_2).toNat * 2)) = some (.slice A159_0 ((rd_T55 l0 x8_2).f0).length c159_0) ∧ w'.cell? ⟨(ad156.add ((x8_2).toNat * 2)).block, (ad156.add ((x8_2).toNat * 2)).off + 1, none⟩ = some (.int .i64 ((rd_T55 l0 x8_2).f1)) ∧ w'.cell? ⟨go8, ((ji20)).toNat, none⟩ = some (.int .i64 (rd x6_2 (ji20)))) (ds := [19]) #[false, false, false, false, false, false, false, false, false, false, false, false, false, false, false, false, false, false, false, false] (by kernel_rfl) rfl rfl ⟨hx158_0, ((HB.out.cell (World.block_lt_of_cell? w _ hw159_0)).trans hw159_0), ((HB.out.cell (World.block_lt_of_cell? w _ hw159_1)).trans hw159_1), hx160_0⟩ (fun hHeld => ?_); refine with_tabW spec_l6fWays.tab11 spec_l6fWays.bits11 (fun HT_ HW_ => ?_)
                                  generalize w24.drew = w25 at HO_6 HB HQ26 HR159_0 hf23_0 hx158_0 hx159_0 hx159_1 hx160_0 hx23_0 hHeld ⊢
                                  refine pure_ (i := 0) (N := some 36) (v := ?_) (a' := ?_) #[true, false, false, false, false, false, false, false, false, false, false, false, false, false, false, false, false, false, false, false] rfl rfl (any_of HT_.out (by kernel_rfl)) (fun _ _ _ h => h) (Or.inl ⟨by rfl, ?_⟩) ?_ ?_
                                  rotate_left
                                  · intro w'
                                    go_simp
                                    with_reducible rfl
                                  rotate_left
                                  · simp only [Act.put, List.setIfInBounds_toArray, List.set_cons_zero, List.set_cons_succ, i64_w, i32_w]
                                    rfl
                                  refine pure_ (i := 1) (N := some 37) (v := ?_) (a' := ?_) #[true, true, false, false, false, false, false, false, false, false, false, false, false, false, false, false, false, false, false, false] rfl rfl (any_of HT_.out (by kernel_rfl)) (fun _ _ _ h => h) (Or.inl ⟨by rfl, ?_⟩) ?_ ?_
                                  rotate_left
                                  · intro w'
                                    go_simp
                                    with_reducible rfl
                                  rotate_left
                                  · simp only [Act.put, List.setIfInBounds_toArray, List.set_cons_zero, List.set_cons_succ, i64_w, i32_w]
                                    rfl
                                  refine pure_ (i := 2) (N := some 38) (v := ?_) (a' := ?_) #[true, true, true, false, false, false, false, false, false, false, false, false, false, false, false, false, false, false, false, false] rfl rfl (any_of HT_.out (by kernel_rfl)) (fun _ _ _ h => h) (Or.inl ⟨by rfl, ?_⟩) ?_ ?_
                                  rotate_left
                                  · intro w'
                                    go_simp
                                    with_reducible rfl
                                  rotate_left
                                  · simp only [Act.put, List.setIfInBounds_toArray, List.set_cons_zero, List.set_cons_succ, i64_w, i32_w]
                                    rfl
                                  refine pure_ (i := 3) (N := some 39) (v := ?_) (a' := ?_) #[true, true, true, true, false, false, false, false, false, false, false, false, false, false, false, false, false, false, false, false] rfl rfl (any_of HT_.out (by kernel_rfl)) (fun _ _ _ h => h) (Or.inl ⟨by rfl, ?_⟩) ?_ ?_
                                  rotate_left
                                  · intro w'
                                    go_simp
                                    with_reducible rfl
                                  rotate_left
                                  · simp only [Act.put, List.setIfInBounds_toArray, List.set_cons_zero, List.set_cons_succ, i64_w, i32_w]
                                    rfl
                                  refine pure_ (i := 4) (N := some 40) (v := ?_) (a' := ?_) #[true, true, true, true, true, false, false, false, false, false, false, false, false, false, false, false, false, false, false, false] rfl rfl (any_of HT_.out (by kernel_rfl)) (fun _ _ _ h => h) (Or.inl ⟨by rfl, ?_⟩) ?_ ?_
                                  rotate_left
                                  · intro w'
                                    go_simp
                                    with_reducible rfl
                                  rotate_left
                                  · simp only [Act.put, List.setIfInBounds_toArray, List.set_cons_zero, List.set_cons_succ, i64_w, i32_w]
                                    rfl
                                  refine pure_ (i := 6) (N := some 42) (v := ?_) (a' := ?_) #[true, true, true, true, true, false, true, false, false, false, false, false, false, false, false, false, false, false, false, false] rfl rfl (any_of HT_.out (by kernel_rfl)) (fun _ _ _ h => h) (Or.inl ⟨by rfl, ?_⟩) ?_ ?_
                                  rotate_left
                                  · intro w'
                                    go_simp
                                    with_reducible rfl
                                  rotate_left
                                  · simp only [Act.put, List.setIfInBounds_toArray, List.set_cons_zero, List.set_cons_succ, i64_w, i32_w]
                                    rfl
                                  refine pure_ (i := 7) (N := some 43) (v := ?_) (a' := ?_) #[true, true, true, true, true, false, true, true, false, false, false, false, false, false, false, false, false, false, false, false] rfl rfl (any_of HT_.out (by kernel_rfl)) (fun _ _ _ h => h) (Or.inl ⟨by rfl, ?_⟩) ?_ ?_
                                  rotate_left
                                  · intro w'
                                    go_simp
                                    with_reducible rfl
                                  rotate_left
                                  · simp only [Act.put, List.setIfInBounds_toArray, List.set_cons_zero, List.set_cons_succ, i64_w, i32_w]
                                    rfl
                                  refine pure_ (i := 8) (N := some 44) (v := ?_) (a' := ?_) #[true, true, true, true, true, false, true, true, true, false, false, false, false, false, false, false, false, false, false, false] rfl rfl (any_of HT_.out (by kernel_rfl)) (fun _ _ _ h => h) (Or.inl ⟨by rfl, ?_⟩) ?_ ?_
                                  rotate_left
                                  · intro w'
                                    go_simp
                                    with_reducible rfl
                                  rotate_left
                                  · simp only [Act.put, List.setIfInBounds_toArray, List.set_cons_zero, List.set_cons_succ, i64_w, i32_w]
                                    rfl
                                  refine pure_ (i := 9) (N := some 45) (v := ?_) (a' := ?_) #[true, true, true, true, true, false, true, true, true, true, false, false, false, false, false, false, false, false, false, false] rfl rfl (any_of HT_.out (by kernel_rfl)) (fun _ _ _ h => h) (Or.inl ⟨by rfl, ?_⟩) ?_ ?_
                                  rotate_left
                                  · intro w'
                                    go_simp
                                    with_reducible rfl
                                  rotate_left
                                  · simp only [Act.put, List.setIfInBounds_toArray, List.set_cons_zero, List.set_cons_succ, i64_w, i32_w]
                                    rfl
                                  refine pure_ (i := 10) (N := some 46) (v := ?_) (a' := ?_) #[true, true, true, true, true, false, true, true, true, true, true, false, false, false, false, false, false, false, false, false] rfl rfl (any_of HT_.out (by kernel_rfl)) (fun _ _ _ h => h) (Or.inl ⟨by rfl, ?_⟩) ?_ ?_
                                  rotate_left
                                  · intro w'
                                    go_simp
                                    with_reducible rfl
                                  rotate_left
                                  · simp only [Act.put, List.setIfInBounds_toArray, List.set_cons_zero, List.set_cons_succ, i64_w, i32_w]
                                    rfl
                                  refine pure_ (i := 11) (N := some 47) (v := ?_) (a' := ?_) #[true, true, true, true, true, false, true, true, true, true, true, true, false, false, false, false, false, false, false, false] rfl rfl (any_of HT_.out (by kernel_rfl)) (fun _ _ _ h => h) (Or.inl ⟨by rfl, ?_⟩) ?_ ?_
                                  rotate_left
                                  · intro w'
                                    go_simp
                                    with_reducible rfl
                                  rotate_left
                                  · simp only [Act.put, List.setIfInBounds_toArray, List.set_cons_zero, List.set_cons_succ, i64_w, i32_w]
                                    rfl
                                  refine take_ (i := 5) (N := some 41) (v := ?_) (a' := ?_) #[true, true, true, true, true, true, true, true, true, true, true, true, false, false, false, false, false, false, false, false] rfl rfl (take_ofW HT_.out HW_.out (by kernel_rfl)) (fun _ _ _ h => h) (Or.inl ⟨by rfl, ?_⟩) hHeld ?_ ?_
                                  rotate_left
                                  · rintro w' ⟨s0, s1, s2, s3⟩
                                    go_simp
                                    with_reducible rfl
                                  rotate_left
                                  · simp only [Act.put, List.setIfInBounds_toArray, List.set_cons_zero, List.set_cons_succ, i64_w, i32_w]
                                    rfl
                                  refine take_ (i := 12) (N := some 48) (v := ?_) (a' := ?_) #[true, true, true, true, true, true, true, true, true, true, true, true, true, false, false, false, false, false, false, false] rfl rfl (take_ofW HT_.out HW_.out (by kernel_rfl)) (fun _ _ _ h => h) (Or.inl ⟨by rfl, ?_⟩) hHeld ?_ ?_
                                  rotate_left
                                  · rintro w' ⟨s0, s1, s2, s3⟩
                                    go_simp
                                    with_reducible rfl
                                  rotate_left
                                  · simp only [Act.put, List.setIfInBounds_toArray, List.set_cons_zero, List.set_cons_succ, i64_w, i32_w]
                                    rfl
                                  refine pure_ (i := 13) (N := some 49) (v := ?_) (a' := ?_) #[true, true, true, true, true, true, true, true, true, true, true, true, true, true, false, false, false, false, false, false] rfl rfl (any_of HT_.out (by kernel_rfl)) (fun _ _ _ h => h) (Or.inl ⟨by rfl, ?_⟩) ?_ ?_
                                  rotate_left
                                  · intro w'
                                    go_simp
                                    with_reducible rfl
                                  rotate_left
                                  · simp only [Act.put, List.setIfInBounds_toArray, List.set_cons_zero, List.set_cons_succ, i64_w, i32_w]
                                    rfl
                                  refine pure_ (i := 14) (N := some 50) (v := ?_) (a' := ?_) #[true, true, true, true, true, true, true, true, true, true, true, true, true, true, true, false, false, false, false, false] rfl rfl (any_of HT_.out (by kernel_rfl)) (fun _ _ _ h => h) (Or.inl ⟨by rfl, ?_⟩) ?_ ?_
                                  rotate_left
                                  · intro w'
                                    go_simp
                                    with_reducible rfl
                                  rotate_left
                                  · simp only [Act.put, List.setIfInBounds_toArray, List.set_cons_zero, List.set_cons_succ, i64_w, i32_w]
                                    rfl
                                  refine pure_ (i := 15) (N := some 51) (v := ?_) (a' := ?_) #[true, true, true, true, true, true, true, true, true, true, true, true, true, true, true, true, false, false, false, false] rfl rfl (any_of HT_.out (by kernel_rfl)) (fun _ _ _ h => h) (Or.inl ⟨by rfl, ?_⟩) ?_ ?_
                                  rotate_left
                                  · intro w'
                                    go_simp
                                    with_reducible rfl
                                  rotate_left
                                  · simp only [Act.put, List.setIfInBounds_toArray, List.set_cons_zero, List.set_cons_succ, i64_w, i32_w]
                                    rfl
                                  refine take_ (i := 16) (N := some 52) (v := ?_) (a' := ?_) #[true, true, true, true, true, true, true, true, true, true, true, true, true, true, true, true, true, false, false, false] rfl rfl (take_ofW HT_.out HW_.out (by kernel_rfl)) (fun _ _ _ h => h) (Or.inl ⟨by rfl, ?_⟩) hHeld ?_ ?_
                                  rotate_left
                                  · rintro w' ⟨s0, s1, s2, s3⟩
                                    go_simp
                                    with_reducible rfl
                                  rotate_left
                                  · simp only [Act.put, List.setIfInBounds_toArray, List.set_cons_zero, List.set_cons_succ, i64_w, i32_w]
                                    rfl
                                  refine pure_ (i := 17) (N := some 53) (v := ?_) (a' := ?_) #[true, true, true, true, true, true, true, true, true, true, true, true, true, true, true, true, true, true, false, false] rfl rfl (any_of HT_.out (by kernel_rfl)) (fun _ _ _ h => h) (Or.inl ⟨by rfl, ?_⟩) ?_ ?_
                                  rotate_left
                                  · intro w'
                                    go_simp
                                    with_reducible rfl
                                  rotate_left
                                  · simp only [Act.put, List.setIfInBounds_toArray, List.set_cons_zero, List.set_cons_succ, i64_w, i32_w]
                                    rfl
                                  refine pure_ (i := 18) (N := some 54) (v := ?_) (a' := ?_) #[true, true, true, true, true, true, true, true, true, true, true, true, true, true, true, true, true, true, true, false] rfl rfl (any_of HT_.out (by kernel_rfl)) (fun _ _ _ h => h) (Or.inl ⟨by rfl, ?_⟩) ?_ ?_
                                  rotate_left
                                  · intro w'
                                    go_simp
                                    with_reducible rfl
                                  rotate_left
                                  · simp only [Act.put, List.setIfInBounds_toArray, List.set_cons_zero, List.set_cons_succ, i64_w, i32_w]
                                    rfl
                                  refine last_ (i := 19) (N := none) #[true, true, true, true, true, true, true, true, true, true, true, true, true, true, true, true, true, true, true, true] rfl rfl (one_of HT_.out (by kernel_rfl)) (by decide) (fun K hK => ?_)
                                  refine skip_ (w1 := ?_) (by rfl) rfl ?_ ?_
                                  rotate_left
                                  · go_simp
                                    rfl
                                  refine hK.out _ _ ?_
                                  clear hK K
                                  refine done_ (done_of HT_.out (by kernel_rfl)) ?_
                                  try go_wp2
                                  (try simp only [← hl6_2])
                                  go_roundg k2
                                  case measure => have := HK1.out; have := HK2.out; omega
                                  case rel => exact ⟨(y161), (wrap64 (x8_2 + 1)), (by first | rfl | (simp; done) | (simp [*]; done)), H', ⟨by have := HK1.out; have := HK2.out; omega⟩, ⟨by (try simp only [hl6_1]); (try simp only [hl6_2]); (with_reducible repeat (first | apply Kd.R_alloc | apply Kd.R_drewN | apply Kd.R_drew)); exact HQ26.out⟩, ⟨by repeat (first | (with_reducible first | exact HB.out | apply below_alloc | apply pw_below_drewN | apply below_drew1 | refine below_set ?_ GB8.out) | exact HB.out)⟩⟩
                                · rw [if_neg c22] at H
                                  exact absurd H (by simp)
                              · rw [if_neg c21] at H
                                exact absurd H (by simp)
                            · rw [if_neg c19] at H
                              exact absurd H (by simp)
                          · rw [if_neg c18] at H
                            exact absurd H (by simp)
                        · replace c17 := Bool.eq_false_iff.mpr c17
                          subst c17
                          have H1 : (spec_l6fWays.l1 k2 l0 l1 x6_2 x7_1 (wrap64 (x8_2 + 1))) = some r := by rw [if_neg (show ¬ (false = true) by decide)] at H; exact H
                          clear H
                          have H := H1
                          clear H1
                          have H' := Aside0.mk H
                          clear H
                          have p156 : 0 ≤ (x8_2 : Int) := of_decide_eq_true (by first | (with_reducible assumption) | assumption)
                          have q156 : x8_2 < (l0.length : Int) := of_decide_eq_true (by first | (with_reducible assumption) | assumption)
                          obtain ⟨ad156, A156_0, c156_0, e156, hx156_0, hx156_1, hl156_0, hi156_0⟩ := at_T55 HR0.out x8_2 p156 q156
                          cases e156
                          replace hx156_0 := (HB.out.cell (World.block_lt_of_cell? w _ hx156_0)).trans hx156_0
                          replace hx156_1 := (HB.out.cell (World.block_lt_of_cell? w _ hx156_1)).trans hx156_1
                          have HR156_0 := Aside0.mk hi156_0
                          have HC156_0 := Aside0.mk hl156_0
                          clear hi156_0 hl156_0
                          replace p156 := eq_true p156
                          replace q156 := eq_true q156
                          go_wp2_with (first | ((with_reducible refine gate_callee (f := 83) rfl ?_); refine goesL_ (some 35) rfl rfl Try.func83 (by kernel_rfl) rfl #[.agg #[.slice A156_0 ((rd_T55 l0 x8_2).f0).length c156_0, .int .i64 ((rd_T55 l0 x8_2).f1)], .slice A1 l1.length c1, .int .i64 x7_1] rfl (by (try simp only [List.map_toArray, List.map_cons, List.map_nil]); first | done | rfl | (simp only [List.length_drop, List.length_take]; rfl)) ?_; (with_reducible refine (spec_l6fAt.calls k2 _ _ ((rd_T55 l0 x8_2).f0) ((rd_T55 l0 x8_2).f1) _ _ l1 x7_1 false _ ?side1 ?side2 ?side3 ?side4 A16.out).mono ?_); (case side1 => repeat (first | exact (Kd.C_below HR156_0.out HB.out) | (with_reducible refine Kd.C_alloc ?_ _) | (with_reducible refine Kd.C_drewN ?_ _) | (with_reducible refine Kd.C_drew ?_))); (case side2 => exact HC156_0.out); (case side3 => repeat (first | exact (Kd.C_below HR1.out HB.out) | (with_reducible refine Kd.C_alloc ?_ _) | (with_reducible refine Kd.C_drewN ?_ _) | (with_reducible refine Kd.C_drew ?_))); (case side4 => exact HC1.out); rintro e w27 ⟨rfl, hb⟩; refine ⟨_, rfl, ?_⟩; have n0_ := Aside0.mk (Kd.R_below (by (with_reducible repeat (first | apply Kd.R_alloc | apply Kd.R_drewN | apply Kd.R_drew)); exact HO_6.out) hb); have n1_ := Aside0.mk (below_step (by repeat (first | (with_reducible first | exact HB.out | apply below_alloc | apply pw_below_drewN | apply below_drew1) | exact HB.out)) hb); clear HO_6; clear HB; have HO_6 := n0_; have HB := n1_; clear n0_ n1_; (try clear hb); (try clear hb2); (try clear hk); (try clear hi)))
                          (try simp only [← hl6_2])
                          go_roundg k2
                          case measure => have := HK1.out; have := HK2.out; omega
                          case rel => exact ⟨(x6_2), (wrap64 (x8_2 + 1)), (by first | rfl | (simp; done) | (simp [*]; done)), H', ⟨by have := HK1.out; have := HK2.out; omega⟩, ⟨by (try simp only [hl6_1]); (try simp only [hl6_2]); (with_reducible repeat (first | apply Kd.R_alloc | apply Kd.R_drewN | apply Kd.R_drew)); exact HO_6.out⟩, ⟨by repeat (first | (with_reducible first | exact HB.out | apply below_alloc | apply pw_below_drewN | apply below_drew1) | exact HB.out)⟩⟩
                      · rw [if_neg c15] at H
                        exact absurd H (by simp)
                    · rw [if_neg c14] at H
                      have c14b0 : decide (x8_2 < (l0.length : Int)) = false := decide_eq_false c14
                      clear c14
                      have H' := Aside0.mk H
                      clear H
                      go_wp2
                      (try simp only [← hl6_1, ← hl6_2])
                      go_roundg k2
                      case measure => have := HK1.out; have := HK2.out; omega
                      case rel => exact ⟨(x6_2), (wrap64 (x7_1 - 1)), (by first | rfl | (simp; done) | (simp [*]; done)), H', ⟨by have := HK1.out; have := HK2.out; omega⟩, ⟨by (try simp only [hl6_1]); (try simp only [hl6_2]); (with_reducible repeat (first | apply Kd.R_alloc | apply Kd.R_drewN | apply Kd.R_drew)); exact HO_6.out⟩, ⟨by repeat (first | (with_reducible first | exact HB.out | apply below_alloc | apply pw_below_drewN | apply below_drew1) | exact HB.out)⟩⟩
              · rw [if_neg c13] at H
                have c13b0 : decide (0 ≤ x7_1) = false := decide_eq_false c13
                clear c13
                obtain rfl := Option.some.inj H
                go_wp2
                go_ret
                exact ⟨_, by first | rfl | (simp [errW_none, errW_some] <;> rfl) | (simp only [← hji3]; first | rfl | (simp [errW_none, errW_some] <;> rfl)) | (simp [*, errW_none, errW_some] <;> rfl), by (with_reducible repeat (first | apply Kd.R_alloc | apply Kd.R_drewN | apply Kd.R_drew)); exact HO_6.out, by repeat (first | (with_reducible first | exact HB.out | apply below_alloc | apply pw_below_drewN | apply below_drew1) | exact HB.out)⟩
        · rw [if_neg c7] at H
          exact absurd H (by simp)
      · rw [if_neg c6] at H
        exact absurd H (by simp)
    · rw [if_neg c5] at H
      exact absurd H (by simp)
  · rw [if_neg c4] at H
    exact absurd H (by simp)

theorem spec_l2Same_ev (a b : List Int) (hl : a.length ≤ 1000000000000) : Ev (fun k => spec_l2Same.f k a b) (a == b) := by
  unfold spec_l2Same.f
  by_cases hlen : (a.length : Int) = (b.length : Int)
  · refine Ev.pos hlen ?_
    have := Ev.over (0 : Int) a (fun k (_ : Unit) i => spec_l2Same.l0 k a b i) (fun _ rest => rest == b.drop (a.length - rest.length)) (fun _ _ => True) (by
      intro s _
      refine Ev.succ ?_
      simp only [spec_l2Same.l0]
      refine Ev.eqr (Ev.neg (by omega) (Ev.now _)) ?_
      have : b.drop a.length = [] := List.drop_eq_nil_of_le (by omega)
      simp [this]) (by
      intro s i rest _ hi hdr ih
      have hrl : rest.length + 1 + i = a.length := by
        have := congrArg List.length hdr
        simp at this; omega
      refine Ev.succ ?_
      simp only [spec_l2Same.l0]
      rw [w64 (by omega) (by omega)]
      refine Ev.pos (by omega) (Ev.pos (by omega) (Ev.pos (by omega) ?_))
      have hra : rd a (i : Int) = a.getD i 0 := rfl
      have hrb : rd b (i : Int) = b.getD i 0 := rfl
      rw [hra, hrb]
      have e2 : a.length - (a.getD i 0 :: rest).length = i := by simp; omega
      have e1 : a.length - rest.length = i + 1 := by omega
      have e3 : b.drop i = b.getD i 0 :: b.drop (i + 1) := by
        rw [List.drop_eq_getElem_cons (by omega), List.getD_eq_getElem?_getD, List.getElem?_eq_getElem (by omega)]; rfl
      rw [e2, e3]
      have ih := ih () trivial
      rw [e1] at ih
      by_cases h : a.getD i 0 = b.getD i 0
      · refine Ev.pos h (Ev.eqr ih ?_)
        rw [h, Bool.eq_iff_iff]; simp
      · refine Ev.neg h (Ev.eqr (Ev.now _) ?_)
        symm; rw [beq_eq_false_iff_ne]; intro hc; exact h (List.cons.inj hc).1) 0 () (Nat.zero_le _) trivial
    simpa using this
  · refine Ev.neg hlen (Ev.eqr (Ev.now _) ?_)
    symm; rw [beq_eq_false_iff_ne]; rintro rfl; exact hlen rfl
theorem spec_l6fOne_ev (x : S55) (hl : x.f0.length ≤ 1000000000000) : Ev (fun k => spec_l6fOne.f k x.f0 x.f1) (fOk x) := by
  unfold spec_l6fOne.f
  have := Ev.over (0 : Int) x.f0 (fun k (_ : Unit) i => spec_l6fOne.l0 k i x.f0 x.f1) (fun _ rest => rest.all (inR (-7) 7) && (decide (1 ≤ (x.f0.length : Int) ∧ (x.f0.length : Int) ≤ 5) && decide (1 ≤ x.f1 ∧ x.f1 ≤ 9))) (fun _ _ => True) (by
    intro s _
    refine Ev.succ ?_
    simp only [spec_l6fOne.l0, List.all_nil, Bool.true_and]
    refine Ev.neg (by omega) (Ev.conb (spec_l6In_eq _ _ _) ?_)
    by_cases h : 1 ≤ (x.f0.length : Int) ∧ (x.f0.length : Int) ≤ 5
    · rw [decide_eq_true h]
      exact Ev.pos rfl (Ev.conb (spec_l6In_eq _ _ _) (Ev.now _))
    · rw [decide_eq_false h]
      exact Ev.neg (by simp) (Ev.now _)) (by
    intro s i rest _ hi _ ih
    refine Ev.succ ?_
    simp only [spec_l6fOne.l0, List.all_cons]
    rw [w64 (by omega) (by omega)]
    refine Ev.pos (by omega) (Ev.pos (by omega) (Ev.conb (spec_l6In_eq _ _ _) ?_))
    have hrd : rd x.f0 (i : Int) = x.f0.getD i 0 := rfl
    rw [hrd]
    show Ev _ ((decide (-7 ≤ x.f0.getD i 0 ∧ x.f0.getD i 0 ≤ 7) && _) && _)
    by_cases h : -7 ≤ x.f0.getD i 0 ∧ x.f0.getD i 0 ≤ 7
    · rw [decide_eq_true h]
      exact Ev.pos rfl (ih () trivial)
    · rw [decide_eq_false h]
      exact Ev.neg (by simp) (Ev.now _)) 0 () (Nat.zero_le _) trivial
  refine Ev.eqr (by simpa using this) ?_
  unfold fOk
  cases x.f0.all (inR (-7) 7) <;> simp
theorem spec_FormulasValid_ev (l : List S55) (hll : l.length ≤ 1000000000000) (hl : ∀ x ∈ l, x.f0.length ≤ 1000000000000) : Ev (fun k => spec_FormulasValid.f k l) (fsOk l) := by
  unfold spec_FormulasValid.f
  have := Ev.over z55 l (fun k (_ : Unit) i => spec_FormulasValid.l0 k l i) (fun _ rest => goF (l.take (l.length - rest.length)) rest && decide ((l.length : Int) ≤ 8)) (fun _ _ => True) (by
    intro s _
    refine Ev.succ ?_
    simp only [spec_FormulasValid.l0, goF, Bool.true_and]
    exact Ev.neg (by omega) (Ev.now _)) (by
    intro s i rest _ hi hdr ih
    have hrl : rest.length + 1 + i = l.length := by
      have := congrArg List.length hdr
      simp at this; omega
    have hm : l.getD i z55 ∈ l := by
      rw [List.getD_eq_getElem?_getD, List.getElem?_eq_getElem hi]; exact List.getElem_mem hi
    have hx := hl _ hm
    refine Ev.succ ?_
    simp only [spec_FormulasValid.l0]
    refine Ev.pos (by omega) (Ev.pos (by omega) ?_)
    have hrd : rd_T55 l (i : Int) = l.getD i z55 := rfl
    have e2 : l.length - (l.getD i z55 :: rest).length = i := by simp; omega
    have e1 : l.length - rest.length = i + 1 := by omega
    have ih := ih () trivial
    rw [e1, take_rd l i hi] at ih
    rw [e2]
    rw [← hrd] at hx ih ⊢
    simp only [goF]
    refine Ev.bind (spec_l6fOne_ev _ hx) ?_
    cases hf : fOk (rd_T55 l (i : Int))
    · exact Ev.neg (by simp) (Ev.now _)
    refine Ev.pos rfl ?_
    simp only [Bool.true_and]
    have htl : (l.take i).length = i := by simp; omega
    have inner := Ev.over z55 (l.take i) (fun k (_ : Unit) j => spec_FormulasValid.l1 k l i j) (fun _ rest' => (!(rest'.any (fun y => y.f0 == (rd_T55 l (i : Int)).f0)) && goF (l.take i ++ [rd_T55 l (i : Int)]) rest) && decide ((l.length : Int) ≤ 8)) (fun _ _ => True) (by
      intro s _
      refine Ev.succ ?_
      simp only [spec_FormulasValid.l1]
      refine Ev.neg (by omega) ?_
      rw [w64 (by omega) (by omega)]
      simpa using ih) (by
      intro s j rest' _ hj _ ih'
      have hjm : (l.take i).getD j z55 ∈ l := by
        rw [List.getD_eq_getElem?_getD, List.getElem?_eq_getElem hj]; exact List.mem_of_mem_take (List.getElem_mem hj)
      have hxj := hl _ hjm
      refine Ev.succ ?_
      simp only [spec_FormulasValid.l1]
      refine Ev.pos (by omega) (Ev.pos (by omega) (Ev.pos (by omega) (Ev.pos (by omega) (Ev.pos (by omega) ?_))))
      have hrd' : rd_T55 l (j : Int) = (l.take i).getD j z55 := by
        rw [List.getD_eq_getElem?_getD, List.getElem?_take, if_pos (by omega)]
        simp [rd_T55]
      rw [hrd']
      generalize (l.take i).getD j z55 = y at hxj
      refine Ev.bind (spec_l2Same_ev _ _ hx) ?_
      simp only [List.any_cons]
      have hcm : (y.f0 == (rd_T55 l (i : Int)).f0) = ((rd_T55 l (i : Int)).f0 == y.f0) := by rw [Bool.eq_iff_iff, beq_iff_eq, beq_iff_eq]; exact eq_comm
      rw [hcm]
      cases (rd_T55 l (i : Int)).f0 == y.f0
      · refine Ev.neg (by simp) ?_
        rw [w64 (by omega) (by omega)]
        simpa using ih' () trivial
      · exact Ev.pos rfl (Ev.now _)) 0 () (Nat.zero_le _) trivial
    simpa using inner) 0 () (Nat.zero_le _) trivial
  refine Ev.eqr (by simpa using this) ?_
  unfold fsOk
  rw [Bool.and_comm]

/-! the reference's counting of readings -/
theorem spec_l6fAt_ev (f : S55) (S : List Int) (i : Nat) (hi : i ≤ S.length) (hS : S.length ≤ 1000000) (hf : f.f0.length ≤ 1000000) : Ev (fun k => spec_l6fAt.f k f.f0 f.f1 S (i : Int)) (isPre f.f0 (S.drop i)) := by
  unfold spec_l6fAt.f isPre
  rw [w64 (by omega) (by omega)]
  by_cases h : (i : Int) + (f.f0.length : Int) ≤ (S.length : Int)
  · rw [decide_eq_true (by rw [List.length_drop]; omega : f.f0.length ≤ (S.drop i).length), Bool.true_and]
    refine Ev.pos h (Ev.pos (by omega) (Ev.pos (by omega) ?_))
    have e : ((S.take ((i : Int) + (f.f0.length : Int)).toNat).drop (i : Int).toNat) = (S.drop i).take f.f0.length := by
      have e1 : ((i : Int) + (f.f0.length : Int)).toNat = i + f.f0.length := by omega
      rw [e1, Int.toNat_natCast, List.drop_take]
      congr 1; omega
    rw [e]
    exact Ev.bind (spec_l2Same_ev _ _ (by rw [List.length_take, List.length_drop]; omega)) (Ev.now _)
  · rw [decide_eq_false (by rw [List.length_drop]; omega : ¬ f.f0.length ≤ (S.drop i).length)]
    exact Ev.neg h (Ev.now _)
theorem spec_l6fSteps_ev (S : List Int) (hS : S.length ≤ 1000000000000) : Ev (fun k => spec_l6fSteps.f k S) (decide (S.length ≤ 23) && S.all (inR (-20) 20)) := by
  unfold spec_l6fSteps.f
  have := Ev.over (0 : Int) S (fun k (_ : Unit) i => spec_l6fSteps.l0 k S i) (fun _ rest => rest.all (inR (-20) 20) && decide (S.length ≤ 23)) (fun _ _ => True) (by
    intro s _
    refine Ev.succ ?_
    simp only [spec_l6fSteps.l0]
    refine Ev.neg (by omega) (Ev.eqr (Ev.now _) ?_)
    simp only [List.all_nil, Bool.true_and]
    rw [Bool.eq_iff_iff]; simp; omega) (by
    intro s i rest _ hi _ ih
    refine Ev.succ ?_
    simp only [spec_l6fSteps.l0, List.all_cons]
    rw [w64 (by omega) (by omega)]
    refine Ev.pos (by omega) (Ev.pos (by omega) (Ev.conb (spec_l6In_eq _ _ _) ?_))
    have hrd : rd S (i : Int) = S.getD i 0 := rfl
    rw [hrd]
    show Ev _ ((decide (-20 ≤ S.getD i 0 ∧ S.getD i 0 ≤ 20) && _) && _)
    by_cases h : -20 ≤ S.getD i 0 ∧ S.getD i 0 ≤ 20
    · rw [decide_eq_true h]
      exact Ev.pos rfl (ih () trivial)
    · rw [decide_eq_false h]
      exact Ev.neg (by simp) (Ev.now _)) 0 () (Nat.zero_le _) trivial
  refine Ev.eqr (by simpa using this) ?_
  rw [Bool.and_comm]
theorem spec_l6fOk_ev (L : List S55) (S : List Int) (hll : L.length ≤ 1000000000000) (hl : ∀ x ∈ L, x.f0.length ≤ 1000000000000) (hS : S.length ≤ 1000000000000) : Ev (fun k => spec_l6fOk.f k L S) (okR L S) := by
  unfold spec_l6fOk.f okR
  refine Ev.bind (spec_FormulasValid_ev L hll hl) ?_
  cases fsOk L
  · exact Ev.neg (by simp) (Ev.now _)
  · refine Ev.pos rfl ?_
    rw [Bool.true_and]
    exact Ev.bind (spec_l6fSteps_ev S hS) (Ev.now _)

theorem getD_set_self {y : List Int} {i : Nat} (v : Int) (h : i < y.length) : (y.set i v).getD i 0 = v := by
  rw [List.getD_eq_getElem?_getD, List.getElem?_set_self h]; rfl
theorem getD_set_other {y : List Int} {i j : Nat} (v : Int) (h : i ≠ j) : (y.set i v).getD j 0 = y.getD j 0 := by
  rw [List.getD_eq_getElem?_getD, List.getElem?_set_ne h, ← List.getD_eq_getElem?_getD]
theorem ext_getD {a b : List Int} (h : a.length = b.length) (h' : ∀ j, j < a.length → a.getD j 0 = b.getD j 0) : a = b := by
  apply List.ext_getElem h
  intro j h1 h2
  have := h' j h1
  rw [List.getD_eq_getElem?_getD, List.getD_eq_getElem?_getD, List.getElem?_eq_getElem h1, List.getElem?_eq_getElem h2] at this
  exact this

/-! how much a reader finds at most -/
theorem goF_pw : ∀ {l acc : List S55}, goF acc l = true → (∀ a ∈ acc, ∀ b ∈ l, a.f0 ≠ b.f0) ∧ l.Pairwise (fun a b => a.f0 ≠ b.f0)
  | [], acc, _ => ⟨by simp, List.Pairwise.nil⟩
  | x :: xs, acc, h => by
    simp only [goF, Bool.and_eq_true, Bool.not_eq_true', List.any_eq_false, beq_iff_eq] at h
    obtain ⟨_, h1, h2⟩ := h
    obtain ⟨h3, h4⟩ := goF_pw h2
    refine ⟨fun a ha b hb => ?_, List.pairwise_cons.2 ⟨fun b hb => h3 x (by simp) b hb, h4⟩⟩
    rcases List.mem_cons.1 hb with rfl | hb
    · exact h1 a ha
    · exact h3 a (List.mem_append_left _ ha) b hb
def sumB (s : List Int) : List S55 → Nat
  | [] => 0
  | f :: fs => (if isPre f.f0 s = true then 2 ^ (s.length - f.f0.length) else 0) + sumB s fs
theorem sum_pow : ∀ (n : Nat) (ks : List Nat), ks.Nodup → (∀ k ∈ ks, 1 ≤ k ∧ k ≤ n) → (ks.map (fun k => 2 ^ (n - k))).sum + 1 ≤ 2 ^ n
  | 0, ks, _, h => by
    cases ks with
    | nil => simp
    | cons k ks => have := h k (by simp); omega
  | n + 1, ks, hn, h => by
    have key : ∀ l : List Nat, (∀ k ∈ l, k ≤ n) → (l.map (fun k => 2 ^ (n + 1 - k))).sum = 2 * (l.map (fun k => 2 ^ (n - k))).sum := by
      intro l
      induction l with
      | nil => intro _; rfl
      | cons k l ih =>
        intro hl
        have h1 := hl k (by simp)
        have e : n + 1 - k = (n - k) + 1 := by omega
        simp only [List.map_cons, List.sum_cons]
        rw [ih (fun k hk => hl k (by simp [hk])), e, Nat.pow_succ]; omega
    by_cases hm : n + 1 ∈ ks
    · have hp := List.perm_cons_erase hm
      have h1 := sum_pow n (ks.erase (n + 1)) (hn.erase _) (fun k hk => by
        have h2 := h k (List.mem_of_mem_erase hk)
        have : k ≠ n + 1 := fun e => by subst e; exact (List.Nodup.not_mem_erase hn) hk
        omega)
      have h2 := (hp.map (fun k => 2 ^ (n + 1 - k))).sum_nat
      rw [h2, List.map_cons, List.sum_cons, key _ (fun k hk => by
        have h2 := h k (List.mem_of_mem_erase hk)
        have : k ≠ n + 1 := fun e => by subst e; exact (List.Nodup.not_mem_erase hn) hk
        omega), Nat.sub_self, Nat.pow_succ]
      omega
    · rw [key _ (fun k hk => by have := h k hk; have : k ≠ n + 1 := fun e => hm (e ▸ hk); omega)]
      have h1 := sum_pow n ks hn (fun k hk => by have := h k hk; have : k ≠ n + 1 := fun e => hm (e ▸ hk); omega)
      rw [Nat.pow_succ]; omega
theorem isPre_take {p s : List Int} (h : isPre p s = true) : s.take p.length = p := by
  unfold isPre at h; simp at h; exact h.2
theorem sumB_eq (s : List Int) : ∀ L : List S55, sumB s L = (((L.filter (fun f => isPre f.f0 s)).map (fun f => f.f0.length)).map (fun k => 2 ^ (s.length - k))).sum
  | [] => rfl
  | f :: fs => by
    simp only [sumB]
    rw [sumB_eq s fs, List.filter_cons]
    cases isPre f.f0 s <;> simp
theorem sumB_le {s : List Int} {L : List S55} (hL : ∀ f ∈ L, 1 ≤ f.f0.length) (hp : L.Pairwise (fun a b => a.f0 ≠ b.f0)) : sumB s L ≤ 2 ^ s.length := by
  rw [sumB_eq]
  have h1 : ((L.filter (fun f => isPre f.f0 s)).map (fun f => f.f0.length)).Nodup := by
    rw [List.nodup_iff_pairwise_ne, List.pairwise_map]
    have h2 := hp.filter (fun f => isPre f.f0 s)
    refine List.Pairwise.imp_of_mem (fun {a b} ha hb h => ?_) h2
    intro e
    have h3 := isPre_take (List.mem_filter.1 ha).2
    have h4 := isPre_take (List.mem_filter.1 hb).2
    rw [e] at h3
    exact h (h3.symm.trans h4)
  have := sum_pow s.length _ h1 (fun k hk => by
    obtain ⟨f, hf, rfl⟩ := List.mem_map.1 hk
    obtain ⟨hf1, hf2⟩ := List.mem_filter.1 hf
    exact ⟨hL f hf1, isPre_len hf2⟩)
  omega
/-- A least sum, -1 for none. -/
def lA (c : S55 → Int) (g : List Int → Int) (s : List Int) : List S55 → Int → Int
  | [], a => a
  | f :: fs, a => if isPre f.f0 s = true then (if g (s.drop f.f0.length) < 0 then lA c g s fs a else lA c g s fs (if a < 0 ∨ g (s.drop f.f0.length) + c f < a then g (s.drop f.f0.length) + c f else a)) else lA c g s fs a
def oW (o : OutC) : Int := if o.f0 = 0 then -1 else o.f1
def oF (o : OutC) : Int := if o.f0 = 0 then -1 else o.f2
structure OBd (n : Nat) (o : OutC) : Prop where
  lo : 0 ≤ o.f0
  hi : o.f0 ≤ ((2 ^ n : Nat) : Int)
  w0 : o.f0 ≠ 0 → 0 ≤ o.f1
  w1 : o.f0 ≠ 0 → o.f1 ≤ 9 * (n : Int)
  f0 : o.f0 ≠ 0 → 0 ≤ o.f2
  f1 : o.f0 ≠ 0 → o.f2 ≤ (n : Int)
theorem OBd.oW {n : Nat} {o : OutC} (h : OBd n o) : -1 ≤ Pure.oW o ∧ Pure.oW o ≤ 9 * (n : Int) := by
  unfold Pure.oW
  by_cases hz : o.f0 = 0
  · rw [if_pos hz]; omega
  · rw [if_neg hz]; have := h.w0 hz; have := h.w1 hz; omega
theorem OBd.oF {n : Nat} {o : OutC} (h : OBd n o) : -1 ≤ Pure.oF o ∧ Pure.oF o ≤ (n : Int) := by
  unfold Pure.oF
  by_cases hz : o.f0 = 0
  · rw [if_pos hz]; omega
  · rw [if_neg hz]; have := h.f0 hz; have := h.f1 hz; omega
theorem outW_plain {n m : Nat} {o r : OutC} {f : S55} (hn : n ≤ 23) (hm : m + f.f0.length ≤ n) (hf : 1 ≤ f.f0.length) (hw : 1 ≤ f.f1 ∧ f.f1 ≤ 9) (h1 : OBd n o) (h2 : OBd m r) (hr : r.f0 ≠ 0) (hs : o.f0 + r.f0 ≤ ((2 ^ n : Nat) : Int)) :
    OBd n (outW o f r) ∧ (outW o f r).f0 = o.f0 + r.f0 ∧ oW (outW o f r) = (if oW o < 0 ∨ oW r + f.f1 < oW o then oW r + f.f1 else oW o) ∧ oF (outW o f r) = (if oF o < 0 ∨ oF r + 1 < oF o then oF r + 1 else oF o) := by
  have hp : (2 : Nat) ^ n ≤ 2 ^ 23 := Nat.pow_le_pow_right (by omega) hn
  have hp' : (2 : Nat) ^ 23 = 8388608 := rfl
  obtain ⟨a1, a2, a3, a4, a5, a6⟩ := h1
  obtain ⟨b1, b2, b3, b4, b5, b6⟩ := h2
  have b3 := b3 hr; have b4 := b4 hr; have b5 := b5 hr; have b6 := b6 hr
  have hne : o.f0 + r.f0 ≠ 0 := by omega
  unfold outW
  by_cases h : o.f0 > 0
  · have hz : o.f0 ≠ 0 := by omega
    have a3 := a3 hz; have a4 := a4 hz; have a5 := a5 hz; have a6 := a6 hz
    rw [if_pos h, w64 (x := o.f0 + r.f0) (by omega) (by omega), w64 (x := f.f1 + r.f1) (by omega) (by omega), w64 (x := 1 + r.f2) (by omega) (by omega)]
    have m1 := mn_le (f.f1 + r.f1) o.f1
    have m2 := mn_le (1 + r.f2) o.f2
    refine ⟨⟨by simp only []; omega, hs, fun _ => by simp only []; omega, fun _ => by simp only []; omega, fun _ => by simp only []; omega, fun _ => by simp only []; omega⟩, rfl, ?_, ?_⟩
    · unfold oW
      simp only []
      rw [if_neg hne, if_neg hz, if_neg hr]
      by_cases hc : r.f1 + f.f1 < o.f1
      · rw [if_pos (.inr hc)]; omega
      · rw [if_neg (by omega)]; omega
    · unfold oF
      simp only []
      rw [if_neg hne, if_neg hz, if_neg hr]
      by_cases hc : r.f2 + 1 < o.f2
      · rw [if_pos (.inr hc)]; omega
      · rw [if_neg (by omega)]; omega
  · have hz : o.f0 = 0 := by omega
    rw [if_neg h, w64 (x := o.f0 + r.f0) (by omega) (by omega), w64 (x := f.f1 + r.f1) (by omega) (by omega), w64 (x := 1 + r.f2) (by omega) (by omega)]
    refine ⟨⟨by simp only []; omega, hs, fun _ => by simp only []; omega, fun _ => by simp only []; omega, fun _ => by simp only []; omega, fun _ => by simp only []; omega⟩, rfl, ?_, ?_⟩
    · unfold oW
      simp only []
      rw [if_neg hne, if_pos hz, if_neg hr, if_pos (.inl (by omega))]; omega
    · unfold oF
      simp only []
      rw [if_neg hne, if_pos hz, if_neg hr, if_pos (.inl (by omega))]; omega
theorem rdA_plain {rec : List Int → OutC} {s : List Int} (hs : s.length ≤ 23) (hrec : ∀ k, 1 ≤ k → k ≤ s.length → OBd (s.length - k) (rec (s.drop k))) :
    ∀ (L : List S55) (acc : OutC), (∀ f ∈ L, 1 ≤ f.f0.length ∧ 1 ≤ f.f1 ∧ f.f1 ≤ 9) → OBd s.length acc → acc.f0 + (sumB s L : Int) ≤ ((2 ^ s.length : Nat) : Int) →
      OBd s.length (rdA rec s L acc) ∧ oW (rdA rec s L acc) = lA (fun f => f.f1) (fun t => oW (rec t)) s L (oW acc) ∧ oF (rdA rec s L acc) = lA (fun _ => 1) (fun t => oF (rec t)) s L (oF acc)
  | [], acc, _, h, _ => ⟨h, rfl, rfl⟩
  | f :: fs, acc, hL, h, hb => by
    have hf := hL f (by simp)
    have hL' := fun g hg => hL g (List.mem_cons_of_mem _ hg)
    simp only [rdA, lA, sumB] at hb ⊢
    by_cases hp : isPre f.f0 s = true
    · rw [if_pos hp] at hb
      rw [if_pos hp, if_pos hp, if_pos hp]
      have hl := isPre_len hp
      have hr := hrec f.f0.length hf.1 hl
      generalize rec (s.drop f.f0.length) = r at hr ⊢
      rw [Int.natCast_add] at hb
      have hbr := hr.hi
      by_cases hz : r.f0 = 0
      · have e1 : oW r = -1 := if_pos hz
        have e2 : oF r = -1 := if_pos hz
        rw [if_pos hz, if_pos (by rw [e1]; omega), if_pos (by rw [e2]; omega)]
        have := hr.lo
        exact rdA_plain hs hrec fs acc hL' h (by omega)
      · have e1 : ¬ oW r < 0 := by unfold oW; rw [if_neg hz]; have := hr.w0 hz; omega
        have e2 : ¬ oF r < 0 := by unfold oF; rw [if_neg hz]; have := hr.f0 hz; omega
        rw [if_neg hz, if_neg e1, if_neg e2]
        obtain ⟨o1, o2, o3, o4⟩ := outW_plain (n := s.length) (m := s.length - f.f0.length) (o := acc) (r := r) (f := f) hs (by omega) hf.1 hf.2 h hr hz (by omega)
        rw [← o3, ← o4]
        exact rdA_plain hs hrec fs (outW acc f r) hL' o1 (by rw [o2]; omega)
    · rw [if_neg hp] at hb
      rw [if_neg hp, if_neg hp, if_neg hp]
      exact rdA_plain hs hrec fs acc hL' h (by omega)
/-- What valid formulas are good for. -/
structure FsV (L : List S55) : Prop where
  len : L.length ≤ 8
  one : ∀ f ∈ L, 1 ≤ f.f0.length ∧ f.f0.length ≤ 5
  wt : ∀ f ∈ L, 1 ≤ f.f1 ∧ f.f1 ≤ 9
  pw : L.Pairwise (fun a b => a.f0 ≠ b.f0)
theorem FsV.of {L : List S55} (h : fsOk L = true) : FsV L :=
  ⟨fsOk_len h, fun f hf => fOk_len (fsOk_all h f hf), fun f hf => fOk_weight (fsOk_all h f hf), (goF_pw (acc := []) (by unfold fsOk at h; simp at h; exact h.2)).2⟩
theorem rdO_bd {L : List S55} (hv : FsV L) : ∀ (n : Nat) (s : List Int), s.length = n → n ≤ 23 → OBd n (rdO L s) := by
  intro n
  induction n using Nat.strongRecOn with
  | ind n ih =>
    intro s hs hn
    by_cases hne : s = []
    · subst hne
      simp at hs
      subst hs
      rw [rdO_nil]
      exact ⟨by simp, by simp, by simp, by simp, by simp, by simp⟩
    · rw [rdO_step (fun f hf => (hv.one f hf).1) hne]
      subst hs
      refine (rdA_plain hn (fun k hk hk' => ih (s.length - k) (by omega) _ (by rw [List.length_drop]) (by omega)) L ⟨0, 0, 0⟩ (fun f hf => ⟨(hv.one f hf).1, hv.wt f hf⟩) ⟨by simp, Int.natCast_nonneg _, by simp, by simp, by simp, by simp⟩ ?_).1
      have := sumB_le (s := s) (fun f hf => (hv.one f hf).1) hv.pw
      simp only [Int.zero_add]
      exact_mod_cast this
theorem rdO_least {L : List S55} (hv : FsV L) {s : List Int} (hs : s.length ≤ 23) (hne : s ≠ []) :
    oW (rdO L s) = lA (fun f => f.f1) (fun t => oW (rdO L t)) s L (-1) ∧ oF (rdO L s) = lA (fun _ => 1) (fun t => oF (rdO L t)) s L (-1) := by
  have h := rdA_plain (rec := rdO L) (s := s) hs (fun k hk hk' => rdO_bd hv (s.length - k) _ (by rw [List.length_drop]) (by omega)) L ⟨0, 0, 0⟩ (fun f hf => ⟨(hv.one f hf).1, hv.wt f hf⟩) ⟨by simp, Int.natCast_nonneg _, by simp, by simp, by simp, by simp⟩ (by
    have := sumB_le (s := s) (fun f hf => (hv.one f hf).1) hv.pw
    simp only [Int.zero_add]
    exact_mod_cast this)
  rw [rdO_step (fun f hf => (hv.one f hf).1) hne]
  exact ⟨h.2.1, h.2.2⟩

def mA (g : List Int → Int) (s : List Int) : List S55 → Int → Int
  | [], a => a
  | f :: fs, a => if isPre f.f0 s = true then mA g s fs (wrap64 (a + g (s.drop f.f0.length))) else mA g s fs a
theorem wrap_range (x : Int) : -9223372036854775808 ≤ wrap64 x ∧ wrap64 x ≤ 9223372036854775807 := by unfold wrap64; omega
theorem outW_f0 (o : OutC) (f : S55) (r : OutC) : (outW o f r).f0 = wrap64 (o.f0 + r.f0) := by unfold outW; split <;> rfl
theorem rdA_many (rec : List Int → OutC) (s : List Int) : ∀ (L : List S55) (acc : OutC), -9223372036854775808 ≤ acc.f0 → acc.f0 ≤ 9223372036854775807 → (rdA rec s L acc).f0 = mA (fun t => (rec t).f0) s L acc.f0
  | [], acc, _, _ => rfl
  | f :: fs, acc, h, h' => by
    simp only [rdA, mA]
    by_cases hp : isPre f.f0 s = true
    · rw [if_pos hp, if_pos hp]
      by_cases hz : (rec (s.drop f.f0.length)).f0 = 0
      · rw [if_pos hz, rdA_many rec s fs acc h h', hz, Int.add_zero, w64 h h']
      · rw [if_neg hz]
        have := wrap_range (acc.f0 + (rec (s.drop f.f0.length)).f0)
        rw [rdA_many rec s fs _ (by rw [outW_f0]; exact this.1) (by rw [outW_f0]; exact this.2), outW_f0]
    · rw [if_neg hp, if_neg hp, rdA_many rec s fs acc h h']
theorem spec_l6fWays_inner {L : List S55} {S : List Int} (hL : ∀ f ∈ L, 1 ≤ f.f0.length ∧ f.f0.length ≤ 5) (hll : L.length ≤ 8) (hS : S.length ≤ 23) (i : Nat) (hi : i < S.length) (R : List Int)
    (W : Nat → Int) (hW : ∀ j, W j = (rdO L (S.drop j)).f0)
    (hnext : ∀ y : List Int, y.length = S.length + 1 → (∀ j, i ≤ j → j ≤ S.length → y.getD j 0 = W j) → (∀ j, j < i → y.getD j 0 = 0) → Ev (fun k => spec_l6fWays.l0 k L S y ((i : Int) - 1)) R)
    (y : List Int) (hy : y.length = S.length + 1) (hy1 : ∀ j, i < j → j ≤ S.length → y.getD j 0 = W j) (hy2 : ∀ j, j ≤ i → y.getD j 0 = 0) :
    Ev (fun k => spec_l6fWays.l1 k L S y (i : Int) 0) R := by
  have hWi : W i = mA (fun t => (rdO L t).f0) (S.drop i) L 0 := by
    rw [hW, rdO_step (fun f hf => (hL f hf).1) (by intro h; have := congrArg List.length h; rw [List.length_drop, List.length_nil] at this; omega)]
    exact rdA_many _ _ L _ (by simp) (by simp)
  have := Ev.over z55 L (fun k (y : List Int) q => spec_l6fWays.l1 k L S y (i : Int) q) (fun _ _ => R) (fun q y => y.length = S.length + 1 ∧ (∀ j, i < j → j ≤ S.length → y.getD j 0 = W j) ∧ (∀ j, j < i → y.getD j 0 = 0) ∧ mA (fun t => (rdO L t).f0) (S.drop i) (L.drop q) (y.getD i 0) = W i) (by
    intro y ⟨h1, h2, h3, h4⟩
    rw [List.drop_length] at h4
    simp only [mA] at h4
    refine Ev.succ ?_
    simp only [spec_l6fWays.l1]
    refine Ev.neg (by omega) ?_
    rw [w64 (by omega) (by omega)]
    exact hnext y h1 (fun j hj hj' => by rcases Nat.lt_or_eq_of_le hj with h | h; exact h2 j h hj'; rw [← h]; exact h4) h3) (by
    intro y q rest ⟨h1, h2, h3, h4⟩ hq hdr ih
    have hm : L.getD q z55 ∈ L := by
      rw [List.getD_eq_getElem?_getD, List.getElem?_eq_getElem hq]; exact List.getElem_mem hq
    have hf := hL _ hm
    have hrest : rest = L.drop (q + 1) := by
      rw [List.drop_eq_getElem_cons hq] at hdr
      exact ((List.cons.inj hdr).2).symm
    rw [hdr] at h4
    simp only [mA] at h4
    refine Ev.succ ?_
    simp only [spec_l6fWays.l1]
    have hrd : rd_T55 L (q : Int) = L.getD q z55 := rfl
    rw [hrd]
    rw [w64 (x := (q : Int) + 1) (by omega) (by omega)]
    generalize L.getD q z55 = f at hf h4
    refine Ev.pos (by omega) (Ev.pos (by omega) (Ev.bind (spec_l6fAt_ev f S i (by omega) (by omega) (by omega)) ?_))
    cases hp : isPre f.f0 (S.drop i)
    · rw [if_neg (by rw [hp]; simp)] at h4
      refine Ev.neg (by simp) (ih y ⟨h1, h2, h3, ?_⟩)
      rw [← hrest]; exact h4
    · rw [if_pos hp] at h4
      have hl := isPre_len hp
      rw [List.length_drop] at hl
      rw [w64 (x := (i : Int) + (f.f0.length : Int)) (by omega) (by omega)]
      refine Ev.pos rfl (Ev.pos (by omega) (Ev.pos (by omega) (Ev.pos (by omega) (Ev.pos (by omega) ?_))))
      have e1 : rd y (i : Int) = y.getD i 0 := rfl
      have e2 : rd y ((i : Int) + (f.f0.length : Int)) = W (i + f.f0.length) := by
        have : ((i : Int) + (f.f0.length : Int)).toNat = i + f.f0.length := by omega
        unfold rd
        rw [this]; exact h2 _ (by omega) (by omega)
      rw [e1, e2, Int.toNat_natCast]
      refine ih _ ⟨by rw [List.length_set]; exact h1, fun j hj hj' => by rw [getD_set_other _ (by omega)]; exact h2 j hj hj', fun j hj => by rw [getD_set_other _ (by omega)]; exact h3 j hj, ?_⟩
      rw [getD_set_self _ (by omega), ← hrest, hW (i + f.f0.length), ← List.drop_drop]
      exact h4) 0 y (Nat.zero_le _) ⟨hy, hy1, fun j hj => hy2 j (by omega), by rw [hy2 i (Nat.le_refl _), List.drop_zero]; exact hWi.symm⟩
  simpa using this
def waysL (L : List S55) (S : List Int) : List Int := (List.range (S.length + 1)).map (fun j => (rdO L (S.drop j)).f0)
theorem waysL_get {L : List S55} {S : List Int} {j : Nat} (h : j ≤ S.length) : (waysL L S).getD j 0 = (rdO L (S.drop j)).f0 := by
  unfold waysL
  rw [List.getD_eq_getElem?_getD, List.getElem?_map, List.getElem?_range (by omega)]; rfl
theorem waysL_len {L : List S55} {S : List Int} : (waysL L S).length = S.length + 1 := by unfold waysL; simp
theorem spec_l6fWays_ev {L : List S55} {S : List Int} (hL : ∀ f ∈ L, 1 ≤ f.f0.length ∧ f.f0.length ≤ 5) (hll : L.length ≤ 8) (hS : S.length ≤ 23) : Ev (fun k => spec_l6fWays.f k L S) (waysL L S) := by
  have key : ∀ m, m ≤ S.length → ∀ y : List Int, y.length = S.length + 1 → (∀ j, m ≤ j → j ≤ S.length → y.getD j 0 = (rdO L (S.drop j)).f0) → (∀ j, j < m → y.getD j 0 = 0) → Ev (fun k => spec_l6fWays.l0 k L S y ((m : Int) - 1)) (waysL L S) := by
    intro m
    induction m with
    | zero =>
      intro _ y h1 h2 _
      refine Ev.succ ?_
      simp only [spec_l6fWays.l0]
      refine Ev.neg (by omega) (Ev.eqr (Ev.now _) ?_)
      refine ext_getD (by rw [h1, waysL_len]) (fun j hj => ?_)
      rw [h2 j (Nat.zero_le _) (by omega), waysL_get (by omega)]
    | succ m ih =>
      intro hm y h1 h2 h3
      refine Ev.succ ?_
      simp only [spec_l6fWays.l0]
      have e : ((m + 1 : Nat) : Int) - 1 = (m : Int) := by omega
      rw [e]
      refine Ev.pos (by omega) ?_
      exact spec_l6fWays_inner hL hll hS m (by omega) _ (fun j => (rdO L (S.drop j)).f0) (fun _ => rfl) (fun y h1 h2 h3 => ih (by omega) y h1 h2 h3) y h1 (fun j hj hj' => h2 j (by omega) hj') (fun j hj => h3 j (by omega))
  unfold spec_l6fWays.f
  rw [w64 (x := (S.length : Int) + 1) (by omega) (by omega), w64 (x := (S.length : Int) - 1) (by omega) (by omega)]
  have e : ((S.length : Int) + 1).toNat = S.length + 1 := by omega
  rw [e]
  refine Ev.pos (by omega) (Ev.pos (by omega) (Ev.someb (Ev.pos (by omega) (Ev.pos (by rw [List.length_replicate]; omega) ?_))))
  rw [Int.toNat_natCast]
  refine key S.length (Nat.le_refl _) _ (by simp) (fun j hj hj' => ?_) (fun j hj => ?_)
  · obtain rfl : j = S.length := by omega
    rw [getD_set_self _ (by simp), List.drop_length, rdO_nil]
  · rw [getD_set_other _ (by omega), List.getD_eq_getElem?_getD, List.getElem?_replicate, if_pos (by omega)]; rfl

/-! fewer formulas have no more readings -/
def cnt (g : List Int → Int) (s : List Int) : List S55 → Int
  | [] => 0
  | f :: fs => (if isPre f.f0 s = true then g (s.drop f.f0.length) else 0) + cnt g s fs
theorem cnt_nn {g : List Int → Int} {s : List Int} : ∀ l : List S55, (∀ f ∈ l, isPre f.f0 s = true → 0 ≤ g (s.drop f.f0.length)) → 0 ≤ cnt g s l
  | [], _ => Int.le_refl _
  | f :: fs, h => by
    simp only [cnt]
    have h1 := cnt_nn fs (fun x hx => h x (List.mem_cons_of_mem _ hx))
    by_cases hp : isPre f.f0 s = true
    · rw [if_pos hp]; have := h f List.mem_cons_self hp; omega
    · rw [if_neg hp]; omega
theorem mA_cnt {g : List Int → Int} {s : List Int} : ∀ (l : List S55) (a : Int), (∀ f ∈ l, isPre f.f0 s = true → 0 ≤ g (s.drop f.f0.length)) → 0 ≤ a → a + cnt g s l ≤ 4611686018427387904 → mA g s l a = a + cnt g s l
  | [], a, _, _, _ => by simp [mA, cnt]
  | f :: fs, a, h, h0, hb => by
    simp only [mA, cnt] at hb ⊢
    have h' := fun x hx => h x (List.mem_cons_of_mem _ hx)
    have hn := cnt_nn fs h'
    by_cases hp : isPre f.f0 s = true
    · rw [if_pos hp] at hb ⊢
      rw [if_pos hp]
      have := h f List.mem_cons_self hp
      rw [w64 (by omega) (by omega), mA_cnt fs _ h' (by omega) (by omega)]
      omega
    · rw [if_neg hp] at hb ⊢
      rw [if_neg hp, mA_cnt fs _ h' h0 (by omega)]
      omega
theorem cnt_sum {g : List Int → Int} {s : List Int} : ∀ l : List S55, (∀ f ∈ l, isPre f.f0 s = true → g (s.drop f.f0.length) ≤ ((2 ^ (s.length - f.f0.length) : Nat) : Int)) → cnt g s l ≤ (sumB s l : Int)
  | [], _ => by simp [cnt, sumB]
  | f :: fs, h => by
    simp only [cnt, sumB]
    have h1 := cnt_sum fs (fun x hx => h x (List.mem_cons_of_mem _ hx))
    rw [Int.natCast_add]
    by_cases hp : isPre f.f0 s = true
    · rw [if_pos hp, if_pos hp]; have := h f List.mem_cons_self hp; omega
    · rw [if_neg hp, if_neg hp]; omega
theorem cnt_sub {g g' : List Int → Int} {s : List Int} {l' l : List S55} (hs : l'.Sublist l) (h : ∀ f ∈ l, isPre f.f0 s = true → 0 ≤ g (s.drop f.f0.length)) (h' : ∀ f ∈ l, isPre f.f0 s = true → g' (s.drop f.f0.length) ≤ g (s.drop f.f0.length)) : cnt g' s l' ≤ cnt g s l := by
  induction hs with
  | slnil => exact Int.le_refl _
  | @cons l1 l2 a hs ih =>
    have := ih (fun x hx => h x (List.mem_cons_of_mem _ hx)) (fun x hx => h' x (List.mem_cons_of_mem _ hx))
    simp only [cnt]
    by_cases hp : isPre a.f0 s = true
    · rw [if_pos hp]; have := h a List.mem_cons_self hp; omega
    · rw [if_neg hp]; omega
  | @cons_cons l1 l2 a hs ih =>
    have := ih (fun x hx => h x (List.mem_cons_of_mem _ hx)) (fun x hx => h' x (List.mem_cons_of_mem _ hx))
    simp only [cnt]
    by_cases hp : isPre a.f0 s = true
    · rw [if_pos hp, if_pos hp]; have := h' a List.mem_cons_self hp; omega
    · rw [if_neg hp, if_neg hp]; omega
theorem rdO_cnt {L : List S55} (hv : FsV L) {s : List Int} (hl : s.length ≤ 23) (hs : s ≠ []) : (rdO L s).f0 = cnt (fun t => (rdO L t).f0) s L := by
  have hb : ∀ f ∈ L, isPre f.f0 s = true → OBd (s.length - f.f0.length) (rdO L (s.drop f.f0.length)) := fun f _ hp => rdO_bd hv _ _ (by rw [List.length_drop]) (by have := isPre_len hp; omega)
  have e : (rdO L s).f0 = mA (fun t => (rdO L t).f0) s L 0 := by
    rw [rdO_step (fun f hf => (hv.one f hf).1) hs]
    exact rdA_many _ _ _ _ (by decide) (by decide)
  have h1 := cnt_sum (g := fun t => (rdO L t).f0) (s := s) L (fun f hf hp => (hb f hf hp).hi)
  have h2 := sumB_le (s := s) (fun f hf => (hv.one f hf).1) hv.pw
  have h3 : 2 ^ s.length ≤ 2 ^ 23 := Nat.pow_le_pow_right (by decide) hl
  have h4 : (2 : Nat) ^ 23 = 8388608 := by decide
  rw [e, mA_cnt L 0 (fun f hf hp => (hb f hf hp).lo) (by omega) (by omega)]
  omega
theorem many_mono {L L' : List S55} (hv : FsV L) (hv' : FsV L') (hsub : L'.Sublist L) : ∀ (n : Nat) (s : List Int), s.length ≤ n → s.length ≤ 23 → (rdO L' s).f0 ≤ (rdO L s).f0
  | 0, s, h, _ => by
    obtain rfl : s = [] := List.eq_nil_of_length_eq_zero (by omega)
    rw [rdO_nil, rdO_nil]; exact Int.le_refl _
  | n + 1, s, h, h' => by
    by_cases hs : s = []
    · subst hs; rw [rdO_nil, rdO_nil]; exact Int.le_refl _
    rw [rdO_cnt hv h' hs, rdO_cnt hv' h' hs]
    refine cnt_sub hsub (fun f hf hp => ?_) (fun f hf hp => ?_)
    · exact (rdO_bd hv _ (s.drop f.f0.length) rfl (by rw [List.length_drop]; omega)).lo
    · have := (hv.one f hf).1
      have := isPre_len hp
      exact many_mono hv hv' hsub n _ (by rw [List.length_drop]; omega) (by rw [List.length_drop]; omega)
theorem FsV.sub {L L' : List S55} (hv : FsV L) (hsub : L'.Sublist L) : FsV L' :=
  ⟨Nat.le_trans hsub.length_le hv.len, fun f hf => hv.one f (hsub.subset hf), fun f hf => hv.wt f (hsub.subset hf), hv.pw.sublist hsub⟩
theorem goF_of : ∀ (l acc : List S55), (∀ x ∈ l, fOk x = true) → (∀ a ∈ acc, ∀ b ∈ l, a.f0 ≠ b.f0) → l.Pairwise (fun a b => a.f0 ≠ b.f0) → goF acc l = true
  | [], _, _, _, _ => rfl
  | x :: xs, acc, h1, h2, h3 => by
    obtain ⟨p1, p2⟩ := List.pairwise_cons.1 h3
    simp only [goF, Bool.and_eq_true, Bool.not_eq_true', List.any_eq_false, beq_iff_eq]
    refine ⟨h1 x List.mem_cons_self, fun a ha => h2 a ha x List.mem_cons_self, goF_of xs (acc ++ [x]) (fun y hy => h1 y (List.mem_cons_of_mem _ hy)) (fun a ha b hb => ?_) p2⟩
    rcases List.mem_append.1 ha with ha | ha
    · exact h2 a ha b (List.mem_cons_of_mem _ hb)
    · rw [List.mem_singleton.1 ha]; exact p1 b hb
theorem fsOk_sub {L L' : List S55} (h : fsOk L = true) (hsub : L'.Sublist L) : fsOk L' = true := by
  have hv := FsV.of h
  have h8 := hsub.length_le
  have h9 := hv.len
  unfold fsOk
  rw [decide_eq_true (by omega), Bool.true_and]
  exact goF_of L' [] (fun x hx => fsOk_all h x (hsub.subset hx)) (by simp) (hv.pw.sublist hsub)

theorem cnt_mem {g : List Int → Int} {s : List Int} : ∀ (l : List S55) {f : S55}, (∀ f ∈ l, isPre f.f0 s = true → 0 ≤ g (s.drop f.f0.length)) → f ∈ l → isPre f.f0 s = true → g (s.drop f.f0.length) ≤ cnt g s l
  | x :: xs, f, h, hf, hp => by
    have h' := fun y hy => h y (List.mem_cons_of_mem _ hy)
    have hn := cnt_nn xs h'
    simp only [cnt]
    rcases List.mem_cons.1 hf with rfl | hf
    · rw [if_pos hp]; omega
    · have := cnt_mem xs h' hf hp
      by_cases hx : isPre x.f0 s = true
      · rw [if_pos hx]; have := h x List.mem_cons_self hx; omega
      · rw [if_neg hx]; omega
theorem nn_of {L : List S55} (hv : FsV L) {s : List Int} (hs : s.length ≤ 23) : ∀ f ∈ L, isPre f.f0 s = true → 0 ≤ (rdO L (s.drop f.f0.length)).f0 :=
  fun f _ _ => (rdO_bd hv _ (s.drop f.f0.length) rfl (by rw [List.length_drop]; omega)).lo

theorem rdC_has {rec : List Int → OutC} {s : List Int} {L : List S55} (k : Nat) (hk : k < L.length) (hp : isPre (rd_T55 L (k : Int)).f0 s = true) (hz : (rec (s.drop (rd_T55 L (k : Int)).f0.length)).f0 ≠ 0) : ∀ (d q : Nat), q + d = k → ((k : Int), rec (s.drop (rd_T55 L (k : Int)).f0.length)) ∈ rdC rec s (q : Int) (L.drop q)
  | d, q, e => by
    have hq : q < L.length := by omega
    have e1 : L.drop q = rd_T55 L (q : Int) :: L.drop (q + 1) := by
      rw [List.drop_eq_getElem_cons hq]
      unfold rd_T55
      rw [Int.toNat_natCast, List.getD_eq_getElem?_getD, List.getElem?_eq_getElem hq]; rfl
    rw [e1]
    simp only [rdC]
    have e2 : ((q : Int) + 1) = ((q + 1 : Nat) : Int) := by omega
    rw [e2]
    match d, e with
    | 0, e =>
      obtain rfl : q = k := e
      rw [if_pos hp, if_neg hz]
      exact List.mem_cons_self
    | d + 1, e =>
      have := rdC_has k hk hp hz d (q + 1) (by omega)
      split
      · split
        · exact this
        · exact List.mem_cons_of_mem _ this
      · exact this
def valF (L : List S55) (x : Int × OutC) : Int := wrap64 ((rd_T55 L x.1).f1 + x.2.f1)

/-! which formulas some reading uses, by the reference: plain -/
def St (L : List S55) (S : List Int) (q j : Nat) : Prop := ∃ k : Nat, k < L.length ∧ isPre (rd_T55 L (k : Int)).f0 (S.drop q) = true ∧ q + (rd_T55 L (k : Int)).f0.length = j
inductive Rch (L : List S55) (S : List Int) (Q : Nat → Prop) : Nat → Prop
  | zero : Rch L S Q 0
  | step {q j : Nat} : Rch L S Q q → St L S q j → Q j → Rch L S Q j
theorem St.lt {L : List S55} (hv : FsV L) {S : List Int} {q j : Nat} (h : St L S q j) : q < j ∧ (q ≤ S.length → j ≤ S.length) := by
  obtain ⟨k, hk, hp, rfl⟩ := h
  have h1 := (hv.one _ (rd_mem (l := L) (k := (k : Int)) (by omega) (by omega))).1
  have h2 := isPre_len hp
  rw [List.length_drop] at h2
  exact ⟨by omega, fun h => by omega⟩
theorem rch_iff {L : List S55} {S : List Int} {Q : Nat → Prop} {j : Nat} : Rch L S Q j ↔ j = 0 ∨ ∃ q, Rch L S Q q ∧ St L S q j ∧ Q j := by
  constructor
  · intro h
    cases h with
    | zero => exact .inl rfl
    | step h1 h2 h3 => exact .inr ⟨_, h1, h2, h3⟩
  · rintro (rfl | ⟨q, h1, h2, h3⟩)
    · exact .zero
    · exact .step h1 h2 h3
theorem rch_all {L : List S55} {S : List Int} {Q : Nat → Prop} {j : Nat} (h : Rch L S Q j) : Rch L S (fun _ => True) j := by
  induction h with
  | zero => exact .zero
  | step _ h2 _ ih => exact .step ih h2 trivial
theorem rch_le {L : List S55} (hv : FsV L) {S : List Int} {Q : Nat → Prop} {j : Nat} (h : Rch L S Q j) : j ≤ S.length := by
  induction h with
  | zero => exact Nat.zero_le _
  | step _ h2 _ ih => exact (h2.lt hv).2 ih
theorem ok_back {L : List S55} (hv : FsV L) {S : List Int} (hS : S.length ≤ 23) {q j : Nat} (h : St L S q j) (hz : (rdO L (S.drop j)).f0 ≠ 0) : (rdO L (S.drop q)).f0 ≠ 0 := by
  obtain ⟨k, hk, hp, rfl⟩ := h
  have hm := rd_mem (l := L) (k := (k : Int)) (by omega) (by omega)
  have h1 := (hv.one _ hm).1
  have h2 := isPre_len hp
  have hl : (S.drop q).length ≤ 23 := by rw [List.length_drop]; omega
  have hne : S.drop q ≠ [] := by intro e; rw [e, List.length_nil] at h2; omega
  rw [rdO_cnt hv hl hne]
  have h3 := cnt_mem (g := fun t => (rdO L t).f0) (s := S.drop q) L (nn_of hv hl) hm hp
  rw [List.drop_drop] at h3
  have h4 := (rdO_bd hv _ (S.drop (q + (rd_T55 L (k : Int)).f0.length)) rfl (by rw [List.length_drop]; omega)).lo
  omega
theorem rch_ok {L : List S55} (hv : FsV L) {S : List Int} (hS : S.length ≤ 23) {j : Nat} (h : Rch L S (fun _ => True) j) : (rdO L (S.drop j)).f0 ≠ 0 → Rch L S (fun j => (rdO L (S.drop j)).f0 ≠ 0) j := by
  induction h with
  | zero => exact fun _ => .zero
  | step _ h2 _ ih => exact fun hz => .step (ih (ok_back hv hS h2 hz)) h2 hz
/-! the program's rows -/
theorem getD_setB {y : List Bool} {i j : Nat} (v : Bool) (hj : j < y.length) : (y.set i v).getD j false = if i = j then v else y.getD j false := by
  rw [List.getD_eq_getElem?_getD, List.getElem?_set, List.getD_eq_getElem?_getD]
  by_cases h : i = j
  · subst h; simp [hj]
  · simp [h]
theorem mkU_get1 (L : List S55) (p : Nat) : ∀ (h : List (Int × OutC)) (s : List Bool × List Bool) (k : Nat), k < s.1.length → ((mkU L p h s).1.getD k false = true ↔ s.1.getD k false = true ∨ ∃ x ∈ h, x.1.toNat = k)
  | [], s, k, _ => by simp [mkU]
  | (i, o) :: r, (U, V), k, hk => by
    simp only [mkU]
    rw [mkU_get1 L p r _ k (by simpa using hk)]
    have e : ((U.set i.toNat true, V.set (p + (rd_T55 L i).f0.length) true) : List Bool × List Bool).1 = U.set i.toNat true := rfl
    rw [e, getD_setB true hk]
    by_cases hi : i.toNat = k
    · simp [hi]
    · simp [hi]
theorem mkU_get2 (L : List S55) (p : Nat) : ∀ (h : List (Int × OutC)) (s : List Bool × List Bool) (j : Nat), j < s.2.length → ((mkU L p h s).2.getD j false = true ↔ s.2.getD j false = true ∨ ∃ x ∈ h, p + (rd_T55 L x.1).f0.length = j)
  | [], s, k, _ => by simp [mkU]
  | (i, o) :: r, (U, V), k, hk => by
    simp only [mkU]
    rw [mkU_get2 L p r _ k (by simpa using hk)]
    have e : ((U.set i.toNat true, V.set (p + (rd_T55 L i).f0.length) true) : List Bool × List Bool).2 = V.set (p + (rd_T55 L i).f0.length) true := rfl
    rw [e, getD_setB true hk]
    by_cases hi : p + (rd_T55 L i).f0.length = k
    · simp [hi]
    · simp [hi]
theorem calls_iff {L : List S55} {S : List Int} {p : Nat} (hp : p < S.length) (i : Int) : (∃ o, (i, o) ∈ rdCalls L (S.drop p)) ↔ 0 ≤ i ∧ i < (L.length : Int) ∧ isPre (rd_T55 L i).f0 (S.drop p) = true ∧ (rdO L (S.drop (p + (rd_T55 L i).f0.length))).f0 ≠ 0 := by
  have hne : S.drop p ≠ [] := by
    intro h
    have := congrArg List.length h
    rw [List.length_drop, List.length_nil] at this; omega
  have hcl : rdCalls L (S.drop p) = rdC (rdO L) (S.drop p) ((0 : Nat) : Int) L := if_neg hne
  rw [hcl]
  constructor
  · rintro ⟨o, h⟩
    obtain ⟨h1, h2, h3, h4, h5⟩ := rdC_mem L 0 rfl h
    rw [h4, List.drop_drop] at h5
    exact ⟨h1, h2, h3, h5⟩
  · rintro ⟨h1, h2, h3, h4⟩
    obtain ⟨k, rfl⟩ := Int.eq_ofNat_of_zero_le h1
    have := rdC_has (rec := rdO L) (s := S.drop p) (L := L) k (by omega) h3 (by rw [List.drop_drop]; exact h4) k 0 (by omega)
    rw [List.drop_zero] at this
    exact ⟨_, this⟩
theorem used_inv {L : List S55} (hv : FsV L) {S : List Int} : ∀ p, p ≤ S.length →
    (∀ j, j ≤ S.length → ((usedFrom L S p).2.getD j false = true ↔ j = 0 ∨ ∃ q, q < p ∧ Rch L S (fun j => (rdO L (S.drop j)).f0 ≠ 0) q ∧ St L S q j ∧ (rdO L (S.drop j)).f0 ≠ 0)) ∧
    (∀ k, k < L.length → ((usedFrom L S p).1.getD k false = true ↔ ∃ q, q < p ∧ Rch L S (fun j => (rdO L (S.drop j)).f0 ≠ 0) q ∧ isPre (rd_T55 L (k : Int)).f0 (S.drop q) = true ∧ (rdO L (S.drop (q + (rd_T55 L (k : Int)).f0.length))).f0 ≠ 0)) := by
  intro p
  induction p with
  | zero =>
    intro _
    refine ⟨fun j hj => ?_, fun k hk => ?_⟩
    · show ((List.replicate (S.length + 1) false).set 0 true).getD j false = true ↔ _
      rw [getD_setB true (by rw [List.length_replicate]; omega)]
      by_cases h : 0 = j
      · subst h; simp
      · have h' : j ≠ 0 := fun e => h e.symm
        rw [if_neg h, List.getD_eq_getElem?_getD, List.getElem?_replicate]
        simp [h', show j < S.length + 1 by omega]
    · show (List.replicate L.length false).getD k false = true ↔ _
      rw [List.getD_eq_getElem?_getD, List.getElem?_replicate]
      simp [hk]
  | succ p ih =>
    intro hp
    obtain ⟨i1, i2⟩ := ih (by omega)
    have hlen := usedFrom_len L S p
    have hr : (usedFrom L S p).2.getD p false = true ↔ Rch L S (fun j => (rdO L (S.drop j)).f0 ≠ 0) p := by
      rw [i1 p (by omega), rch_iff]
      constructor
      · rintro (h | ⟨q, _, h2, h3, h4⟩)
        · exact .inl h
        · exact .inr ⟨q, h2, h3, h4⟩
      · rintro (h | ⟨q, h2, h3, h4⟩)
        · exact .inl h
        · exact .inr ⟨q, (h3.lt hv).1, h2, h3, h4⟩
    rw [usedFrom_step]
    by_cases hc : (usedFrom L S p).2.getD p false = true
    · rw [if_pos hc]
      have hR := hr.1 hc
      refine ⟨fun j hj => ?_, fun k hk => ?_⟩
      · rw [mkU_get2 L p _ _ j (by omega), i1 j hj]
        constructor
        · rintro ((h | ⟨q, h1, h2⟩) | ⟨⟨i, o⟩, hx, he⟩)
          · exact .inl h
          · exact .inr ⟨q, by omega, h2⟩
          · obtain ⟨a1, a2, a3, a4⟩ := (calls_iff (by omega) i).1 ⟨o, hx⟩
            obtain ⟨k, rfl⟩ := Int.eq_ofNat_of_zero_le a1
            have he : p + (rd_T55 L (k : Int)).f0.length = j := he
            rw [he] at a4
            exact .inr ⟨p, by omega, hR, ⟨k, by omega, a3, he⟩, a4⟩
        · rintro (h | ⟨q, h1, h2, h3, h4⟩)
          · exact .inl (.inl h)
          · by_cases hq : q < p
            · exact .inl (.inr ⟨q, hq, h2, h3, h4⟩)
            · obtain rfl : q = p := by omega
              obtain ⟨k, hk, hpre, he⟩ := h3
              obtain ⟨o, ho⟩ := (calls_iff (L := L) (S := S) (p := q) (by omega) (k : Int)).2 ⟨by omega, by omega, hpre, by rw [he]; exact h4⟩
              exact .inr ⟨((k : Int), o), ho, he⟩
      · rw [mkU_get1 L p _ _ k (by omega), i2 k hk]
        constructor
        · rintro (⟨q, h1, h2⟩ | ⟨⟨i, o⟩, hx, he⟩)
          · exact ⟨q, by omega, h2⟩
          · obtain ⟨a1, a2, a3, a4⟩ := (calls_iff (by omega) i).1 ⟨o, hx⟩
            obtain ⟨n, rfl⟩ := Int.eq_ofNat_of_zero_le a1
            have he : n = k := by simpa using he
            subst he
            exact ⟨p, by omega, hR, a3, a4⟩
        · rintro ⟨q, h1, h2, h3, h4⟩
          by_cases hq : q < p
          · exact .inl ⟨q, hq, h2, h3, h4⟩
          · obtain rfl : q = p := by omega
            obtain ⟨o, ho⟩ := (calls_iff (L := L) (S := S) (p := q) (by omega) (k : Int)).2 ⟨by omega, by omega, h3, h4⟩
            exact .inr ⟨((k : Int), o), ho, by simp⟩
    · rw [if_neg hc]
      have hR : ¬ Rch L S (fun j => (rdO L (S.drop j)).f0 ≠ 0) p := fun h => hc (hr.2 h)
      refine ⟨fun j hj => ?_, fun k hk => ?_⟩
      · rw [i1 j hj]
        constructor
        · rintro (h | ⟨q, h1, h2⟩)
          · exact .inl h
          · exact .inr ⟨q, by omega, h2⟩
        · rintro (h | ⟨q, h1, h2, h3⟩)
          · exact .inl h
          · by_cases hq : q < p
            · exact .inr ⟨q, hq, h2, h3⟩
            · obtain rfl : q = p := by omega
              exact absurd h2 hR
      · rw [i2 k hk]
        constructor
        · rintro ⟨q, h1, h2⟩
          exact ⟨q, by omega, h2⟩
        · rintro ⟨q, h1, h2, h3⟩
          by_cases hq : q < p
          · exact ⟨q, hq, h2, h3⟩
          · obtain rfl : q = p := by omega
            exact absurd h2 hR

end Go.Proofs.Ytnemcppllfmioaa.Pure
