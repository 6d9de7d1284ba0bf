/- Lemmas on the printed functions for the law FnExactFormulasUsed. -/
import Derived.Test.YtnemcppllfmioaaQFnExactFormulasUsedq0
import Derived.Test.YtnemcppllfmioaaQFnExactFormulasUsedq1
import Derived.Test.YtnemcppllfmioaaQFnExactFormulasUsedq2
import Derived.Test.YtnemcppllfmioaaQFnExactFormulasUsedq3
import Derived.Test.YtnemcppllfmioaaQFnExactFormulasUsedq4
import Derived.Test.YtnemcppllfmioaaQFnExactFormulasUsedq5
import Derived.Deep.RegionHeld3
import Derived.BigRegion
import Derived.Deep.Slices
import Derived.Laws.CopyOwn
namespace Go.Proofs.Ytnemcppllfmioaa.Pure
set_option linter.unusedVariables false
set_option linter.unusedSimpArgs false
open Go Go.RowKit Go.Proofs.Ytnemcppllfmioaa.PFnExactFormulasUsed Go.Proofs.YtnemcppllfmioaaW.PrintWords Go.Proofs.YtnemcppllfmioaaW.PrintLast Go.Proofs.YtnemcppllfmioaaW.PrintMore

/-! spec_l6fFrom: as the print has it, but the cut list has a name of its own -/
mutual
def spec_l6fFrom.l0 : Nat → List (S55) → List Int → List Int → Int → Option (List Int)
  | 0, _, _, _, _ => none
  | k + 1, x0, x1, x5, x6 => if x6 < (x1.length : Int) then (spec_l6fFrom.l1 k x0 x1 x5 x6 0) else (some x5)
def spec_l6fFrom.l1 : Nat → List (S55) → List Int → List Int → Int → Int → Option (List Int)
  | 0, _, _, _, _, _ => none
  | k + 1, x0, x1, x5, x6, x7 => if x7 < (x0.length : Int) then (if 0 ≤ x7 then ((spec_l6fAt.f k ((rd_T55 x0 x7).f0) ((rd_T55 x0 x7).f1) x1 x6).bind fun t167 => (if t167 = true then (if 0 ≤ (wrap64 (x6 + (((rd_T55 x0 x7).f0).length : Int))) then (if (wrap64 (x6 + (((rd_T55 x0 x7).f0).length : Int))) < (x5.length : Int) then (if 0 ≤ x6 then (if x6 < (x5.length : Int) then (spec_l6fFrom.l1 k x0 x1 (x5.set ((wrap64 (x6 + (((rd_T55 x0 x7).f0).length : Int))) : Int).toNat (wrap64 ((rd x5 (wrap64 (x6 + (((rd_T55 x0 x7).f0).length : Int)))) + (rd x5 x6)))) x6 (wrap64 (x7 + 1))) else (none)) else (none)) else (none)) else (none)) else (spec_l6fFrom.l1 k x0 x1 x5 x6 (wrap64 (x7 + 1))))) else (none)) else (spec_l6fFrom.l0 k x0 x1 x5 (wrap64 (x6 + 1)))
end
def spec_l6fFrom.f (k : Nat) (l0 : List (S55)) (l1 : List Int) : Option (List Int) := if 0 ≤ (wrap64 ((l1.length : Int) + 1)) then (if (wrap64 ((l1.length : Int) + 1) : Int).toNat ≤ 35184372088832 then ((some (List.replicate (wrap64 ((l1.length : Int) + 1) : Int).toNat 0 : List Int)).bind fun y162 => (if 0 < (y162.length : Int) then (spec_l6fFrom.l0 k l0 l1 (y162.set (0 : Int).toNat 1) 0) else (none))) else (none)) else (none)
theorem spec_l6fFrom.mono_l : ∀ k, (∀ y0 y1 y2 y3, LeO (spec_l6fFrom.l0 k y0 y1 y2 y3) (spec_l6fFrom.l0 (k + 1) y0 y1 y2 y3)) ∧ (∀ y0 y1 y2 y3 y4, LeO (spec_l6fFrom.l1 k y0 y1 y2 y3 y4) (spec_l6fFrom.l1 (k + 1) y0 y1 y2 y3 y4))
  | 0 => ⟨fun _ _ _ _ r h => by simp [spec_l6fFrom.l0] at h, fun _ _ _ _ _ r h => by simp [spec_l6fFrom.l1] at h⟩
  | k + 1 => by
    obtain ⟨ih0, ih1⟩ := spec_l6fFrom.mono_l k
    refine ⟨?_, ?_⟩
    · intro y0 y1 y2 y3
      unfold spec_l6fFrom.l0
      repeat' first
      | (with_reducible exact ih0 _ _ _ _)
      | (with_reducible exact ih1 _ _ _ _ _)
      | (with_reducible exact spec_l6fAt.mono _ _ _ _ _)
      | (with_reducible exact LeO.refl _)
      | (with_reducible exact LeO.none _)
      | (with_reducible refine LeO.ite ?_ ?_)
      | (with_reducible refine LeO.bind ?_ (fun _ => ?_))
      | exact ih0 _ _ _ _
      | exact ih1 _ _ _ _ _
      | exact spec_l6fAt.mono _ _ _ _ _
      | exact LeO.none _
      | refine LeO.ite ?_ ?_
      | refine LeO.bind ?_ (fun _ => ?_)
    · intro y0 y1 y2 y3 y4
      unfold spec_l6fFrom.l1
      repeat' first
      | (with_reducible exact ih0 _ _ _ _)
      | (with_reducible exact ih1 _ _ _ _ _)
      | (with_reducible exact spec_l6fAt.mono _ _ _ _ _)
      | (with_reducible exact LeO.refl _)
      | (with_reducible exact LeO.none _)
      | (with_reducible refine LeO.ite ?_ ?_)
      | (with_reducible refine LeO.bind ?_ (fun _ => ?_))
      | exact ih0 _ _ _ _
      | exact ih1 _ _ _ _ _
      | exact spec_l6fAt.mono _ _ _ _ _
      | exact LeO.none _
      | refine LeO.ite ?_ ?_
      | refine LeO.bind ?_ (fun _ => ?_)
theorem spec_l6fFrom.mono : ∀ a0 a1 k, LeO (spec_l6fFrom.f k a0 a1) (spec_l6fFrom.f (k + 1) a0 a1) := by
  intro a0 a1 k
  obtain ⟨ih0, ih1⟩ := spec_l6fFrom.mono_l k
  unfold spec_l6fFrom.f
  repeat' first
      | (with_reducible exact ih0 _ _ _ _)
      | (with_reducible exact ih1 _ _ _ _ _)
      | (with_reducible exact spec_l6fAt.mono _ _ _ _ _)
      | (with_reducible exact LeO.refl _)
      | (with_reducible exact LeO.none _)
      | (with_reducible refine LeO.ite ?_ ?_)
      | (with_reducible refine LeO.bind ?_ (fun _ => ?_))
      | exact ih0 _ _ _ _
      | exact ih1 _ _ _ _ _
      | exact spec_l6fAt.mono _ _ _ _ _
      | exact LeO.none _
      | refine LeO.ite ?_ ?_
      | refine LeO.bind ?_ (fun _ => ?_)
def spec_l6fFrom.T10 : Bool × List (List Nat × List Nat) := (true, [([], []), ([], []), ([], []), ([], []), ([2, 3], [2, 3]), ([4], [4]), ([5], [5]), ([6], [6]), ([1, 7], [1, 7]), ([], []), ([], []), ([], []), ([], []), ([11, 12], [11, 12]), ([13], [13]), ([14], [14]), ([15], [15]), ([10, 16], [10, 16]), ([9, 17], [9, 17]), ([18], [18]), ([], []), ([], []), ([20, 21], [20, 21]), ([22], [22]), ([19, 23], [19, 23]), ([0, 8, 0, 1, 2, 3, 4, 5, 6, 7, 8, 9, 10, 11, 12, 13, 14, 15, 16, 17, 18, 19, 20, 21, 22, 23, 24], [0, 8]), ([25, 24, 0, 1, 2, 3, 4, 5, 6, 7, 8, 9, 10, 11, 12, 13, 14, 15, 16, 17, 18, 19, 20, 21, 22, 23, 24], [24, 25])])
def spec_l6fFrom.B10 : List Nat := [0, 0, 0, 0, 12, 28, 60, 124, 254, 0, 0, 0, 0, 6144, 14336, 30720, 63488, 130048, 261632, 523776, 0, 0, 3145728, 7340032, 16776704, 33554431, 67108863]
theorem spec_l6fFrom.tab10 : rtab .any (opsOf Try.f85 10) = spec_l6fFrom.T10 := by kernel_rfl
theorem spec_l6fFrom.bits10 : waitsOk spec_l6fFrom.T10.2 spec_l6fFrom.B10 = true := by kernel_rfl
set_option maxHeartbeats 8000000 in
set_option maxRecDepth 100000 in
theorem spec_l6fFrom.calls (k : Nat) (A0 : Option Addr) (c0 : Nat) (l0 : List (S55)) (A1 : Option Addr) (c1 : Nat) (l1 : List Int) (r : List Int) (w : World) (hr0 : Kd.C k55 w A0 l0.length l0) (hc0 : l0.length ≤ c0) (hr1 : Kd.C (Kd.int .i64) w A1 l1.length l1) (hc1 : l1.length ≤ c1) (h : spec_l6fFrom.f k l0 l1 = some r) :
    Calls Try.prog 85 #[.slice A0 l0.length c0, .slice A1 l1.length c1] w fun e w' => ∃ v0_ : Value, e = .returned (v0_) ∧ Kd.R (Kd.int .i64) 3 w' w.heap.size (fun _ => True) v0_ r ∧ Below w.heap.size w w' := by
  have hu55 := Try.underlying55
  have HR0 := Aside0.mk hr0
  have HC0 := Aside0.mk hc0
  clear hr0 hc0
  have HR1 := Aside0.mk hr1
  have HC1 := Aside0.mk hc1
  clear hr1 hc1
  have HB := Aside0.mk (Below.refl w.heap.size w)
  have H : (if 0 ≤ (wrap64 ((l1.length : Int) + 1)) then (if (wrap64 ((l1.length : Int) + 1) : Int).toNat ≤ 35184372088832 then ((some (List.replicate (wrap64 ((l1.length : Int) + 1) : Int).toNat 0 : List Int)).bind fun y162 => (if 0 < (y162.length : Int) then (spec_l6fFrom.l0 k l0 l1 (y162.set (0 : Int).toNat 1) 0) else (none))) else (none)) else (none)) = some r := h
  clear h
  obtain ⟨ji3, hji3⟩ : ∃ j_ : Int, (wrap64 ((l1.length : Int) + 1)) = j_ := ⟨_, rfl⟩
  replace H : (if 0 ≤ (ji3) then (if (ji3 : Int).toNat ≤ 35184372088832 then ((some (List.replicate (ji3 : Int).toNat 0 : List Int)).bind fun y162 => (if 0 < (y162.length : Int) then (spec_l6fFrom.l0 k l0 l1 (y162.set (0 : Int).toNat 1) 0) else (none))) else (none)) else (none)) = some r := by first | (rw [hji3] at H; exact H) | (simp only [hji3] at H ⊢; exact H)
  have hji3w : (IntKind.i64.wrap ((l1.length : Int) + 1)) = ji3 := (i64_w _).trans hji3
  by_cases c4 : 0 ≤ (ji3)
  · rw [if_pos c4] at H
    have c4b0 := eq_true c4
    have c4b1 : decide (0 ≤ (ji3)) = true := decide_eq_true c4
    clear c4
    by_cases c5 : (ji3 : Int).toNat ≤ 35184372088832
    · rw [if_pos c5] at H
      have c5b0 := eq_true c5
      have c5b1 : decide ((ji3 : Int).toNat ≤ 35184372088832) = true := decide_eq_true c5
      clear c5
      obtain ⟨y162, hy162⟩ : ∃ y_ : List Int, y_ = (List.replicate (ji3 : Int).toNat 0) := ⟨_, rfl⟩
      replace H : (if 0 < (y162.length : Int) then (spec_l6fFrom.l0 k l0 l1 (y162.set (0 : Int).toNat 1) 0) else (none)) = some r := by first | (rw [hy162]; with_reducible exact H) | (have H2_ := (Option.bind_some _ _).symm.trans H; rw [hy162]; with_reducible exact H2_) | (have H2_ := (Option.bind_some _ _).symm.trans H; with_reducible exact H2_) | with_reducible exact H | (rw [hy162]; exact H) | exact H
      have Ny162 := Aside0.mk hy162
      clear hy162
      by_cases c6 : 0 < (y162.length : Int)
      · rw [if_pos c6] at H
        have c6b0 : decide (0 < (y162.length : Int)) = true := decide_eq_true c6
        have c6b1 : decide (0 < y162.length) = true := decide_eq_true (by omega)
        clear c6
        obtain ⟨y165, hy165⟩ : ∃ y_ : List Int, y_ = (y162.set (0 : Int).toNat 1) := ⟨_, rfl⟩
        replace H : (spec_l6fFrom.l0 k l0 l1 y165 0) = some r := by first | (rw [hy165]; with_reducible exact H) | (have H2_ := (Option.bind_some _ _).symm.trans H; rw [hy165]; with_reducible exact H2_) | (have H2_ := (Option.bind_some _ _).symm.trans H; with_reducible exact H2_) | with_reducible exact H | (rw [hy165]; exact H) | exact H
        have Ny165 := Aside0.mk hy165
        clear hy165
        have H' := Aside0.mk H
        clear H
        go_enter Try.func85, Try.ntmps85
        go_wp2_with (first | ((with_reducible refine gate_dst (N := 11) rfl ?_); refine Kd.R_make (Kd.int .i64) _ 3 rfl (N := 11) rfl 46 _ _ rfl ji3 rfl rfl Try.underlying46 (.int .i64 0) 8 info3 rfl (by decide) (by omega) 0 (ok := fun _ => True) (okp := fun _ => True) rfl (fun _ hk => hk) trivial (of_decide_eq_true (by first | (with_reducible assumption) | assumption)) (Nat.le_trans (Nat.mul_le_mul_right _ (of_decide_eq_true (by first | (with_reducible assumption) | assumption) : ji3.toNat ≤ 35184372088832)) (by omega)) (Below.refl _ _) (Nat.le_refl _) ?_; intro v163 w8 ho9 hb hg_ hnew_; clear hg_ hnew_; (first | rw [← Ny162.out] at ho9 | (simp only [Int.reduceToNat] at ho9; rw [← Ny162.out] at ho9)); have n0_ := Aside0.mk (Kd.R_lower ho9 (below_size (by repeat (first | (with_reducible first | exact HB.out | apply below_alloc | apply pw_below_drewN | apply below_drew1) | exact HB.out)))); have n1_ := Aside0.mk (below_step (by repeat (first | (with_reducible first | exact HB.out | apply below_alloc | apply pw_below_drewN | apply below_drew1) | exact HB.out)) hb); clear HB; have HO164 := n0_; have HB := n1_; clear n0_ n1_; clear hb ho9; have p7 : 0 ≤ (0 : Int) := (by omega); have q7 : (0 : Int) < ((y162.length : Int) : Int) := of_decide_eq_true (by first | (with_reducible assumption) | assumption); have qi7 : (0 < y162.length) = True := eq_true (by omega); obtain ⟨go7, co7, eo7, gb7, gl7, cl7, HG7⟩ := Kd.R_form HO164.out (by omega); (first | cases eo7 | (injection eo7 with ea_ en_ ec_; (first | subst ea_ | (injection ea_ with ea_; subst ea_)); subst ec_; clear en_)); have GB7 := Aside0.mk gb7; have GG7 := Aside0.mk HG7; clear gb7 gl7 HG7; obtain ⟨hx7_0, hf7_0⟩ := Kd.R_celln 0 HO164.out (0 : Int) p7 q7; (try rw [show ((0 : Int)).toNat = 0 from rfl] at hx7_0); (try simp only [Nat.reduceMul, Nat.zero_mul, Nat.zero_add, Nat.reduceAdd] at hx7_0); (try rw [show ((0 : Int)).toNat = 0 from rfl] at hf7_0); (try simp only [Nat.reduceMul, Nat.zero_mul, Nat.zero_add, Nat.reduceAdd] at hf7_0); replace p7 := eq_true p7; replace q7 := eq_true q7; obtain ⟨hy10_, hz10_⟩ := Kd.R_celln 0 HO164.out (0 : Int) (by omega) (of_decide_eq_true (by first | (with_reducible assumption) | assumption)); (try simp only [Int.reduceToNat, Int.toNat_zero, Int.toNat_ofNat, Nat.reduceMul, Nat.zero_mul, Nat.zero_add] at hy10_ hz10_); (try rw [show ((0 : Int)).toNat = 0 from rfl] at hy10_); (try rw [show ((0 : Int)).toNat = 0 from rfl] at hz10_); have HP10 := Kd.R_putg HO164.out (0 : Int) 1) | ((with_reducible refine gate_store (t := 3) (p := 13) rfl ?_); refine store_event (t := 3) (p := 13) (v := ?vo_w11) (w1 := (w8.setCell ⟨go7, (0 : Int).toNat, none⟩ (.int .i64 1))) ?hg ?ho ?hn ?hr ?_; (case ho => rfl); (case hg => rfl); (case hn => rfl); (case hr => first | (go_simp; done) | (go_simp; rfl)); intro w11 hw; have hg : w8.grownBy w11 (some go7) := (by rw [hw]; exact HP10.2); have hp_ : Kd.R (Kd.int .i64) 3 w11 w.heap.size (fun _ => True) (.slice (some ⟨go7, 0, none⟩) y162.length co7) y165 := (by rw [hw, Ny165.out]; exact HP10.1); clear HP10; have n0_ := Aside0.mk (hp_); have n1_ := Aside0.mk ((by rw [hw]; exact below_set (HB.out) GB7.out : Below w.heap.size w w11)); clear HO164; clear HB; have HO164 := n0_; have HB := n1_; clear n0_ n1_; clear hg hw hp_))
        go_loopg [6] k (fun kq v6 w' => ∃ (x5_1 : List Int) (x6_1 : Int), v6 = .int .i64 x6_1 ∧ Aside0 (spec_l6fFrom.l0 kq l0 l1 x5_1 x6_1 = some r) ∧ Aside0 (kq ≤ k) ∧ Aside0 (Kd.R (Kd.int .i64) 3 w' w.heap.size (fun _ => True) (.slice (some ⟨go7, 0, none⟩) y162.length co7) x5_1) ∧ Aside0 (Below w.heap.size w w'))
        case atStart => exact ⟨(y165), (0), (by first | rfl | (simp; done) | (simp [*]; done)), H', ⟨Nat.le_refl _⟩, ⟨by (with_reducible repeat (first | apply Kd.R_alloc | apply Kd.R_drewN | apply Kd.R_drew)); exact HO164.out⟩, ⟨by repeat (first | (with_reducible first | exact HB.out | apply below_alloc | apply pw_below_drewN | apply below_drew1) | exact HB.out)⟩⟩
        case round =>
          clear H'
          try clear c1
          try clear p2
          try clear c4
          try clear c4b0
          try clear c4b1
          try clear c5
          try clear c5b0
          try clear c5b1
          try clear c6
          try clear c6b0
          try clear c6b1
          try clear p6
          try clear p7
          try clear q7
          try clear hx7
          try clear qi7
          try clear hf7
          try clear c8
          try clear hx7_0
          try clear p7
          try clear q7
          obtain ⟨x5_1, x6_1, rfl, HA, HK1, HO_5, HB⟩ := hrel
          have hl5_1 := (Kd.R_reads' HO_5.out).1
          rw [hl5_1] at HO_5
          (try simp only [hl5_1])
          cases gk with
          | zero => exact absurd HA.out (by simp [spec_l6fFrom.l0])
          | succ k1 =>
            have H := HA.out
            clear HA
            simp only [spec_l6fFrom.l0] at H
            by_cases c12 : x6_1 < (l1.length : Int)
            · rw [if_pos c12] at H
              have c12b0 : decide (x6_1 < (l1.length : Int)) = true := decide_eq_true c12
              clear c12
              have H' := Aside0.mk H
              clear H
              go_wp2
              go_loopg [7] k1 (fun kq v7 w' => ∃ (x5_2 : List Int) (x7_2 : Int), v7 = .int .i64 x7_2 ∧ Aside0 (spec_l6fFrom.l1 kq l0 l1 x5_2 x6_1 x7_2 = some r) ∧ Aside0 (kq ≤ k1) ∧ Aside0 (Kd.R (Kd.int .i64) 3 w' w.heap.size (fun _ => True) (.slice (some ⟨go7, 0, none⟩) x5_1.length co7) x5_2) ∧ Aside0 (Below w.heap.size w w'))
              case atStart => exact ⟨(x5_1), (0), (by first | rfl | (simp; done) | (simp [*]; done)), H', ⟨Nat.le_refl _⟩, ⟨by (try simp only [hl5_1]); (with_reducible repeat (first | apply Kd.R_alloc | apply Kd.R_drewN | apply Kd.R_drew)); exact HO_5.out⟩, ⟨by repeat (first | (with_reducible first | exact HB.out | apply below_alloc | apply pw_below_drewN | apply below_drew1) | exact HB.out)⟩⟩
              case round =>
                clear H'
                try clear c1
                try clear p2
                try clear c4
                try clear c4b0
                try clear c4b1
                try clear c5
                try clear c5b0
                try clear c5b1
                try clear c6
                try clear c6b0
                try clear c6b1
                try clear p6
                try clear p7
                try clear q7
                try clear hx7
                try clear qi7
                try clear hf7
                try clear c8
                try clear c12
                try clear c12b0
                try clear hx7_0
                try clear p2
                try clear p6
                try clear p7
                try clear q7
                obtain ⟨x5_2, x7_2, rfl, HA, HK2, HO_5, HB⟩ := hrel
                have hl5_2 := (Kd.R_reads' HO_5.out).1
                rw [hl5_2] at HO_5
                (try simp only [hl5_2])
                cases gk with
                | zero => exact absurd HA.out (by simp [spec_l6fFrom.l1])
                | succ k2 =>
                  have H := HA.out
                  clear HA
                  simp only [spec_l6fFrom.l1] at H
                  by_cases c13 : x7_2 < (l0.length : Int)
                  · rw [if_pos c13] at H
                    have c13b0 : decide (x7_2 < (l0.length : Int)) = true := decide_eq_true c13
                    clear c13
                    by_cases c14 : 0 ≤ x7_2
                    · rw [if_pos c14] at H
                      have c14b0 : decide (0 ≤ x7_2) = true := decide_eq_true c14
                      clear c14
                      replace H := Option.bind_eq_some_iff.mp H
                      obtain ⟨t167, A150, H⟩ := H
                      replace H : (if t167 = true then (if 0 ≤ (wrap64 (x6_1 + (((rd_T55 l0 x7_2).f0).length : Int))) then (if (wrap64 (x6_1 + (((rd_T55 l0 x7_2).f0).length : Int))) < (x5_2.length : Int) then (if 0 ≤ x6_1 then (if x6_1 < (x5_2.length : Int) then (spec_l6fFrom.l1 k2 l0 l1 (x5_2.set ((wrap64 (x6_1 + (((rd_T55 l0 x7_2).f0).length : Int))) : Int).toNat (wrap64 ((rd x5_2 (wrap64 (x6_1 + (((rd_T55 l0 x7_2).f0).length : Int)))) + (rd x5_2 x6_1)))) x6_1 (wrap64 (x7_2 + 1))) else (none)) else (none)) else (none)) else (none)) else (spec_l6fFrom.l1 k2 l0 l1 x5_2 x6_1 (wrap64 (x7_2 + 1)))) = some r := H
                      have A15 := Aside0.mk A150
                      clear A150
                      by_cases c16 : t167 = true
                      · subst c16
                        have H1 : (if 0 ≤ (wrap64 (x6_1 + (((rd_T55 l0 x7_2).f0).length : Int))) then (if (wrap64 (x6_1 + (((rd_T55 l0 x7_2).f0).length : Int))) < (x5_2.length : Int) then (if 0 ≤ x6_1 then (if x6_1 < (x5_2.length : Int) then (spec_l6fFrom.l1 k2 l0 l1 (x5_2.set ((wrap64 (x6_1 + (((rd_T55 l0 x7_2).f0).length : Int))) : Int).toNat (wrap64 ((rd x5_2 (wrap64 (x6_1 + (((rd_T55 l0 x7_2).f0).length : Int)))) + (rd x5_2 x6_1)))) x6_1 (wrap64 (x7_2 + 1))) else (none)) else (none)) else (none)) else (none)) = some r := by rw [if_pos rfl] at H; exact H
                        clear H
                        have H := H1
                        clear H1
                        obtain ⟨ji17, hji17⟩ : ∃ j_ : Int, (wrap64 (x6_1 + (((rd_T55 l0 x7_2).f0).length : Int))) = j_ := ⟨_, rfl⟩
                        replace H : (if 0 ≤ (ji17) then (if (ji17) < (x5_2.length : Int) then (if 0 ≤ x6_1 then (if x6_1 < (x5_2.length : Int) then (spec_l6fFrom.l1 k2 l0 l1 (x5_2.set ((ji17) : Int).toNat (wrap64 ((rd x5_2 (ji17)) + (rd x5_2 x6_1)))) x6_1 (wrap64 (x7_2 + 1))) else (none)) else (none)) else (none)) else (none)) = some r := by first | (rw [hji17] at H; exact H) | (simp only [hji17] at H ⊢; exact H)
                        (try rw [hji17] at A15)
                        have hji17w : (IntKind.i64.wrap (x6_1 + (((rd_T55 l0 x7_2).f0).length : Int))) = ji17 := (i64_w _).trans hji17
                        by_cases c18 : 0 ≤ (ji17)
                        · rw [if_pos c18] at H
                          have c18b0 : decide (0 ≤ (ji17)) = true := decide_eq_true c18
                          clear c18
                          by_cases c19 : (ji17) < (x5_2.length : Int)
                          · rw [if_pos c19] at H
                            have c19b0 : decide ((ji17) < (x5_2.length : Int)) = true := decide_eq_true c19
                            clear c19
                            by_cases c20 : 0 ≤ x6_1
                            · rw [if_pos c20] at H
                              have c20b0 : decide (0 ≤ x6_1) = true := decide_eq_true c20
                              clear c20
                              by_cases c21 : x6_1 < (x5_2.length : Int)
                              · rw [if_pos c21] at H
                                have c21b0 : decide (x6_1 < (x5_2.length : Int)) = true := decide_eq_true c21
                                clear c21
                                obtain ⟨y172, hy172⟩ : ∃ y_ : List Int, y_ = (x5_2.set ((ji17) : Int).toNat (wrap64 ((rd x5_2 (ji17)) + (rd x5_2 x6_1)))) := ⟨_, rfl⟩
                                replace H : (spec_l6fFrom.l1 k2 l0 l1 y172 x6_1 (wrap64 (x7_2 + 1))) = some r := by first | (rw [hy172]; with_reducible exact H) | (have H2_ := (Option.bind_some _ _).symm.trans H; rw [hy172]; with_reducible exact H2_) | (have H2_ := (Option.bind_some _ _).symm.trans H; with_reducible exact H2_) | with_reducible exact H | (rw [hy172]; exact H) | exact H
                                have Ny172 := Aside0.mk hy172
                                clear hy172
                                have H' := Aside0.mk H
                                clear H
                                have p166 : 0 ≤ (x7_2 : Int) := of_decide_eq_true (by first | (with_reducible assumption) | assumption)
                                have q166 : x7_2 < (l0.length : Int) := of_decide_eq_true (by first | (with_reducible assumption) | assumption)
                                obtain ⟨ad166, A166_0, c166_0, e166, hx166_0, hx166_1, hl166_0, hi166_0⟩ := at_T55 HR0.out x7_2 p166 q166
                                cases e166
                                replace hx166_0 := (HB.out.cell (World.block_lt_of_cell? w _ hx166_0)).trans hx166_0
                                replace hx166_1 := (HB.out.cell (World.block_lt_of_cell? w _ hx166_1)).trans hx166_1
                                have HR166_0 := Aside0.mk hi166_0
                                have HC166_0 := Aside0.mk hl166_0
                                clear hi166_0 hl166_0
                                replace p166 := eq_true p166
                                replace q166 := eq_true q166
                                try go_wp2_with (first | ((with_reducible refine gate_callee (f := 83) rfl ?_); refine goesL_ (some 32) rfl rfl Try.func83 (by kernel_rfl) rfl #[.agg #[.slice A166_0 ((rd_T55 l0 x7_2).f0).length c166_0, .int .i64 ((rd_T55 l0 x7_2).f1)], .slice A1 l1.length c1, .int .i64 x6_1] rfl (by (try simp only [List.map_toArray, List.map_cons, List.map_nil]); first | done | rfl | (simp only [List.length_drop, List.length_take]; rfl)) ?_; (with_reducible refine (spec_l6fAt.calls k2 _ _ ((rd_T55 l0 x7_2).f0) ((rd_T55 l0 x7_2).f1) _ _ l1 x6_1 true _ ?side1 ?side2 ?side3 ?side4 A15.out).mono ?_); (case side1 => repeat (first | exact (Kd.C_below HR166_0.out HB.out) | (with_reducible refine Kd.C_alloc ?_ _) | (with_reducible refine Kd.C_drewN ?_ _) | (with_reducible refine Kd.C_drew ?_))); (case side2 => exact HC166_0.out); (case side3 => repeat (first | exact (Kd.C_below HR1.out HB.out) | (with_reducible refine Kd.C_alloc ?_ _) | (with_reducible refine Kd.C_drewN ?_ _) | (with_reducible refine Kd.C_drew ?_))); (case side4 => exact HC1.out); rintro e w23 ⟨rfl, hb⟩; refine ⟨_, rfl, ?_⟩; have n0_ := Aside0.mk (Kd.R_below (by (with_reducible repeat (first | apply Kd.R_alloc | apply Kd.R_drewN | apply Kd.R_drew)); exact HO_5.out) hb); have n1_ := Aside0.mk (below_step (by repeat (first | (with_reducible first | exact HB.out | apply below_alloc | apply pw_below_drewN | apply below_drew1) | exact HB.out)) hb); clear HO_5; clear HB; have HO_5 := n0_; have HB := n1_; clear n0_ n1_; (try clear hb); (try clear hb2); (try clear hk); (try clear hi)))
                                have n0_ := Aside0.mk (Kd.R_drew HO_5.out)
                                have n1_ := Aside0.mk (below_drew1 HB.out)
                                clear HO_5
                                clear HB
                                have HO_5 := n0_
                                have HB := n1_
                                clear n0_ n1_
                                have p168 : 0 ≤ (x7_2 : Int) := of_decide_eq_true (by first | (with_reducible assumption) | assumption)
                                have q168 : x7_2 < (l0.length : Int) := of_decide_eq_true (by first | (with_reducible assumption) | assumption)
                                obtain ⟨ad168, A168_0, c168_0, e168, hx168_0, hx168_1, hl168_0, hi168_0⟩ := at_T55 HR0.out x7_2 p168 q168
                                have hw168_1 := hx168_1
                                have hw168_0 := hx168_0
                                obtain rfl : ad166 = ad168 := (by injection e168)
                                replace hx168_0 := (HB.out.cell (World.block_lt_of_cell? w _ hx168_0)).trans hx168_0
                                replace hx168_1 := (HB.out.cell (World.block_lt_of_cell? w _ hx168_1)).trans hx168_1
                                have HR168_0 := Aside0.mk hi168_0
                                have HC168_0 := Aside0.mk hl168_0
                                clear hi168_0 hl168_0
                                replace p168 := eq_true p168
                                replace q168 := eq_true q168
                                have p169 : 0 ≤ (x7_2 : Int) := of_decide_eq_true (by first | (with_reducible assumption) | assumption)
                                have q169 : x7_2 < (l0.length : Int) := of_decide_eq_true (by first | (with_reducible assumption) | assumption)
                                obtain ⟨ad169, A169_0, c169_0, e169, hx169_0, hx169_1, hl169_0, hi169_0⟩ := at_T55 HR0.out x7_2 p169 q169
                                have hw169_1 := hx169_1
                                have hw169_0 := hx169_0
                                obtain rfl : ad166 = ad169 := (by injection e169)
                                replace hx169_0 := (HB.out.cell (World.block_lt_of_cell? w _ hx169_0)).trans hx169_0
                                replace hx169_1 := (HB.out.cell (World.block_lt_of_cell? w _ hx169_1)).trans hx169_1
                                have HR169_0 := Aside0.mk hi169_0
                                have HC169_0 := Aside0.mk hl169_0
                                clear hi169_0 hl169_0
                                replace p169 := eq_true p169
                                replace q169 := eq_true q169
                                have ea_ := Option.some.inj (hx168_0.symm.trans hx169_0)
                                injection ea_ with ea_ en_ ec_
                                subst ea_
                                subst ec_
                                clear en_
                                have p170 : 0 ≤ ((ji17) : Int) := of_decide_eq_true (by first | (with_reducible assumption) | assumption)
                                have q170 : (ji17) < (x5_2.length : Int) := of_decide_eq_true (by first | (with_reducible assumption) | assumption)
                                obtain ⟨ad170, e170, hx170_0⟩ := Kd.at_int (Kd.R_reads' HO_5.out).2.2 (ji17) p170 q170
                                obtain rfl : (⟨go7, 0, none⟩ : Addr) = ad170 := (by injection e170)
                                (first | simp only [add_plain] at hx170_0 | simp only [add_at] at hx170_0 | simp only [Addr.add, Nat.zero_add] at hx170_0 | skip)
                                replace p170 := eq_true p170
                                replace q170 := eq_true q170
                                have p171 : 0 ≤ (x6_1 : Int) := of_decide_eq_true (by first | (with_reducible assumption) | assumption)
                                have q171 : x6_1 < (x5_2.length : Int) := of_decide_eq_true (by first | (with_reducible assumption) | assumption)
                                obtain ⟨ad171, e171, hx171_0⟩ := Kd.at_int (Kd.R_reads' HO_5.out).2.2 x6_1 p171 q171
                                obtain rfl : (⟨go7, 0, none⟩ : Addr) = ad171 := (by injection e171)
                                (first | simp only [add_plain] at hx171_0 | simp only [add_at] at hx171_0 | simp only [Addr.add, Nat.zero_add] at hx171_0 | skip)
                                replace p171 := eq_true p171
                                replace q171 := eq_true q171
                                have p22 : 0 ≤ ((ji17) : Int) := of_decide_eq_true (by first | (with_reducible assumption) | assumption)
                                have q22 : ((ji17) : Int) < ((x5_2.length : Int) : Int) := of_decide_eq_true (by first | (with_reducible assumption) | assumption)
                                obtain ⟨hx22_0, hf22_0⟩ := Kd.R_celln 0 HO_5.out ((ji17) : Int) p22 q22
                                replace p22 := eq_true p22
                                replace q22 := eq_true q22
                                have HP25 := Kd.R_putn HO_5.out ((ji17) : Int) (wrap64 ((rd x5_2 (ji17)) + (rd x5_2 x6_1)))
                                rw [← Ny172.out] at HP25
                                have HQ25 := Aside0.mk HP25
                                clear HP25
                                refine start_ (n := 27) (S := fun w' => w'.cell? (ad166.add ((x7_2).toNat * 2)) = some (.slice A168_0 ((rd_T55 l0 x7_2).f0).length c168_0) ∧ w'.cell? ⟨(ad166.add ((x7_2).toNat * 2)).block, (ad166.add ((x7_2).toNat * 2)).off + 1, none⟩ = some (.int .i64 ((rd_T55 l0 x7_2).f1)) ∧ w'.cell? (ad166.add ((x7_2).toNat * 2)) = some (.slice A168_0 ((rd_T55 l0 x7_2).f0).length c168_0) ∧ w'.cell? ⟨(ad166.add ((x7_2).toNat * 2)).block, (ad166.add ((x7_2).toNat * 2)).off + 1, none⟩ = some (.int .i64 ((rd_T55 l0 x7_2).f1)) ∧ w'.cell? ⟨go7, ((ji17)).toNat, none⟩ = some (.int .i64 (rd x5_2 (ji17))) ∧ w'.cell? ⟨go7, (x6_1).toNat, none⟩ = some (.int .i64 (rd x5_2 x6_1))) (ds := [26]) #[false, false, false, false, false, false, false, false, false, false, false, false, false, false, false, false, false, false, false, false, false, false, false, false, false, false, false] (by kernel_rfl) rfl rfl ⟨((HB.out.cell (World.block_lt_of_cell? w _ hw168_0)).trans hw168_0), ((HB.out.cell (World.block_lt_of_cell? w _ hw168_1)).trans hw168_1), ((HB.out.cell (World.block_lt_of_cell? w _ hw169_0)).trans hw169_0), ((HB.out.cell (World.block_lt_of_cell? w _ hw169_1)).trans hw169_1), hx170_0, hx171_0⟩ (fun hHeld => ?_); refine with_tabW spec_l6fFrom.tab10 spec_l6fFrom.bits10 (fun HT_ HW_ => ?_)
                                generalize w23.drew = w24 at HO_5 HB HQ25 HR168_0 HR169_0 hf22_0 hx168_0 hx168_1 hx169_0 hx169_1 hx170_0 hx171_0 hx22_0 hHeld ⊢
                                refine pure_ (i := 0) (N := some 33) (v := ?_) (a' := ?_) #[true, false, false, false, false, false, false, false, false, false, false, false, false, false, false, false, false, false, false, false, false, false, false, false, false, false, false] rfl rfl (any_of HT_.out (by kernel_rfl)) (fun _ _ _ h => h) (Or.inl ⟨by rfl, ?_⟩) ?_ ?_
                                rotate_left
                                · intro w'
                                  go_simp
                                  with_reducible rfl
                                rotate_left
                                · simp only [Act.put, List.setIfInBounds_toArray, List.set_cons_zero, List.set_cons_succ, i64_w, i32_w]
                                  rfl
                                refine pure_ (i := 1) (N := some 34) (v := ?_) (a' := ?_) #[true, true, false, false, false, false, false, false, false, false, false, false, false, false, false, false, false, false, false, false, false, false, false, false, false, false, false] rfl rfl (any_of HT_.out (by kernel_rfl)) (fun _ _ _ h => h) (Or.inl ⟨by rfl, ?_⟩) ?_ ?_
                                rotate_left
                                · intro w'
                                  go_simp
                                  with_reducible rfl
                                rotate_left
                                · simp only [Act.put, List.setIfInBounds_toArray, List.set_cons_zero, List.set_cons_succ, i64_w, i32_w]
                                  rfl
                                refine pure_ (i := 2) (N := some 35) (v := ?_) (a' := ?_) #[true, true, true, false, false, false, false, false, false, false, false, false, false, false, false, false, false, false, false, false, false, false, false, false, false, false, false] rfl rfl (any_of HT_.out (by kernel_rfl)) (fun _ _ _ h => h) (Or.inl ⟨by rfl, ?_⟩) ?_ ?_
                                rotate_left
                                · intro w'
                                  go_simp
                                  with_reducible rfl
                                rotate_left
                                · simp only [Act.put, List.setIfInBounds_toArray, List.set_cons_zero, List.set_cons_succ, i64_w, i32_w]
                                  rfl
                                refine pure_ (i := 3) (N := some 36) (v := ?_) (a' := ?_) #[true, true, true, true, false, false, false, false, false, false, false, false, false, false, false, false, false, false, false, false, false, false, false, false, false, false, false] rfl rfl (any_of HT_.out (by kernel_rfl)) (fun _ _ _ h => h) (Or.inl ⟨by rfl, ?_⟩) ?_ ?_
                                rotate_left
                                · intro w'
                                  go_simp
                                  with_reducible rfl
                                rotate_left
                                · simp only [Act.put, List.setIfInBounds_toArray, List.set_cons_zero, List.set_cons_succ, i64_w, i32_w]
                                  rfl
                                refine pure_ (i := 4) (N := some 37) (v := ?_) (a' := ?_) #[true, true, true, true, true, false, false, false, false, false, false, false, false, false, false, false, false, false, false, false, false, false, false, false, false, false, false] rfl rfl (any_of HT_.out (by kernel_rfl)) (fun _ _ _ h => h) (Or.inl ⟨by rfl, ?_⟩) ?_ ?_
                                rotate_left
                                · intro w'
                                  go_simp
                                  with_reducible rfl
                                rotate_left
                                · simp only [Act.put, List.setIfInBounds_toArray, List.set_cons_zero, List.set_cons_succ, i64_w, i32_w]
                                  rfl
                                refine pure_ (i := 5) (N := some 38) (v := ?_) (a' := ?_) #[true, true, true, true, true, true, false, false, false, false, false, false, false, false, false, false, false, false, false, false, false, false, false, false, false, false, false] rfl rfl (any_of HT_.out (by kernel_rfl)) (fun _ _ _ h => h) (Or.inl ⟨by rfl, ?_⟩) ?_ ?_
                                rotate_left
                                · intro w'
                                  go_simp
                                  with_reducible rfl
                                rotate_left
                                · simp only [Act.put, List.setIfInBounds_toArray, List.set_cons_zero, List.set_cons_succ, i64_w, i32_w]
                                  rfl
                                refine pure_ (i := 9) (N := some 42) (v := ?_) (a' := ?_) #[true, true, true, true, true, true, false, false, false, true, false, false, false, false, false, false, false, false, false, false, false, false, false, false, false, false, false] rfl rfl (any_of HT_.out (by kernel_rfl)) (fun _ _ _ h => h) (Or.inl ⟨by rfl, ?_⟩) ?_ ?_
                                rotate_left
                                · intro w'
                                  go_simp
                                  with_reducible rfl
                                rotate_left
                                · simp only [Act.put, List.setIfInBounds_toArray, List.set_cons_zero, List.set_cons_succ, i64_w, i32_w]
                                  rfl
                                refine pure_ (i := 10) (N := some 43) (v := ?_) (a' := ?_) #[true, true, true, true, true, true, false, false, false, true, true, false, false, false, false, false, false, false, false, false, false, false, false, false, false, false, false] rfl rfl (any_of HT_.out (by kernel_rfl)) (fun _ _ _ h => h) (Or.inl ⟨by rfl, ?_⟩) ?_ ?_
                                rotate_left
                                · intro w'
                                  go_simp
                                  with_reducible rfl
                                rotate_left
                                · simp only [Act.put, List.setIfInBounds_toArray, List.set_cons_zero, List.set_cons_succ, i64_w, i32_w]
                                  rfl
                                refine pure_ (i := 11) (N := some 44) (v := ?_) (a' := ?_) #[true, true, true, true, true, true, false, false, false, true, true, true, false, false, false, false, false, false, false, false, false, false, false, false, false, false, false] rfl rfl (any_of HT_.out (by kernel_rfl)) (fun _ _ _ h => h) (Or.inl ⟨by rfl, ?_⟩) ?_ ?_
                                rotate_left
                                · intro w'
                                  go_simp
                                  with_reducible rfl
                                rotate_left
                                · simp only [Act.put, List.setIfInBounds_toArray, List.set_cons_zero, List.set_cons_succ, i64_w, i32_w]
                                  rfl
                                refine pure_ (i := 12) (N := some 45) (v := ?_) (a' := ?_) #[true, true, true, true, true, true, false, false, false, true, true, true, true, false, false, false, false, false, false, false, false, false, false, false, false, false, false] rfl rfl (any_of HT_.out (by kernel_rfl)) (fun _ _ _ h => h) (Or.inl ⟨by rfl, ?_⟩) ?_ ?_
                                rotate_left
                                · intro w'
                                  go_simp
                                  with_reducible rfl
                                rotate_left
                                · simp only [Act.put, List.setIfInBounds_toArray, List.set_cons_zero, List.set_cons_succ, i64_w, i32_w]
                                  rfl
                                refine pure_ (i := 13) (N := some 46) (v := ?_) (a' := ?_) #[true, true, true, true, true, true, false, false, false, true, true, true, true, true, false, false, false, false, false, false, false, false, false, false, false, false, false] rfl rfl (any_of HT_.out (by kernel_rfl)) (fun _ _ _ h => h) (Or.inl ⟨by rfl, ?_⟩) ?_ ?_
                                rotate_left
                                · intro w'
                                  go_simp
                                  with_reducible rfl
                                rotate_left
                                · simp only [Act.put, List.setIfInBounds_toArray, List.set_cons_zero, List.set_cons_succ, i64_w, i32_w]
                                  rfl
                                refine pure_ (i := 14) (N := some 47) (v := ?_) (a' := ?_) #[true, true, true, true, true, true, false, false, false, true, true, true, true, true, true, false, false, false, false, false, false, false, false, false, false, false, false] rfl rfl (any_of HT_.out (by kernel_rfl)) (fun _ _ _ h => h) (Or.inl ⟨by rfl, ?_⟩) ?_ ?_
                                rotate_left
                                · intro w'
                                  go_simp
                                  with_reducible rfl
                                rotate_left
                                · simp only [Act.put, List.setIfInBounds_toArray, List.set_cons_zero, List.set_cons_succ, i64_w, i32_w]
                                  rfl
                                refine pure_ (i := 20) (N := some 53) (v := ?_) (a' := ?_) #[true, true, true, true, true, true, false, false, false, true, true, true, true, true, true, false, false, false, false, false, true, false, false, false, false, false, false] rfl rfl (any_of HT_.out (by kernel_rfl)) (fun _ _ _ h => h) (Or.inl ⟨by rfl, ?_⟩) ?_ ?_
                                rotate_left
                                · intro w'
                                  go_simp
                                  with_reducible rfl
                                rotate_left
                                · simp only [Act.put, List.setIfInBounds_toArray, List.set_cons_zero, List.set_cons_succ, i64_w, i32_w]
                                  rfl
                                refine pure_ (i := 21) (N := some 54) (v := ?_) (a' := ?_) #[true, true, true, true, true, true, false, false, false, true, true, true, true, true, true, false, false, false, false, false, true, true, false, false, false, false, false] rfl rfl (any_of HT_.out (by kernel_rfl)) (fun _ _ _ h => h) (Or.inl ⟨by rfl, ?_⟩) ?_ ?_
                                rotate_left
                                · intro w'
                                  go_simp
                                  with_reducible rfl
                                rotate_left
                                · simp only [Act.put, List.setIfInBounds_toArray, List.set_cons_zero, List.set_cons_succ, i64_w, i32_w]
                                  rfl
                                refine pure_ (i := 22) (N := some 55) (v := ?_) (a' := ?_) #[true, true, true, true, true, true, false, false, false, true, true, true, true, true, true, false, false, false, false, false, true, true, true, false, false, false, false] rfl rfl (any_of HT_.out (by kernel_rfl)) (fun _ _ _ h => h) (Or.inl ⟨by rfl, ?_⟩) ?_ ?_
                                rotate_left
                                · intro w'
                                  go_simp
                                  with_reducible rfl
                                rotate_left
                                · simp only [Act.put, List.setIfInBounds_toArray, List.set_cons_zero, List.set_cons_succ, i64_w, i32_w]
                                  rfl
                                refine take_ (i := 6) (N := some 39) (v := ?_) (a' := ?_) #[true, true, true, true, true, true, true, false, false, true, true, true, true, true, true, false, false, false, false, false, true, true, true, false, false, false, false] rfl rfl (take_ofW HT_.out HW_.out (by kernel_rfl)) (fun _ _ _ h => h) (Or.inl ⟨by rfl, ?_⟩) hHeld ?_ ?_
                                rotate_left
                                · rintro w' ⟨s0, s1, s2, s3, s4, s5⟩
                                  go_simp
                                  with_reducible rfl
                                rotate_left
                                · simp only [Act.put, List.setIfInBounds_toArray, List.set_cons_zero, List.set_cons_succ, i64_w, i32_w]
                                  rfl
                                refine pure_ (i := 7) (N := some 40) (v := ?_) (a' := ?_) #[true, true, true, true, true, true, true, true, false, true, true, true, true, true, true, false, false, false, false, false, true, true, true, false, false, false, false] rfl rfl (any_of HT_.out (by kernel_rfl)) (fun _ _ _ h => h) (Or.inl ⟨by rfl, ?_⟩) ?_ ?_
                                rotate_left
                                · intro w'
                                  go_simp
                                  with_reducible rfl
                                rotate_left
                                · simp only [Act.put, List.setIfInBounds_toArray, List.set_cons_zero, List.set_cons_succ, i64_w, i32_w]
                                  rfl
                                refine pure_ (i := 8) (N := some 41) (v := ?_) (a' := ?_) #[true, true, true, true, true, true, true, true, true, true, true, true, true, true, true, false, false, false, false, false, true, true, true, false, false, false, false] rfl rfl (any_of HT_.out (by kernel_rfl)) (fun _ _ _ h => h) (Or.inl ⟨by rfl, ?_⟩) ?_ ?_
                                rotate_left
                                · intro w'
                                  go_simp
                                  with_reducible rfl
                                rotate_left
                                · simp only [Act.put, List.setIfInBounds_toArray, List.set_cons_zero, List.set_cons_succ, i64_w, i32_w]
                                  rfl
                                refine take_ (i := 15) (N := some 48) (v := ?_) (a' := ?_) #[true, true, true, true, true, true, true, true, true, true, true, true, true, true, true, true, false, false, false, false, true, true, true, false, false, false, false] rfl rfl (take_ofW HT_.out HW_.out (by kernel_rfl)) (fun _ _ _ h => h) (Or.inl ⟨by rfl, ?_⟩) hHeld ?_ ?_
                                rotate_left
                                · rintro w' ⟨s0, s1, s2, s3, s4, s5⟩
                                  go_simp
                                  with_reducible rfl
                                rotate_left
                                · simp only [Act.put, List.setIfInBounds_toArray, List.set_cons_zero, List.set_cons_succ, i64_w, i32_w]
                                  rfl
                                refine pure_ (i := 16) (N := some 49) (v := ?_) (a' := ?_) #[true, true, true, true, true, true, true, true, true, true, true, true, true, true, true, true, true, false, false, false, true, true, true, false, false, false, false] rfl rfl (any_of HT_.out (by kernel_rfl)) (fun _ _ _ h => h) (Or.inl ⟨by rfl, ?_⟩) ?_ ?_
                                rotate_left
                                · intro w'
                                  go_simp
                                  with_reducible rfl
                                rotate_left
                                · simp only [Act.put, List.setIfInBounds_toArray, List.set_cons_zero, List.set_cons_succ, i64_w, i32_w]
                                  rfl
                                refine pure_ (i := 17) (N := some 50) (v := ?_) (a' := ?_) #[true, true, true, true, true, true, true, true, true, true, true, true, true, true, true, true, true, true, false, false, true, true, true, false, false, false, false] rfl rfl (any_of HT_.out (by kernel_rfl)) (fun _ _ _ h => h) (Or.inl ⟨by rfl, ?_⟩) ?_ ?_
                                rotate_left
                                · intro w'
                                  go_simp
                                  with_reducible rfl
                                rotate_left
                                · simp only [Act.put, List.setIfInBounds_toArray, List.set_cons_zero, List.set_cons_succ, i64_w, i32_w]
                                  rfl
                                refine pure_ (i := 18) (N := some 51) (v := ?_) (a' := ?_) #[true, true, true, true, true, true, true, true, true, true, true, true, true, true, true, true, true, true, true, false, true, true, true, false, false, false, false] rfl rfl (any_of HT_.out (by kernel_rfl)) (fun _ _ _ h => h) (Or.inl ⟨by rfl, ?_⟩) ?_ ?_
                                rotate_left
                                · intro w'
                                  go_simp
                                  with_reducible rfl
                                rotate_left
                                · simp only [Act.put, List.setIfInBounds_toArray, List.set_cons_zero, List.set_cons_succ, i64_w, i32_w]
                                  rfl
                                refine take_ (i := 19) (N := some 52) (v := ?_) (a' := ?_) #[true, true, true, true, true, true, true, true, true, true, true, true, true, true, true, true, true, true, true, true, true, true, true, false, false, false, false] rfl rfl (take_ofW HT_.out HW_.out (by kernel_rfl)) (fun _ _ _ h => h) (Or.inl ⟨by rfl, ?_⟩) hHeld ?_ ?_
                                rotate_left
                                · rintro w' ⟨s0, s1, s2, s3, s4, s5⟩
                                  go_simp
                                  with_reducible rfl
                                rotate_left
                                · simp only [Act.put, List.setIfInBounds_toArray, List.set_cons_zero, List.set_cons_succ, i64_w, i32_w]
                                  rfl
                                refine take_ (i := 23) (N := some 56) (v := ?_) (a' := ?_) #[true, true, true, true, true, true, true, true, true, true, true, true, true, true, true, true, true, true, true, true, true, true, true, true, false, false, false] rfl rfl (take_ofW HT_.out HW_.out (by kernel_rfl)) (fun _ _ _ h => h) (Or.inl ⟨by rfl, ?_⟩) hHeld ?_ ?_
                                rotate_left
                                · rintro w' ⟨s0, s1, s2, s3, s4, s5⟩
                                  go_simp
                                  with_reducible rfl
                                rotate_left
                                · simp only [Act.put, List.setIfInBounds_toArray, List.set_cons_zero, List.set_cons_succ, i64_w, i32_w]
                                  rfl
                                refine pure_ (i := 24) (N := some 57) (v := ?_) (a' := ?_) #[true, true, true, true, true, true, true, true, true, true, true, true, true, true, true, true, true, true, true, true, true, true, true, true, true, false, false] rfl rfl (any_of HT_.out (by kernel_rfl)) (fun _ _ _ h => h) (Or.inl ⟨by rfl, ?_⟩) ?_ ?_
                                rotate_left
                                · intro w'
                                  go_simp
                                  with_reducible rfl
                                rotate_left
                                · simp only [Act.put, List.setIfInBounds_toArray, List.set_cons_zero, List.set_cons_succ, i64_w, i32_w]
                                  rfl
                                refine pure_ (i := 25) (N := some 58) (v := ?_) (a' := ?_) #[true, true, true, true, true, true, true, true, true, true, true, true, true, true, true, true, true, true, true, true, true, true, true, true, true, true, false] rfl rfl (any_of HT_.out (by kernel_rfl)) (fun _ _ _ h => h) (Or.inl ⟨by rfl, ?_⟩) ?_ ?_
                                rotate_left
                                · intro w'
                                  go_simp
                                  with_reducible rfl
                                rotate_left
                                · simp only [Act.put, List.setIfInBounds_toArray, List.set_cons_zero, List.set_cons_succ, i64_w, i32_w]
                                  rfl
                                refine last_ (i := 26) (N := none) #[true, true, true, true, true, true, true, true, true, true, true, true, true, true, true, true, true, true, true, true, true, true, true, true, true, true, true] rfl rfl (one_of HT_.out (by kernel_rfl)) (by decide) (fun K hK => ?_)
                                refine skip_ (w1 := ?_) (by rfl) rfl ?_ ?_
                                rotate_left
                                · go_simp
                                  rfl
                                refine hK.out _ _ ?_
                                clear hK K
                                refine done_ (done_of HT_.out (by kernel_rfl)) ?_
                                try go_wp2
                                (try simp only [← hl5_2])
                                go_roundg k2
                                case measure => have := HK1.out; have := HK2.out; omega
                                case rel => exact ⟨(y172), (wrap64 (x7_2 + 1)), (by first | rfl | (simp; done) | (simp [*]; done)), H', ⟨by have := HK1.out; have := HK2.out; omega⟩, ⟨by (try simp only [hl5_1]); (try simp only [hl5_2]); (with_reducible repeat (first | apply Kd.R_alloc | apply Kd.R_drewN | apply Kd.R_drew)); exact HQ25.out⟩, ⟨by repeat (first | (with_reducible first | exact HB.out | apply below_alloc | apply pw_below_drewN | apply below_drew1 | refine below_set ?_ GB7.out) | exact HB.out)⟩⟩
                              · rw [if_neg c21] at H
                                exact absurd H (by simp)
                            · rw [if_neg c20] at H
                              exact absurd H (by simp)
                          · rw [if_neg c19] at H
                            exact absurd H (by simp)
                        · rw [if_neg c18] at H
                          exact absurd H (by simp)
                      · replace c16 := Bool.eq_false_iff.mpr c16
                        subst c16
                        have H1 : (spec_l6fFrom.l1 k2 l0 l1 x5_2 x6_1 (wrap64 (x7_2 + 1))) = some r := by rw [if_neg (show ¬ (false = true) by decide)] at H; exact H
                        clear H
                        have H := H1
                        clear H1
                        have H' := Aside0.mk H
                        clear H
                        have p166 : 0 ≤ (x7_2 : Int) := of_decide_eq_true (by first | (with_reducible assumption) | assumption)
                        have q166 : x7_2 < (l0.length : Int) := of_decide_eq_true (by first | (with_reducible assumption) | assumption)
                        obtain ⟨ad166, A166_0, c166_0, e166, hx166_0, hx166_1, hl166_0, hi166_0⟩ := at_T55 HR0.out x7_2 p166 q166
                        cases e166
                        replace hx166_0 := (HB.out.cell (World.block_lt_of_cell? w _ hx166_0)).trans hx166_0
                        replace hx166_1 := (HB.out.cell (World.block_lt_of_cell? w _ hx166_1)).trans hx166_1
                        have HR166_0 := Aside0.mk hi166_0
                        have HC166_0 := Aside0.mk hl166_0
                        clear hi166_0 hl166_0
                        replace p166 := eq_true p166
                        replace q166 := eq_true q166
                        go_wp2_with (first | ((with_reducible refine gate_callee (f := 83) rfl ?_); refine goesL_ (some 32) rfl rfl Try.func83 (by kernel_rfl) rfl #[.agg #[.slice A166_0 ((rd_T55 l0 x7_2).f0).length c166_0, .int .i64 ((rd_T55 l0 x7_2).f1)], .slice A1 l1.length c1, .int .i64 x6_1] rfl (by (try simp only [List.map_toArray, List.map_cons, List.map_nil]); first | done | rfl | (simp only [List.length_drop, List.length_take]; rfl)) ?_; (with_reducible refine (spec_l6fAt.calls k2 _ _ ((rd_T55 l0 x7_2).f0) ((rd_T55 l0 x7_2).f1) _ _ l1 x6_1 false _ ?side1 ?side2 ?side3 ?side4 A15.out).mono ?_); (case side1 => repeat (first | exact (Kd.C_below HR166_0.out HB.out) | (with_reducible refine Kd.C_alloc ?_ _) | (with_reducible refine Kd.C_drewN ?_ _) | (with_reducible refine Kd.C_drew ?_))); (case side2 => exact HC166_0.out); (case side3 => repeat (first | exact (Kd.C_below HR1.out HB.out) | (with_reducible refine Kd.C_alloc ?_ _) | (with_reducible refine Kd.C_drewN ?_ _) | (with_reducible refine Kd.C_drew ?_))); (case side4 => exact HC1.out); rintro e w26 ⟨rfl, hb⟩; refine ⟨_, rfl, ?_⟩; have n0_ := Aside0.mk (Kd.R_below (by (with_reducible repeat (first | apply Kd.R_alloc | apply Kd.R_drewN | apply Kd.R_drew)); exact HO_5.out) hb); have n1_ := Aside0.mk (below_step (by repeat (first | (with_reducible first | exact HB.out | apply below_alloc | apply pw_below_drewN | apply below_drew1) | exact HB.out)) hb); clear HO_5; clear HB; have HO_5 := n0_; have HB := n1_; clear n0_ n1_; (try clear hb); (try clear hb2); (try clear hk); (try clear hi)))
                        (try simp only [← hl5_2])
                        go_roundg k2
                        case measure => have := HK1.out; have := HK2.out; omega
                        case rel => exact ⟨(x5_2), (wrap64 (x7_2 + 1)), (by first | rfl | (simp; done) | (simp [*]; done)), H', ⟨by have := HK1.out; have := HK2.out; omega⟩, ⟨by (try simp only [hl5_1]); (try simp only [hl5_2]); (with_reducible repeat (first | apply Kd.R_alloc | apply Kd.R_drewN | apply Kd.R_drew)); exact HO_5.out⟩, ⟨by repeat (first | (with_reducible first | exact HB.out | apply below_alloc | apply pw_below_drewN | apply below_drew1) | exact HB.out)⟩⟩
                    · rw [if_neg c14] at H
                      exact absurd H (by simp)
                  · rw [if_neg c13] at H
                    have c13b0 : decide (x7_2 < (l0.length : Int)) = false := decide_eq_false c13
                    clear c13
                    have H' := Aside0.mk H
                    clear H
                    go_wp2
                    (try simp only [← hl5_1, ← hl5_2])
                    go_roundg k2
                    case measure => have := HK1.out; have := HK2.out; omega
                    case rel => exact ⟨(x5_2), (wrap64 (x6_1 + 1)), (by first | rfl | (simp; done) | (simp [*]; done)), H', ⟨by have := HK1.out; have := HK2.out; omega⟩, ⟨by (try simp only [hl5_1]); (try simp only [hl5_2]); (with_reducible repeat (first | apply Kd.R_alloc | apply Kd.R_drewN | apply Kd.R_drew)); exact HO_5.out⟩, ⟨by repeat (first | (with_reducible first | exact HB.out | apply below_alloc | apply pw_below_drewN | apply below_drew1) | exact HB.out)⟩⟩
            · rw [if_neg c12] at H
              have c12b0 : decide (x6_1 < (l1.length : Int)) = false := decide_eq_false c12
              clear c12
              obtain rfl := Option.some.inj H
              go_wp2
              go_ret
              exact ⟨_, by first | rfl | (simp [errW_none, errW_some] <;> rfl) | (simp only [← hji3]; first | rfl | (simp [errW_none, errW_some] <;> rfl)) | (simp [*, errW_none, errW_some] <;> rfl), by (with_reducible repeat (first | apply Kd.R_alloc | apply Kd.R_drewN | apply Kd.R_drew)); exact HO_5.out, by repeat (first | (with_reducible first | exact HB.out | apply below_alloc | apply pw_below_drewN | apply below_drew1) | exact HB.out)⟩
      · rw [if_neg c6] at H
        exact absurd H (by simp)
    · rw [if_neg c5] at H
      exact absurd H (by simp)
  · rw [if_neg c4] at H
    exact absurd H (by simp)

/-! spec_FormulasUsed: as the print has it, but the cut list has a name of its own -/
mutual
def spec_FormulasUsed.l0 : Nat → List (S55) → List Int → List Int → List Int → List Int → Int → Option (List Int)
  | 0, _, _, _, _, _, _ => none
  | k + 1, x0, x1, x5, x6, x7, x8 => if x8 < (x0.length : Int) then (spec_FormulasUsed.l1 k x0 x1 x5 x6 x7 x8 false 0) else (some x5)
def spec_FormulasUsed.l1 : Nat → List (S55) → List Int → List Int → List Int → List Int → Int → Bool → Int → Option (List Int)
  | 0, _, _, _, _, _, _, _, _ => none
  | k + 1, x0, x1, x5, x6, x7, x8, x9, x10 => if x10 < (x1.length : Int) then (if x9 = true then (spec_FormulasUsed.l1 k x0 x1 x5 x6 x7 x8 true (wrap64 (x10 + 1))) else (if 0 ≤ x8 then (if x8 < (x0.length : Int) then ((spec_l6fAt.f k ((rd_T55 x0 x8).f0) ((rd_T55 x0 x8).f1) x1 x10).bind fun t184 => (if t184 = true then (if 0 ≤ x10 then (if x10 < (x7.length : Int) then (if (rd x7 x10) > 0 then (if 0 ≤ (wrap64 (x10 + (((rd_T55 x0 x8).f0).length : Int))) then (if (wrap64 (x10 + (((rd_T55 x0 x8).f0).length : Int))) < (x6.length : Int) then (spec_FormulasUsed.l1 k x0 x1 x5 x6 x7 x8 (decide ((rd x6 (wrap64 (x10 + (((rd_T55 x0 x8).f0).length : Int)))) > 0)) (wrap64 (x10 + 1))) else (none)) else (none)) else (spec_FormulasUsed.l1 k x0 x1 x5 x6 x7 x8 false (wrap64 (x10 + 1)))) else (none)) else (none)) else (spec_FormulasUsed.l1 k x0 x1 x5 x6 x7 x8 false (wrap64 (x10 + 1))))) else (none)) else (none))) else (if x9 = true then (if x5.length < 17592186044416 then (spec_FormulasUsed.l0 k x0 x1 (x5 ++ [x8]) x6 x7 (wrap64 (x8 + 1))) else (none)) else (spec_FormulasUsed.l0 k x0 x1 x5 x6 x7 (wrap64 (x8 + 1))))
end
def spec_FormulasUsed.f (k : Nat) (l0 : List (S55)) (l1 : List Int) : Option (List Int) := (some (([] : List Int) : List Int)).bind fun y173 => ((spec_l6fOk.f k l0 l1).bind fun t176 => (if t176 = true then ((spec_l6fWays.f k l0 l1).bind fun t177 => ((spec_l6fFrom.f k l0 l1).bind fun t180 => (spec_FormulasUsed.l0 k l0 l1 y173 t177 t180 0))) else (some y173)))
theorem spec_FormulasUsed.mono_l : ∀ k, (∀ y0 y1 y2 y3 y4 y5, LeO (spec_FormulasUsed.l0 k y0 y1 y2 y3 y4 y5) (spec_FormulasUsed.l0 (k + 1) y0 y1 y2 y3 y4 y5)) ∧ (∀ y0 y1 y2 y3 y4 y5 y6 y7, LeO (spec_FormulasUsed.l1 k y0 y1 y2 y3 y4 y5 y6 y7) (spec_FormulasUsed.l1 (k + 1) y0 y1 y2 y3 y4 y5 y6 y7))
  | 0 => ⟨fun _ _ _ _ _ _ r h => by simp [spec_FormulasUsed.l0] at h, fun _ _ _ _ _ _ _ _ r h => by simp [spec_FormulasUsed.l1] at h⟩
  | k + 1 => by
    obtain ⟨ih0, ih1⟩ := spec_FormulasUsed.mono_l k
    refine ⟨?_, ?_⟩
    · intro y0 y1 y2 y3 y4 y5
      unfold spec_FormulasUsed.l0
      repeat' first
      | (with_reducible exact ih0 _ _ _ _ _ _)
      | (with_reducible exact ih1 _ _ _ _ _ _ _ _)
      | (with_reducible exact spec_l6fAt.mono _ _ _ _ _)
      | (with_reducible exact spec_l6fFrom.mono _ _ _)
      | (with_reducible exact spec_l6fOk.mono _ _ _)
      | (with_reducible exact spec_l6fWays.mono _ _ _)
      | (with_reducible exact LeO.refl _)
      | (with_reducible exact LeO.none _)
      | (with_reducible refine LeO.ite ?_ ?_)
      | (with_reducible refine LeO.bind ?_ (fun _ => ?_))
      | exact ih0 _ _ _ _ _ _
      | exact ih1 _ _ _ _ _ _ _ _
      | exact spec_l6fAt.mono _ _ _ _ _
      | exact spec_l6fFrom.mono _ _ _
      | exact spec_l6fOk.mono _ _ _
      | exact spec_l6fWays.mono _ _ _
      | exact LeO.none _
      | refine LeO.ite ?_ ?_
      | refine LeO.bind ?_ (fun _ => ?_)
    · intro y0 y1 y2 y3 y4 y5 y6 y7
      unfold spec_FormulasUsed.l1
      repeat' first
      | (with_reducible exact ih0 _ _ _ _ _ _)
      | (with_reducible exact ih1 _ _ _ _ _ _ _ _)
      | (with_reducible exact spec_l6fAt.mono _ _ _ _ _)
      | (with_reducible exact spec_l6fFrom.mono _ _ _)
      | (with_reducible exact spec_l6fOk.mono _ _ _)
      | (with_reducible exact spec_l6fWays.mono _ _ _)
      | (with_reducible exact LeO.refl _)
      | (with_reducible exact LeO.none _)
      | (with_reducible refine LeO.ite ?_ ?_)
      | (with_reducible refine LeO.bind ?_ (fun _ => ?_))
      | exact ih0 _ _ _ _ _ _
      | exact ih1 _ _ _ _ _ _ _ _
      | exact spec_l6fAt.mono _ _ _ _ _
      | exact spec_l6fFrom.mono _ _ _
      | exact spec_l6fOk.mono _ _ _
      | exact spec_l6fWays.mono _ _ _
      | exact LeO.none _
      | refine LeO.ite ?_ ?_
      | refine LeO.bind ?_ (fun _ => ?_)
theorem spec_FormulasUsed.mono : ∀ a0 a1 k, LeO (spec_FormulasUsed.f k a0 a1) (spec_FormulasUsed.f (k + 1) a0 a1) := by
  intro a0 a1 k
  obtain ⟨ih0, ih1⟩ := spec_FormulasUsed.mono_l k
  unfold spec_FormulasUsed.f
  repeat' first
      | (with_reducible exact ih0 _ _ _ _ _ _)
      | (with_reducible exact ih1 _ _ _ _ _ _ _ _)
      | (with_reducible exact spec_l6fAt.mono _ _ _ _ _)
      | (with_reducible exact spec_l6fFrom.mono _ _ _)
      | (with_reducible exact spec_l6fOk.mono _ _ _)
      | (with_reducible exact spec_l6fWays.mono _ _ _)
      | (with_reducible exact LeO.refl _)
      | (with_reducible exact LeO.none _)
      | (with_reducible refine LeO.ite ?_ ?_)
      | (with_reducible refine LeO.bind ?_ (fun _ => ?_))
      | exact ih0 _ _ _ _ _ _
      | exact ih1 _ _ _ _ _ _ _ _
      | exact spec_l6fAt.mono _ _ _ _ _
      | exact spec_l6fFrom.mono _ _ _
      | exact spec_l6fOk.mono _ _ _
      | exact spec_l6fWays.mono _ _ _
      | exact LeO.none _
      | refine LeO.ite ?_ ?_
      | refine LeO.bind ?_ (fun _ => ?_)
set_option maxHeartbeats 8000000 in
set_option maxRecDepth 100000 in
theorem spec_FormulasUsed.calls (k : Nat) (A0 : Option Addr) (c0 : Nat) (l0 : List (S55)) (A1 : Option Addr) (c1 : Nat) (l1 : List Int) (r : List Int) (w : World) (hr0 : Kd.C k55 w A0 l0.length l0) (hc0 : l0.length ≤ c0) (hr1 : Kd.C (Kd.int .i64) w A1 l1.length l1) (hc1 : l1.length ≤ c1) (h : spec_FormulasUsed.f k l0 l1 = some r) :
    Calls Try.prog 33 #[.slice A0 l0.length c0, .slice A1 l1.length c1] w fun e w' => ∃ v0_ : Value, e = .returned (v0_) ∧ Kd.R (Kd.int .i64) 3 w' w.heap.size (fun _ => True) v0_ r ∧ Below w.heap.size w w' := by
  have hu55 := Try.underlying55
  have HR0 := Aside0.mk hr0
  have HC0 := Aside0.mk hc0
  clear hr0 hc0
  have HR1 := Aside0.mk hr1
  have HC1 := Aside0.mk hc1
  clear hr1 hc1
  have HB := Aside0.mk (Below.refl w.heap.size w)
  have H : ((some (([] : List Int) : List Int)).bind fun y173 => ((spec_l6fOk.f k l0 l1).bind fun t176 => (if t176 = true then ((spec_l6fWays.f k l0 l1).bind fun t177 => ((spec_l6fFrom.f k l0 l1).bind fun t180 => (spec_FormulasUsed.l0 k l0 l1 y173 t177 t180 0))) else (some y173)))) = some r := h
  clear h
  obtain ⟨y173, hy173⟩ : ∃ y_ : List Int, y_ = (([] : List Int)) := ⟨_, rfl⟩
  replace H : ((spec_l6fOk.f k l0 l1).bind fun t176 => (if t176 = true then ((spec_l6fWays.f k l0 l1).bind fun t177 => ((spec_l6fFrom.f k l0 l1).bind fun t180 => (spec_FormulasUsed.l0 k l0 l1 y173 t177 t180 0))) else (some y173))) = some r := by first | (rw [hy173]; with_reducible exact H) | (have H2_ := (Option.bind_some _ _).symm.trans H; rw [hy173]; with_reducible exact H2_) | (have H2_ := (Option.bind_some _ _).symm.trans H; with_reducible exact H2_) | with_reducible exact H | (rw [hy173]; exact H) | exact H
  have Ny173 := Aside0.mk hy173
  clear hy173
  replace H := Option.bind_eq_some_iff.mp H
  obtain ⟨t176, A30, H⟩ := H
  replace H : (if t176 = true then ((spec_l6fWays.f k l0 l1).bind fun t177 => ((spec_l6fFrom.f k l0 l1).bind fun t180 => (spec_FormulasUsed.l0 k l0 l1 y173 t177 t180 0))) else (some y173)) = some r := H
  have A3 := Aside0.mk A30
  clear A30
  by_cases c4 : t176 = true
  · subst c4
    have H1 : ((spec_l6fWays.f k l0 l1).bind fun t177 => ((spec_l6fFrom.f k l0 l1).bind fun t180 => (spec_FormulasUsed.l0 k l0 l1 y173 t177 t180 0))) = some r := by rw [if_pos rfl] at H; exact H
    clear H
    have H := H1
    clear H1
    replace H := Option.bind_eq_some_iff.mp H
    obtain ⟨t177, A50, H⟩ := H
    replace H : ((spec_l6fFrom.f k l0 l1).bind fun t180 => (spec_FormulasUsed.l0 k l0 l1 y173 t177 t180 0)) = some r := H
    have A5 := Aside0.mk A50
    clear A50
    replace H := Option.bind_eq_some_iff.mp H
    obtain ⟨t180, A60, H⟩ := H
    replace H : (spec_FormulasUsed.l0 k l0 l1 y173 t177 t180 0) = some r := H
    have A6 := Aside0.mk A60
    clear A60
    have H' := Aside0.mk H
    clear H
    go_enter Try.func33, Try.ntmps33
    go_wp2_with (first | ((with_reducible refine gate_dst (N := 11) rfl ?_); (try (refine gate_guard (by rfl) ?_; dsimp only)); refine Kd.R_lit (Kd.int .i64) _ 3 ?hg (N := 11) ?hd (xs := ([] : List Int)) (inner := []) (ok := fun _ => True) (okp := fun _ => True) ?hr ?hp (fun _ hk => hk) trivial (Below.refl _ _) (Nat.le_refl _) (by simp) ?_; (case hd => rfl); (case hg => rfl); (case hr => first | (go_simp; done) | (go_simp; rfl)); (case hp => exact (Reps.none _ _)); intro v174 w7 ho8 hb hg_ hnew_; clear hg_ hnew_; (first | rw [← Ny173.out] at ho8 | (simp only [Int.reduceToNat] at ho8; rw [← Ny173.out] at ho8)); have n0_ := Aside0.mk (Kd.R_lower ho8 (below_size (by repeat (first | (with_reducible first | exact HB.out | apply below_alloc | apply pw_below_drewN | apply below_drew1) | exact HB.out)))); have n1_ := Aside0.mk (below_step (by repeat (first | (with_reducible first | exact HB.out | apply below_alloc | apply pw_below_drewN | apply below_drew1) | exact HB.out)) hb); clear HB; have HO175 := n0_; have HB := n1_; clear n0_ n1_; clear hb ho8) | ((with_reducible refine gate_callee (f := 81) rfl ?_); refine goesL_ (some 14) rfl rfl Try.func81 (by kernel_rfl) rfl #[.slice A0 l0.length c0, .slice A1 l1.length c1] rfl (by (try simp only [List.map_toArray, List.map_cons, List.map_nil]); first | done | rfl | (simp only [List.length_drop, List.length_take]; rfl)) ?_; (with_reducible refine (spec_l6fOk.calls k _ _ l0 _ _ l1 true _ ?side1 ?side2 ?side3 ?side4 A3.out).mono ?_); (case side1 => repeat (first | exact (Kd.C_below HR0.out HB.out) | (with_reducible refine Kd.C_alloc ?_ _) | (with_reducible refine Kd.C_drewN ?_ _) | (with_reducible refine Kd.C_drew ?_))); (case side2 => exact HC0.out); (case side3 => repeat (first | exact (Kd.C_below HR1.out HB.out) | (with_reducible refine Kd.C_alloc ?_ _) | (with_reducible refine Kd.C_drewN ?_ _) | (with_reducible refine Kd.C_drew ?_))); (case side4 => exact HC1.out); rintro e w9 ⟨rfl, hb⟩; refine ⟨_, rfl, ?_⟩; have n0_ := Aside0.mk (Kd.R_below (by (with_reducible repeat (first | apply Kd.R_alloc | apply Kd.R_drewN | apply Kd.R_drew)); exact HO175.out) hb); have n1_ := Aside0.mk (below_step (by repeat (first | (with_reducible first | exact HB.out | apply below_alloc | apply pw_below_drewN | apply below_drew1) | exact HB.out)) hb); clear HO175; clear HB; have HO175 := n0_; have HB := n1_; clear n0_ n1_; (try clear hb); (try clear hb2); (try clear hk); (try clear hi)) | ((with_reducible refine gate_callee (f := 84) rfl ?_); refine goesL_ (some 19) rfl rfl Try.func84 (by kernel_rfl) rfl #[.slice A0 l0.length c0, .slice A1 l1.length c1] rfl (by (try simp only [List.map_toArray, List.map_cons, List.map_nil]); first | done | rfl | (simp only [List.length_drop, List.length_take]; rfl)) ?_; (with_reducible refine (spec_l6fWays.calls k _ _ l0 _ _ l1 t177 _ ?side1 ?side2 ?side3 ?side4 A5.out).mono ?_); (case side1 => repeat (first | exact (Kd.C_below HR0.out HB.out) | (with_reducible refine Kd.C_alloc ?_ _) | (with_reducible refine Kd.C_drewN ?_ _) | (with_reducible refine Kd.C_drew ?_))); (case side2 => exact HC0.out); (case side3 => repeat (first | exact (Kd.C_below HR1.out HB.out) | (with_reducible refine Kd.C_alloc ?_ _) | (with_reducible refine Kd.C_drewN ?_ _) | (with_reducible refine Kd.C_drew ?_))); (case side4 => exact HC1.out); rintro e w10 ⟨v178, rfl, ho0, hb⟩; refine ⟨_, rfl, ?_⟩; have n0_ := Aside0.mk (Kd.R_elder' (by (with_reducible repeat (first | apply Kd.R_alloc | apply Kd.R_drewN | apply Kd.R_drew)); exact HO175.out) (Kd.R_base ho0) hb); have n1_ := Aside0.mk (Kd.R_lower (Kd.R_new' ho0 (Kd.R_lt (by (with_reducible repeat (first | apply Kd.R_alloc | apply Kd.R_drewN | apply Kd.R_drew)); exact HO175.out))) (below_size (by repeat (first | (with_reducible first | exact HB.out | apply below_alloc | apply pw_below_drewN | apply below_drew1) | exact HB.out)))); have n2_ := Aside0.mk (below_step (by repeat (first | (with_reducible first | exact HB.out | apply below_alloc | apply pw_below_drewN | apply below_drew1) | exact HB.out)) hb); clear HO175; clear HB; have HO175 := n0_; have HO179 := n1_; have HB := n2_; clear n0_ n1_ n2_; (try clear hb); (try clear hb2); (try clear hk); (try clear hi); (try clear ho0)) | ((with_reducible refine gate_callee (f := 85) rfl ?_); refine goesL_ (some 22) rfl rfl Try.func85 (by kernel_rfl) rfl #[.slice A0 l0.length c0, .slice A1 l1.length c1] rfl (by (try simp only [List.map_toArray, List.map_cons, List.map_nil]); first | done | rfl | (simp only [List.length_drop, List.length_take]; rfl)) ?_; (with_reducible refine (spec_l6fFrom.calls k _ _ l0 _ _ l1 t180 _ ?side1 ?side2 ?side3 ?side4 A6.out).mono ?_); (case side1 => repeat (first | exact (Kd.C_below HR0.out HB.out) | (with_reducible refine Kd.C_alloc ?_ _) | (with_reducible refine Kd.C_drewN ?_ _) | (with_reducible refine Kd.C_drew ?_))); (case side2 => exact HC0.out); (case side3 => repeat (first | exact (Kd.C_below HR1.out HB.out) | (with_reducible refine Kd.C_alloc ?_ _) | (with_reducible refine Kd.C_drewN ?_ _) | (with_reducible refine Kd.C_drew ?_))); (case side4 => exact HC1.out); rintro e w11 ⟨v181, rfl, ho0, hb⟩; refine ⟨_, rfl, ?_⟩; have n0_ := Aside0.mk (Kd.R_elder' (by (with_reducible repeat (first | apply Kd.R_alloc | apply Kd.R_drewN | apply Kd.R_drew)); exact HO175.out) (Kd.R_base ho0) hb); have n1_ := Aside0.mk (Kd.R_elder' (by (with_reducible repeat (first | apply Kd.R_alloc | apply Kd.R_drewN | apply Kd.R_drew)); exact HO179.out) (Kd.R_base ho0) hb); have n2_ := Aside0.mk (Kd.R_lower (Kd.R_new' (Kd.R_new' ho0 (Kd.R_lt (by (with_reducible repeat (first | apply Kd.R_alloc | apply Kd.R_drewN | apply Kd.R_drew)); exact HO175.out))) (Kd.R_lt (by (with_reducible repeat (first | apply Kd.R_alloc | apply Kd.R_drewN | apply Kd.R_drew)); exact HO179.out))) (below_size (by repeat (first | (with_reducible first | exact HB.out | apply below_alloc | apply pw_below_drewN | apply below_drew1) | exact HB.out)))); have n3_ := Aside0.mk (below_step (by repeat (first | (with_reducible first | exact HB.out | apply below_alloc | apply pw_below_drewN | apply below_drew1) | exact HB.out)) hb); clear HO175; clear HO179; clear HB; have HO175 := n0_; have HO179 := n1_; have HO182 := n2_; have HB := n3_; clear n0_ n1_ n2_ n3_; (try clear hb); (try clear hb2); (try clear hk); (try clear hi); (try clear ho0)))
    go_loopg [5, 8] k (fun kq v5 v8 w' => ∃ (x5_1 : List Int) (x8_1 : Int), v8 = .int .i64 x8_1 ∧ Aside0 (spec_FormulasUsed.l0 kq l0 l1 x5_1 t177 t180 x8_1 = some r) ∧ Aside0 (kq ≤ k) ∧ Aside0 (Kd.R (Kd.int .i64) 3 w' w.heap.size (fun k_ => some k_ ≠ (v178 : Value).ownBlock ∧ some k_ ≠ (v181 : Value).ownBlock) v5 x5_1) ∧ Aside0 (Kd.R (Kd.int .i64) 3 w' w.heap.size (fun k_ => some k_ ≠ (v5 : Value).ownBlock ∧ some k_ ≠ (v181 : Value).ownBlock) v178 t177) ∧ Aside0 (Kd.R (Kd.int .i64) 3 w' w.heap.size (fun k_ => some k_ ≠ (v5 : Value).ownBlock ∧ some k_ ≠ (v178 : Value).ownBlock) v181 t180) ∧ Aside0 (Below w.heap.size w w'))
    case atStart => exact ⟨(y173), (0), (by first | rfl | (simp; done) | (simp [*]; done)), H', ⟨Nat.le_refl _⟩, ⟨by (with_reducible repeat (first | apply Kd.R_alloc | apply Kd.R_drewN | apply Kd.R_drew)); exact Kd.R_mono HO175.out (fun _ hk => ⟨hk.1.2, hk.2⟩)⟩, ⟨by (with_reducible repeat (first | apply Kd.R_alloc | apply Kd.R_drewN | apply Kd.R_drew)); exact Kd.R_mono HO179.out (fun _ hk => ⟨hk.1.2, hk.2⟩)⟩, ⟨by (with_reducible repeat (first | apply Kd.R_alloc | apply Kd.R_drewN | apply Kd.R_drew)); exact Kd.R_mono HO182.out (fun _ hk => ⟨hk.1.2, hk.2⟩)⟩, ⟨by repeat (first | (with_reducible first | exact HB.out | apply below_alloc | apply pw_below_drewN | apply below_drew1) | exact HB.out)⟩⟩
    case round =>
      clear H'
      try clear c1
      try clear p2
      try clear c3
      try clear c4
      try clear c8
      obtain ⟨x5_1, x8_1, rfl, HA, HK1, HO_5, HO_6, HO_7, HB⟩ := hrel
      cases gk with
      | zero => exact absurd HA.out (by simp [spec_FormulasUsed.l0])
      | succ k1 =>
        have H := HA.out
        clear HA
        simp only [spec_FormulasUsed.l0] at H
        by_cases c12 : x8_1 < (l0.length : Int)
        · rw [if_pos c12] at H
          have c12b0 : decide (x8_1 < (l0.length : Int)) = true := decide_eq_true c12
          clear c12
          have H' := Aside0.mk H
          clear H
          go_wp2
          go_loopg [9, 10] k1 (fun kq v9 v10 w' => ∃ (x9_2 : Bool) (x10_2 : Int), v9 = .bool x9_2 ∧ v10 = .int .i64 x10_2 ∧ Aside0 (spec_FormulasUsed.l1 kq l0 l1 x5_1 t177 t180 x8_1 x9_2 x10_2 = some r) ∧ Aside0 (kq ≤ k1) ∧ Aside0 (Kd.R (Kd.int .i64) 3 w' w.heap.size (fun k_ => some k_ ≠ (v178 : Value).ownBlock ∧ some k_ ≠ (v181 : Value).ownBlock) u5 x5_1) ∧ Aside0 (Kd.R (Kd.int .i64) 3 w' w.heap.size (fun k_ => some k_ ≠ (u5 : Value).ownBlock ∧ some k_ ≠ (v181 : Value).ownBlock) v178 t177) ∧ Aside0 (Kd.R (Kd.int .i64) 3 w' w.heap.size (fun k_ => some k_ ≠ (u5 : Value).ownBlock ∧ some k_ ≠ (v178 : Value).ownBlock) v181 t180) ∧ Aside0 (Below w.heap.size w w'))
          case atStart => exact ⟨(false), (0), (by first | rfl | (simp; done) | (simp [*]; done)), (by first | rfl | (simp; done) | (simp [*]; done)), H', ⟨Nat.le_refl _⟩, ⟨by (with_reducible repeat (first | apply Kd.R_alloc | apply Kd.R_drewN | apply Kd.R_drew)); exact HO_5.out⟩, ⟨by (with_reducible repeat (first | apply Kd.R_alloc | apply Kd.R_drewN | apply Kd.R_drew)); exact HO_6.out⟩, ⟨by (with_reducible repeat (first | apply Kd.R_alloc | apply Kd.R_drewN | apply Kd.R_drew)); exact HO_7.out⟩, ⟨by repeat (first | (with_reducible first | exact HB.out | apply below_alloc | apply pw_below_drewN | apply below_drew1) | exact HB.out)⟩⟩
          case round =>
            clear H'
            try clear c1
            try clear p2
            try clear c3
            try clear c4
            try clear c8
            try clear c12
            try clear c12b0
            try clear p2
            obtain ⟨x9_2, x10_2, rfl, rfl, HA, HK2, HO_5, HO_6, HO_7, HB⟩ := hrel
            cases gk with
            | zero => exact absurd HA.out (by simp [spec_FormulasUsed.l1])
            | succ k2 =>
              have H := HA.out
              clear HA
              simp only [spec_FormulasUsed.l1] at H
              by_cases c13 : x10_2 < (l1.length : Int)
              · rw [if_pos c13] at H
                have c13b0 : decide (x10_2 < (l1.length : Int)) = true := decide_eq_true c13
                clear c13
                by_cases c14 : x9_2 = true
                · subst c14
                  have H1 : (spec_FormulasUsed.l1 k2 l0 l1 x5_1 t177 t180 x8_1 true (wrap64 (x10_2 + 1))) = some r := by rw [if_pos rfl] at H; exact H
                  clear H
                  have H := H1
                  clear H1
                  have H' := Aside0.mk H
                  clear H
                  go_wp2
                  go_roundg k2
                  case measure => have := HK1.out; have := HK2.out; omega
                  case rel => exact ⟨(true), (wrap64 (x10_2 + 1)), (by first | rfl | (simp; done) | (simp [*]; done)), (by first | rfl | (simp; done) | (simp [*]; done)), H', ⟨by have := HK1.out; have := HK2.out; omega⟩, ⟨by (with_reducible repeat (first | apply Kd.R_alloc | apply Kd.R_drewN | apply Kd.R_drew)); exact HO_5.out⟩, ⟨by (with_reducible repeat (first | apply Kd.R_alloc | apply Kd.R_drewN | apply Kd.R_drew)); exact HO_6.out⟩, ⟨by (with_reducible repeat (first | apply Kd.R_alloc | apply Kd.R_drewN | apply Kd.R_drew)); exact HO_7.out⟩, ⟨by repeat (first | (with_reducible first | exact HB.out | apply below_alloc | apply pw_below_drewN | apply below_drew1) | exact HB.out)⟩⟩
                · replace c14 := Bool.eq_false_iff.mpr c14
                  subst c14
                  have H1 : (if 0 ≤ x8_1 then (if x8_1 < (l0.length : Int) then ((spec_l6fAt.f k2 ((rd_T55 l0 x8_1).f0) ((rd_T55 l0 x8_1).f1) l1 x10_2).bind fun t184 => (if t184 = true then (if 0 ≤ x10_2 then (if x10_2 < (t180.length : Int) then (if (rd t180 x10_2) > 0 then (if 0 ≤ (wrap64 (x10_2 + (((rd_T55 l0 x8_1).f0).length : Int))) then (if (wrap64 (x10_2 + (((rd_T55 l0 x8_1).f0).length : Int))) < (t177.length : Int) then (spec_FormulasUsed.l1 k2 l0 l1 x5_1 t177 t180 x8_1 (decide ((rd t177 (wrap64 (x10_2 + (((rd_T55 l0 x8_1).f0).length : Int)))) > 0)) (wrap64 (x10_2 + 1))) else (none)) else (none)) else (spec_FormulasUsed.l1 k2 l0 l1 x5_1 t177 t180 x8_1 false (wrap64 (x10_2 + 1)))) else (none)) else (none)) else (spec_FormulasUsed.l1 k2 l0 l1 x5_1 t177 t180 x8_1 false (wrap64 (x10_2 + 1))))) else (none)) else (none)) = some r := by rw [if_neg (show ¬ (false = true) by decide)] at H; exact H
                  clear H
                  have H := H1
                  clear H1
                  by_cases c15 : 0 ≤ x8_1
                  · rw [if_pos c15] at H
                    have c15b0 : decide (0 ≤ x8_1) = true := decide_eq_true c15
                    clear c15
                    by_cases c16 : x8_1 < (l0.length : Int)
                    · rw [if_pos c16] at H
                      have c16b0 : decide (x8_1 < (l0.length : Int)) = true := decide_eq_true c16
                      clear c16
                      replace H := Option.bind_eq_some_iff.mp H
                      obtain ⟨t184, A170, H⟩ := H
                      replace H : (if t184 = true then (if 0 ≤ x10_2 then (if x10_2 < (t180.length : Int) then (if (rd t180 x10_2) > 0 then (if 0 ≤ (wrap64 (x10_2 + (((rd_T55 l0 x8_1).f0).length : Int))) then (if (wrap64 (x10_2 + (((rd_T55 l0 x8_1).f0).length : Int))) < (t177.length : Int) then (spec_FormulasUsed.l1 k2 l0 l1 x5_1 t177 t180 x8_1 (decide ((rd t177 (wrap64 (x10_2 + (((rd_T55 l0 x8_1).f0).length : Int)))) > 0)) (wrap64 (x10_2 + 1))) else (none)) else (none)) else (spec_FormulasUsed.l1 k2 l0 l1 x5_1 t177 t180 x8_1 false (wrap64 (x10_2 + 1)))) else (none)) else (none)) else (spec_FormulasUsed.l1 k2 l0 l1 x5_1 t177 t180 x8_1 false (wrap64 (x10_2 + 1)))) = some r := H
                      have A17 := Aside0.mk A170
                      clear A170
                      by_cases c18 : t184 = true
                      · subst c18
                        have H1 : (if 0 ≤ x10_2 then (if x10_2 < (t180.length : Int) then (if (rd t180 x10_2) > 0 then (if 0 ≤ (wrap64 (x10_2 + (((rd_T55 l0 x8_1).f0).length : Int))) then (if (wrap64 (x10_2 + (((rd_T55 l0 x8_1).f0).length : Int))) < (t177.length : Int) then (spec_FormulasUsed.l1 k2 l0 l1 x5_1 t177 t180 x8_1 (decide ((rd t177 (wrap64 (x10_2 + (((rd_T55 l0 x8_1).f0).length : Int)))) > 0)) (wrap64 (x10_2 + 1))) else (none)) else (none)) else (spec_FormulasUsed.l1 k2 l0 l1 x5_1 t177 t180 x8_1 false (wrap64 (x10_2 + 1)))) else (none)) else (none)) = some r := by rw [if_pos rfl] at H; exact H
                        clear H
                        have H := H1
                        clear H1
                        by_cases c19 : 0 ≤ x10_2
                        · rw [if_pos c19] at H
                          have c19b0 : decide (0 ≤ x10_2) = true := decide_eq_true c19
                          clear c19
                          by_cases c20 : x10_2 < (t180.length : Int)
                          · rw [if_pos c20] at H
                            have c20b0 : decide (x10_2 < (t180.length : Int)) = true := decide_eq_true c20
                            clear c20
                            by_cases c21 : (rd t180 x10_2) > 0
                            · rw [if_pos c21] at H
                              have c21b0 : decide (0 < (rd t180 x10_2)) = true := decide_eq_true c21
                              clear c21
                              obtain ⟨ji22, hji22⟩ : ∃ j_ : Int, (wrap64 (x10_2 + (((rd_T55 l0 x8_1).f0).length : Int))) = j_ := ⟨_, rfl⟩
                              replace H : (if 0 ≤ (ji22) then (if (ji22) < (t177.length : Int) then (spec_FormulasUsed.l1 k2 l0 l1 x5_1 t177 t180 x8_1 (decide ((rd t177 (ji22)) > 0)) (wrap64 (x10_2 + 1))) else (none)) else (none)) = some r := by first | (rw [hji22] at H; exact H) | (simp only [hji22] at H ⊢; exact H)
                              (try rw [hji22] at A17)
                              have hji22w : (IntKind.i64.wrap (x10_2 + (((rd_T55 l0 x8_1).f0).length : Int))) = ji22 := (i64_w _).trans hji22
                              by_cases c23 : 0 ≤ (ji22)
                              · rw [if_pos c23] at H
                                have c23b0 : decide (0 ≤ (ji22)) = true := decide_eq_true c23
                                clear c23
                                by_cases c24 : (ji22) < (t177.length : Int)
                                · rw [if_pos c24] at H
                                  have c24b0 : decide ((ji22) < (t177.length : Int)) = true := decide_eq_true c24
                                  clear c24
                                  have H' := Aside0.mk H
                                  clear H
                                  have p183 : 0 ≤ (x8_1 : Int) := of_decide_eq_true (by first | (with_reducible assumption) | assumption)
                                  have q183 : x8_1 < (l0.length : Int) := of_decide_eq_true (by first | (with_reducible assumption) | assumption)
                                  obtain ⟨ad183, A183_0, c183_0, e183, hx183_0, hx183_1, hl183_0, hi183_0⟩ := at_T55 HR0.out x8_1 p183 q183
                                  cases e183
                                  replace hx183_0 := (HB.out.cell (World.block_lt_of_cell? w _ hx183_0)).trans hx183_0
                                  replace hx183_1 := (HB.out.cell (World.block_lt_of_cell? w _ hx183_1)).trans hx183_1
                                  have HR183_0 := Aside0.mk hi183_0
                                  have HC183_0 := Aside0.mk hl183_0
                                  clear hi183_0 hl183_0
                                  replace p183 := eq_true p183
                                  replace q183 := eq_true q183
                                  go_wp2_with (first | (go_at_call 83; (with_reducible refine (spec_l6fAt.calls k2 _ _ ((rd_T55 l0 x8_1).f0) ((rd_T55 l0 x8_1).f1) _ _ l1 x10_2 true _ ?side1 ?side2 ?side3 ?side4 A17.out).mono ?_); (case side1 => repeat (first | exact (Kd.C_below HR183_0.out HB.out) | (with_reducible refine Kd.C_alloc ?_ _) | (with_reducible refine Kd.C_drewN ?_ _) | (with_reducible refine Kd.C_drew ?_))); (case side2 => exact HC183_0.out); (case side3 => repeat (first | exact (Kd.C_below HR1.out HB.out) | (with_reducible refine Kd.C_alloc ?_ _) | (with_reducible refine Kd.C_drewN ?_ _) | (with_reducible refine Kd.C_drew ?_))); (case side4 => exact HC1.out); rintro e w25 ⟨rfl, hb⟩; have n0_ := Aside0.mk (Kd.R_below (by (with_reducible repeat (first | apply Kd.R_alloc | apply Kd.R_drewN | apply Kd.R_drew)); exact HO_5.out) hb); have n1_ := Aside0.mk (Kd.R_below (by (with_reducible repeat (first | apply Kd.R_alloc | apply Kd.R_drewN | apply Kd.R_drew)); exact HO_6.out) hb); have n2_ := Aside0.mk (Kd.R_below (by (with_reducible repeat (first | apply Kd.R_alloc | apply Kd.R_drewN | apply Kd.R_drew)); exact HO_7.out) hb); have n3_ := Aside0.mk (below_step (by repeat (first | (with_reducible first | exact HB.out | apply below_alloc | apply pw_below_drewN | apply below_drew1) | exact HB.out)) hb); clear HO_5; clear HO_6; clear HO_7; clear HB; have HO_5 := n0_; have HO_6 := n1_; have HO_7 := n2_; have HB := n3_; clear n0_ n1_ n2_ n3_; (try clear hb); (try clear hb2); (try clear hk); (try clear hi); obtain ⟨Ao26, co26, eo26⟩ := Kd.R_slice HO_7.out; subst eo26; have p185 : 0 ≤ (x10_2 : Int) := of_decide_eq_true (by first | (with_reducible assumption) | assumption); have q185 : x10_2 < (t180.length : Int) := of_decide_eq_true (by first | (with_reducible assumption) | assumption); obtain ⟨ad185, e185, hx185_0⟩ := Kd.at_int (Kd.R_reads' HO_7.out).2.2 x10_2 p185 q185; cases e185; replace p185 := eq_true p185; replace q185 := eq_true q185; have p186 : 0 ≤ (x8_1 : Int) := of_decide_eq_true (by first | (with_reducible assumption) | assumption); have q186 : x8_1 < (l0.length : Int) := of_decide_eq_true (by first | (with_reducible assumption) | assumption); obtain ⟨ad186, A186_0, c186_0, e186, hx186_0, hx186_1, hl186_0, hi186_0⟩ := at_T55 HR0.out x8_1 p186 q186; obtain rfl : ad183 = ad186 := (by injection e186); replace hx186_0 := (HB.out.cell (World.block_lt_of_cell? w _ hx186_0)).trans hx186_0; replace hx186_1 := (HB.out.cell (World.block_lt_of_cell? w _ hx186_1)).trans hx186_1; have HR186_0 := Aside0.mk hi186_0; have HC186_0 := Aside0.mk hl186_0; clear hi186_0 hl186_0; replace p186 := eq_true p186; replace q186 := eq_true q186; obtain ⟨Ao27, co27, eo27⟩ := Kd.R_slice HO_6.out; subst eo27; have p187 : 0 ≤ ((ji22) : Int) := of_decide_eq_true (by first | (with_reducible assumption) | assumption); have q187 : (ji22) < (t177.length : Int) := of_decide_eq_true (by first | (with_reducible assumption) | assumption); obtain ⟨ad187, e187, hx187_0⟩ := Kd.at_int (Kd.R_reads' HO_6.out).2.2 (ji22) p187 q187; cases e187; replace p187 := eq_true p187; replace q187 := eq_true q187))
                                  go_roundg k2
                                  case measure => have := HK1.out; have := HK2.out; omega
                                  case rel => exact ⟨(decide ((rd t177 (ji22)) > 0)), (wrap64 (x10_2 + 1)), (by first | rfl | (simp; done) | (simp only [← hji22] <;> (first | rfl | simp)) | (simp [*]; done)), (by first | rfl | (simp; done) | (simp [*]; done)), H', ⟨by have := HK1.out; have := HK2.out; omega⟩, ⟨by (with_reducible repeat (first | apply Kd.R_alloc | apply Kd.R_drewN | apply Kd.R_drew)); exact HO_5.out⟩, ⟨by (with_reducible repeat (first | apply Kd.R_alloc | apply Kd.R_drewN | apply Kd.R_drew)); exact HO_6.out⟩, ⟨by (with_reducible repeat (first | apply Kd.R_alloc | apply Kd.R_drewN | apply Kd.R_drew)); exact HO_7.out⟩, ⟨by repeat (first | (with_reducible first | exact HB.out | apply below_alloc | apply pw_below_drewN | apply below_drew1) | exact HB.out)⟩⟩
                                · rw [if_neg c24] at H
                                  exact absurd H (by simp)
                              · rw [if_neg c23] at H
                                exact absurd H (by simp)
                            · rw [if_neg c21] at H
                              have c21b0 : decide (0 < (rd t180 x10_2)) = false := decide_eq_false c21
                              clear c21
                              have H' := Aside0.mk H
                              clear H
                              have p183 : 0 ≤ (x8_1 : Int) := of_decide_eq_true (by first | (with_reducible assumption) | assumption)
                              have q183 : x8_1 < (l0.length : Int) := of_decide_eq_true (by first | (with_reducible assumption) | assumption)
                              obtain ⟨ad183, A183_0, c183_0, e183, hx183_0, hx183_1, hl183_0, hi183_0⟩ := at_T55 HR0.out x8_1 p183 q183
                              cases e183
                              replace hx183_0 := (HB.out.cell (World.block_lt_of_cell? w _ hx183_0)).trans hx183_0
                              replace hx183_1 := (HB.out.cell (World.block_lt_of_cell? w _ hx183_1)).trans hx183_1
                              have HR183_0 := Aside0.mk hi183_0
                              have HC183_0 := Aside0.mk hl183_0
                              clear hi183_0 hl183_0
                              replace p183 := eq_true p183
                              replace q183 := eq_true q183
                              go_wp2_with (first | (go_at_call 83; (with_reducible refine (spec_l6fAt.calls k2 _ _ ((rd_T55 l0 x8_1).f0) ((rd_T55 l0 x8_1).f1) _ _ l1 x10_2 true _ ?side1 ?side2 ?side3 ?side4 A17.out).mono ?_); (case side1 => repeat (first | exact (Kd.C_below HR183_0.out HB.out) | (with_reducible refine Kd.C_alloc ?_ _) | (with_reducible refine Kd.C_drewN ?_ _) | (with_reducible refine Kd.C_drew ?_))); (case side2 => exact HC183_0.out); (case side3 => repeat (first | exact (Kd.C_below HR1.out HB.out) | (with_reducible refine Kd.C_alloc ?_ _) | (with_reducible refine Kd.C_drewN ?_ _) | (with_reducible refine Kd.C_drew ?_))); (case side4 => exact HC1.out); rintro e w28 ⟨rfl, hb⟩; have n0_ := Aside0.mk (Kd.R_below (by (with_reducible repeat (first | apply Kd.R_alloc | apply Kd.R_drewN | apply Kd.R_drew)); exact HO_5.out) hb); have n1_ := Aside0.mk (Kd.R_below (by (with_reducible repeat (first | apply Kd.R_alloc | apply Kd.R_drewN | apply Kd.R_drew)); exact HO_6.out) hb); have n2_ := Aside0.mk (Kd.R_below (by (with_reducible repeat (first | apply Kd.R_alloc | apply Kd.R_drewN | apply Kd.R_drew)); exact HO_7.out) hb); have n3_ := Aside0.mk (below_step (by repeat (first | (with_reducible first | exact HB.out | apply below_alloc | apply pw_below_drewN | apply below_drew1) | exact HB.out)) hb); clear HO_5; clear HO_6; clear HO_7; clear HB; have HO_5 := n0_; have HO_6 := n1_; have HO_7 := n2_; have HB := n3_; clear n0_ n1_ n2_ n3_; (try clear hb); (try clear hb2); (try clear hk); (try clear hi); obtain ⟨Ao29, co29, eo29⟩ := Kd.R_slice HO_7.out; subst eo29; have p185 : 0 ≤ (x10_2 : Int) := of_decide_eq_true (by first | (with_reducible assumption) | assumption); have q185 : x10_2 < (t180.length : Int) := of_decide_eq_true (by first | (with_reducible assumption) | assumption); obtain ⟨ad185, e185, hx185_0⟩ := Kd.at_int (Kd.R_reads' HO_7.out).2.2 x10_2 p185 q185; cases e185; replace p185 := eq_true p185; replace q185 := eq_true q185))
                              go_roundg k2
                              case measure => have := HK1.out; have := HK2.out; omega
                              case rel => exact ⟨(false), (wrap64 (x10_2 + 1)), (by first | rfl | (simp; done) | (simp [*]; done)), (by first | rfl | (simp; done) | (simp [*]; done)), H', ⟨by have := HK1.out; have := HK2.out; omega⟩, ⟨by (with_reducible repeat (first | apply Kd.R_alloc | apply Kd.R_drewN | apply Kd.R_drew)); exact HO_5.out⟩, ⟨by (with_reducible repeat (first | apply Kd.R_alloc | apply Kd.R_drewN | apply Kd.R_drew)); exact HO_6.out⟩, ⟨by (with_reducible repeat (first | apply Kd.R_alloc | apply Kd.R_drewN | apply Kd.R_drew)); exact HO_7.out⟩, ⟨by repeat (first | (with_reducible first | exact HB.out | apply below_alloc | apply pw_below_drewN | apply below_drew1) | exact HB.out)⟩⟩
                          · rw [if_neg c20] at H
                            exact absurd H (by simp)
                        · rw [if_neg c19] at H
                          exact absurd H (by simp)
                      · replace c18 := Bool.eq_false_iff.mpr c18
                        subst c18
                        have H1 : (spec_FormulasUsed.l1 k2 l0 l1 x5_1 t177 t180 x8_1 false (wrap64 (x10_2 + 1))) = some r := by rw [if_neg (show ¬ (false = true) by decide)] at H; exact H
                        clear H
                        have H := H1
                        clear H1
                        have H' := Aside0.mk H
                        clear H
                        have p183 : 0 ≤ (x8_1 : Int) := of_decide_eq_true (by first | (with_reducible assumption) | assumption)
                        have q183 : x8_1 < (l0.length : Int) := of_decide_eq_true (by first | (with_reducible assumption) | assumption)
                        obtain ⟨ad183, A183_0, c183_0, e183, hx183_0, hx183_1, hl183_0, hi183_0⟩ := at_T55 HR0.out x8_1 p183 q183
                        cases e183
                        replace hx183_0 := (HB.out.cell (World.block_lt_of_cell? w _ hx183_0)).trans hx183_0
                        replace hx183_1 := (HB.out.cell (World.block_lt_of_cell? w _ hx183_1)).trans hx183_1
                        have HR183_0 := Aside0.mk hi183_0
                        have HC183_0 := Aside0.mk hl183_0
                        clear hi183_0 hl183_0
                        replace p183 := eq_true p183
                        replace q183 := eq_true q183
                        go_wp2_with (first | (go_at_call 83; (with_reducible refine (spec_l6fAt.calls k2 _ _ ((rd_T55 l0 x8_1).f0) ((rd_T55 l0 x8_1).f1) _ _ l1 x10_2 false _ ?side1 ?side2 ?side3 ?side4 A17.out).mono ?_); (case side1 => repeat (first | exact (Kd.C_below HR183_0.out HB.out) | (with_reducible refine Kd.C_alloc ?_ _) | (with_reducible refine Kd.C_drewN ?_ _) | (with_reducible refine Kd.C_drew ?_))); (case side2 => exact HC183_0.out); (case side3 => repeat (first | exact (Kd.C_below HR1.out HB.out) | (with_reducible refine Kd.C_alloc ?_ _) | (with_reducible refine Kd.C_drewN ?_ _) | (with_reducible refine Kd.C_drew ?_))); (case side4 => exact HC1.out); rintro e w30 ⟨rfl, hb⟩; have n0_ := Aside0.mk (Kd.R_below (by (with_reducible repeat (first | apply Kd.R_alloc | apply Kd.R_drewN | apply Kd.R_drew)); exact HO_5.out) hb); have n1_ := Aside0.mk (Kd.R_below (by (with_reducible repeat (first | apply Kd.R_alloc | apply Kd.R_drewN | apply Kd.R_drew)); exact HO_6.out) hb); have n2_ := Aside0.mk (Kd.R_below (by (with_reducible repeat (first | apply Kd.R_alloc | apply Kd.R_drewN | apply Kd.R_drew)); exact HO_7.out) hb); have n3_ := Aside0.mk (below_step (by repeat (first | (with_reducible first | exact HB.out | apply below_alloc | apply pw_below_drewN | apply below_drew1) | exact HB.out)) hb); clear HO_5; clear HO_6; clear HO_7; clear HB; have HO_5 := n0_; have HO_6 := n1_; have HO_7 := n2_; have HB := n3_; clear n0_ n1_ n2_ n3_; (try clear hb); (try clear hb2); (try clear hk); (try clear hi)))
                        go_roundg k2
                        case measure => have := HK1.out; have := HK2.out; omega
                        case rel => exact ⟨(false), (wrap64 (x10_2 + 1)), (by first | rfl | (simp; done) | (simp [*]; done)), (by first | rfl | (simp; done) | (simp [*]; done)), H', ⟨by have := HK1.out; have := HK2.out; omega⟩, ⟨by (with_reducible repeat (first | apply Kd.R_alloc | apply Kd.R_drewN | apply Kd.R_drew)); exact HO_5.out⟩, ⟨by (with_reducible repeat (first | apply Kd.R_alloc | apply Kd.R_drewN | apply Kd.R_drew)); exact HO_6.out⟩, ⟨by (with_reducible repeat (first | apply Kd.R_alloc | apply Kd.R_drewN | apply Kd.R_drew)); exact HO_7.out⟩, ⟨by repeat (first | (with_reducible first | exact HB.out | apply below_alloc | apply pw_below_drewN | apply below_drew1) | exact HB.out)⟩⟩
                    · rw [if_neg c16] at H
                      exact absurd H (by simp)
                  · rw [if_neg c15] at H
                    exact absurd H (by simp)
              · rw [if_neg c13] at H
                have c13b0 : decide (x10_2 < (l1.length : Int)) = false := decide_eq_false c13
                clear c13
                by_cases c31 : x9_2 = true
                · subst c31
                  have H1 : (if x5_1.length < 17592186044416 then (spec_FormulasUsed.l0 k2 l0 l1 (x5_1 ++ [x8_1]) t177 t180 (wrap64 (x8_1 + 1))) else (none)) = some r := by rw [if_pos rfl] at H; exact H
                  clear H
                  have H := H1
                  clear H1
                  by_cases c32 : x5_1.length < 17592186044416
                  · rw [if_pos c32] at H
                    have LMc32 := Aside0.mk c32
                    clear c32
                    obtain ⟨y188, hy188⟩ : ∃ y_ : List Int, y_ = (x5_1 ++ [x8_1]) := ⟨_, rfl⟩
                    replace H : (spec_FormulasUsed.l0 k2 l0 l1 y188 t177 t180 (wrap64 (x8_1 + 1))) = some r := by first | (rw [hy188]; with_reducible exact H) | (have H2_ := (Option.bind_some _ _).symm.trans H; rw [hy188]; with_reducible exact H2_) | (have H2_ := (Option.bind_some _ _).symm.trans H; with_reducible exact H2_) | with_reducible exact H | (rw [hy188]; exact H) | exact H
                    have Ny188 := Aside0.mk hy188
                    clear hy188
                    have H' := Aside0.mk H
                    clear H
                    go_wp2_with (first | ((with_reducible refine gate_builtin (b := .append) (xs := #[.tmp 67, .tmp 69]) rfl ?_); (try (refine gate_guard (by rfl) ?_; dsimp only)); at_builtin; refine Kd.R_append (Kd.int .i64) (w0 := w) w.heap.size rfl (.tmp 67) (.tmp 69) 46 3 (.int .i64 0) 8 rfl Try.underlying46 info3 rfl (by decide) (by omega) u5 x5_1 x8_1 [.int .i64 x8_1] (fun k_ => some k_ ≠ (v178 : Value).ownBlock ∧ some k_ ≠ (v181 : Value).ownBlock) (fun _ => False) rfl rfl ?aP (fun _ hk => hk.elim) ?aF ?aO ?aB ?aS ?aL ?_; (case aP => exact rfl); (case aB => exact (by repeat (first | (with_reducible first | exact HB.out | apply below_alloc | apply pw_below_drewN | apply below_drew1) | exact HB.out))); (case aF => exact (fun k_ hk => ⟨Kd.fresh' (Kd.R_lt (by (with_reducible repeat (first | apply Kd.R_alloc | apply Kd.R_drewN | apply Kd.R_drew)); exact HO_6.out)) k_ hk, Kd.fresh' (Kd.R_lt (by (with_reducible repeat (first | apply Kd.R_alloc | apply Kd.R_drewN | apply Kd.R_drew)); exact HO_7.out)) k_ hk⟩)); (case aO => exact (by (with_reducible repeat (first | apply Kd.R_alloc | apply Kd.R_drewN | apply Kd.R_drew)); exact HO_5.out)); (case aS => exact (below_size (by repeat (first | (with_reducible first | exact HB.out | apply below_alloc | apply pw_below_drewN | apply below_drew1) | exact HB.out)))); (case aL => have := LMc32.out; omega); intro v189 w33 ho hb hg hat; rw [← Ny188.out] at ho; have n0_ := Aside0.mk (Kd.R_after (ok := (fun k_ => some k_ ≠ (v181 : Value).ownBlock)) (by (with_reducible repeat (first | apply Kd.R_alloc | apply Kd.R_drewN | apply Kd.R_drew)); exact Kd.R_mono HO_6.out (fun _ hk => ⟨hk.2, hk.1⟩)) hg hat); have n1_ := Aside0.mk (Kd.R_after (ok := (fun k_ => some k_ ≠ (v178 : Value).ownBlock)) (by (with_reducible repeat (first | apply Kd.R_alloc | apply Kd.R_drewN | apply Kd.R_drew)); exact Kd.R_mono HO_7.out (fun _ hk => ⟨hk.2, hk.1⟩)) hg hat); have n2_ := Aside0.mk (hb); have n3_ := Aside0.mk (ho); clear HO_6; clear HO_7; clear HB; clear HO_5; have HO_6 := n0_; have HO_7 := n1_; have HB := n2_; have HO190 := n3_; clear n0_ n1_ n2_ n3_; clear ho hb hg hat))
                    go_roundg k2
                    case measure => have := HK1.out; have := HK2.out; omega
                    case rel => exact ⟨(y188), (wrap64 (x8_1 + 1)), (by first | rfl | (simp; done) | (simp [*]; done)), H', ⟨by have := HK1.out; have := HK2.out; omega⟩, ⟨by (with_reducible repeat (first | apply Kd.R_alloc | apply Kd.R_drewN | apply Kd.R_drew)); exact HO190.out⟩, ⟨by (with_reducible repeat (first | apply Kd.R_alloc | apply Kd.R_drewN | apply Kd.R_drew)); exact Kd.R_mono HO_6.out (fun _ hk => ⟨hk.2, hk.1⟩)⟩, ⟨by (with_reducible repeat (first | apply Kd.R_alloc | apply Kd.R_drewN | apply Kd.R_drew)); exact Kd.R_mono HO_7.out (fun _ hk => ⟨hk.2, hk.1⟩)⟩, ⟨by repeat (first | (with_reducible first | exact HB.out | apply below_alloc | apply pw_below_drewN | apply below_drew1) | exact HB.out)⟩⟩
                  · rw [if_neg c32] at H
                    exact absurd H (by simp)
                · replace c31 := Bool.eq_false_iff.mpr c31
                  subst c31
                  have H1 : (spec_FormulasUsed.l0 k2 l0 l1 x5_1 t177 t180 (wrap64 (x8_1 + 1))) = some r := by rw [if_neg (show ¬ (false = true) by decide)] at H; exact H
                  clear H
                  have H := H1
                  clear H1
                  have H' := Aside0.mk H
                  clear H
                  go_wp2
                  go_roundg k2
                  case measure => have := HK1.out; have := HK2.out; omega
                  case rel => exact ⟨(x5_1), (wrap64 (x8_1 + 1)), (by first | rfl | (simp; done) | (simp [*]; done)), H', ⟨by have := HK1.out; have := HK2.out; omega⟩, ⟨by (with_reducible repeat (first | apply Kd.R_alloc | apply Kd.R_drewN | apply Kd.R_drew)); exact HO_5.out⟩, ⟨by (with_reducible repeat (first | apply Kd.R_alloc | apply Kd.R_drewN | apply Kd.R_drew)); exact HO_6.out⟩, ⟨by (with_reducible repeat (first | apply Kd.R_alloc | apply Kd.R_drewN | apply Kd.R_drew)); exact HO_7.out⟩, ⟨by repeat (first | (with_reducible first | exact HB.out | apply below_alloc | apply pw_below_drewN | apply below_drew1) | exact HB.out)⟩⟩
        · rw [if_neg c12] at H
          have c12b0 : decide (x8_1 < (l0.length : Int)) = false := decide_eq_false c12
          clear c12
          obtain rfl := Option.some.inj H
          go_wp2
          go_ret
          exact ⟨_, by first | rfl | (simp [errW_none, errW_some] <;> rfl) | (simp [*, errW_none, errW_some] <;> rfl), by (with_reducible repeat (first | apply Kd.R_alloc | apply Kd.R_drewN | apply Kd.R_drew)); exact Kd.R_mono HO_5.out (fun _ hk => trivial), by repeat (first | (with_reducible first | exact HB.out | apply below_alloc | apply pw_below_drewN | apply below_drew1) | exact HB.out)⟩
  · replace c4 := Bool.eq_false_iff.mpr c4
    subst c4
    have H1 : (some y173) = some r := by rw [if_neg (show ¬ (false = true) by decide)] at H; exact H
    clear H
    have H := H1
    clear H1
    obtain rfl := Option.some.inj H
    go_enter Try.func33, Try.ntmps33
    go_wp2_with (first | ((with_reducible refine gate_dst (N := 11) rfl ?_); (try (refine gate_guard (by rfl) ?_; dsimp only)); refine Kd.R_lit (Kd.int .i64) _ 3 ?hg (N := 11) ?hd (xs := ([] : List Int)) (inner := []) (ok := fun _ => True) (okp := fun _ => True) ?hr ?hp (fun _ hk => hk) trivial (Below.refl _ _) (Nat.le_refl _) (by simp) ?_; (case hd => rfl); (case hg => rfl); (case hr => first | (go_simp; done) | (go_simp; rfl)); (case hp => exact (Reps.none _ _)); intro v174 w34 ho35 hb hg_ hnew_; clear hg_ hnew_; (first | rw [← Ny173.out] at ho35 | (simp only [Int.reduceToNat] at ho35; rw [← Ny173.out] at ho35)); have n0_ := Aside0.mk (Kd.R_lower ho35 (below_size (by repeat (first | (with_reducible first | exact HB.out | apply below_alloc | apply pw_below_drewN | apply below_drew1) | exact HB.out)))); have n1_ := Aside0.mk (below_step (by repeat (first | (with_reducible first | exact HB.out | apply below_alloc | apply pw_below_drewN | apply below_drew1) | exact HB.out)) hb); clear HB; have HO175 := n0_; have HB := n1_; clear n0_ n1_; clear hb ho35) | ((with_reducible refine gate_callee (f := 81) rfl ?_); refine goesL_ (some 14) rfl rfl Try.func81 (by kernel_rfl) rfl #[.slice A0 l0.length c0, .slice A1 l1.length c1] rfl (by (try simp only [List.map_toArray, List.map_cons, List.map_nil]); first | done | rfl | (simp only [List.length_drop, List.length_take]; rfl)) ?_; (with_reducible refine (spec_l6fOk.calls k _ _ l0 _ _ l1 false _ ?side1 ?side2 ?side3 ?side4 A3.out).mono ?_); (case side1 => repeat (first | exact (Kd.C_below HR0.out HB.out) | (with_reducible refine Kd.C_alloc ?_ _) | (with_reducible refine Kd.C_drewN ?_ _) | (with_reducible refine Kd.C_drew ?_))); (case side2 => exact HC0.out); (case side3 => repeat (first | exact (Kd.C_below HR1.out HB.out) | (with_reducible refine Kd.C_alloc ?_ _) | (with_reducible refine Kd.C_drewN ?_ _) | (with_reducible refine Kd.C_drew ?_))); (case side4 => exact HC1.out); rintro e w36 ⟨rfl, hb⟩; refine ⟨_, rfl, ?_⟩; have n0_ := Aside0.mk (Kd.R_below (by (with_reducible repeat (first | apply Kd.R_alloc | apply Kd.R_drewN | apply Kd.R_drew)); exact HO175.out) hb); have n1_ := Aside0.mk (below_step (by repeat (first | (with_reducible first | exact HB.out | apply below_alloc | apply pw_below_drewN | apply below_drew1) | exact HB.out)) hb); clear HO175; clear HB; have HO175 := n0_; have HB := n1_; clear n0_ n1_; (try clear hb); (try clear hb2); (try clear hk); (try clear hi)))
    go_ret
    exact ⟨_, by first | rfl | (simp [errW_none, errW_some] <;> rfl) | (simp [*, errW_none, errW_some] <;> rfl), by (with_reducible repeat (first | apply Kd.R_alloc | apply Kd.R_drewN | apply Kd.R_drew)); exact HO175.out, by repeat (first | (with_reducible first | exact HB.out | apply below_alloc | apply pw_below_drewN | apply below_drew1) | exact HB.out)⟩

theorem rd_ne {L : List S55} (hv : FsV L) {i q : Nat} (hi : i < L.length) (hq : q < L.length) (h : i ≠ q) : (rd_T55 L (i : Int)).f0 ≠ (rd_T55 L (q : Int)).f0 := by
  have e : ∀ j (hj : j < L.length), rd_T55 L (j : Int) = L[j] := by
    intro j hj
    unfold rd_T55
    rw [Int.toNat_natCast, List.getD_eq_getElem?_getD, List.getElem?_eq_getElem hj]; rfl
  rw [e i hi, e q hq]
  have hp := List.pairwise_iff_getElem.1 hv.pw
  rcases Nat.lt_or_gt_of_ne h with h | h
  · exact hp i q hi hq h
  · exact fun e => hp q i hq hi h e.symm

def Stk (L : List S55) (S : List Int) (a k j : Nat) : Prop := ∃ i : Nat, i < k ∧ isPre (rd_T55 L (i : Int)).f0 (S.drop a) = true ∧ a + (rd_T55 L (i : Int)).f0.length = j
def FromP (L : List S55) (S : List Int) (a : Nat) (y : List Int) : Prop := y.length = S.length + 1 ∧ ∀ j, j ≤ S.length → 0 ≤ y.getD j 0 ∧ y.getD j 0 ≤ ((2 ^ a : Nat) : Int) ∧ (0 < y.getD j 0 ↔ j = 0 ∨ ∃ q, q < a ∧ Rch L S (fun _ => True) q ∧ St L S q j)
def InP (L : List S55) (S : List Int) (a k : Nat) (y : List Int) : Prop := y.length = S.length + 1 ∧ ∀ j, j ≤ S.length → 0 ≤ y.getD j 0 ∧ (0 < y.getD j 0 ↔ (j = 0 ∨ ∃ q, q < a ∧ Rch L S (fun _ => True) q ∧ St L S q j) ∨ (Rch L S (fun _ => True) a ∧ Stk L S a k j)) ∧ (y.getD j 0 ≤ ((2 ^ a : Nat) : Int) ∨ (y.getD j 0 ≤ ((2 ^ (a + 1) : Nat) : Int) ∧ Stk L S a k j))
theorem from_here {L : List S55} (hv : FsV L) {S : List Int} {a : Nat} : Rch L S (fun _ => True) a ↔ a = 0 ∨ ∃ q, q < a ∧ Rch L S (fun _ => True) q ∧ St L S q a := by
  rw [rch_iff]
  constructor
  · rintro (h | ⟨q, h1, h2, _⟩)
    · exact .inl h
    · exact .inr ⟨q, (h2.lt hv).1, h1, h2⟩
  · rintro (h | ⟨q, _, h1, h2⟩)
    · exact .inl h
    · exact .inr ⟨q, h1, h2, trivial⟩
theorem pow23 {a : Nat} (h : a ≤ 23) : (2 ^ a : Nat) ≤ 8388608 := Nat.le_trans (Nat.pow_le_pow_right (by decide) h) (by decide)
theorem from_inner {L : List S55} (hv : FsV L) {S : List Int} (hS : S.length ≤ 23) (a : Nat) (ha : a < S.length) {P : List Int → Prop}
    (hnext : ∀ y, FromP L S (a + 1) y → Evx (fun k => spec_l6fFrom.l0 k L S y ((a : Int) + 1)) P) :
    ∀ (d k : Nat) (y : List Int), k + d = L.length → InP L S a k y → Evx (fun n => spec_l6fFrom.l1 n L S y (a : Int) (k : Int)) P
  | 0, k, y, e, ⟨h1, h2⟩ => by
    have hll := hv.len
    refine Evx.succ ?_
    simp only [spec_l6fFrom.l1]
    rw [w64 (x := (a : Int) + 1) (by omega) (by omega)]
    refine Evx.neg (by omega) (hnext y ⟨h1, fun j hj => ?_⟩)
    obtain ⟨i1, i2, i3⟩ := h2 j hj
    have hp := Nat.pow_succ 2 a
    refine ⟨i1, by rcases i3 with h | h <;> omega, ?_⟩
    rw [i2]
    have hst : Stk L S a k j ↔ St L S a j := by
      obtain rfl : k = L.length := by omega
      exact Iff.rfl
    rw [hst]
    constructor
    · rintro ((h | ⟨q, g1, g2⟩) | ⟨g1, g2⟩)
      · exact .inl h
      · exact .inr ⟨q, by omega, g2⟩
      · exact .inr ⟨a, by omega, g1, g2⟩
    · rintro (h | ⟨q, g1, g2, g3⟩)
      · exact .inl (.inl h)
      · by_cases hq : q < a
        · exact .inl (.inr ⟨q, hq, g2, g3⟩)
        · obtain rfl : q = a := by omega
          exact .inr ⟨g2, g3⟩
  | d + 1, k, y, e, ⟨h1, h2⟩ => by
    have hll := hv.len
    have hk : k < L.length := by omega
    have ih := fun y' => from_inner hv hS a ha hnext d (k + 1) y' (by omega)
    have e4 : ((k + 1 : Nat) : Int) = (k : Int) + 1 := by omega
    rw [e4] at ih
    have hm := rd_mem (l := L) (k := (k : Int)) (by omega) (by omega)
    have hf := hv.one _ hm
    refine Evx.succ ?_
    simp only [spec_l6fFrom.l1]
    rw [w64 (x := (k : Int) + 1) (by omega) (by omega)]
    obtain ⟨f, hfe⟩ : ∃ f, f = rd_T55 L (k : Int) := ⟨_, rfl⟩
    rw [← hfe] at hf ⊢
    refine Evx.pos (by omega) (Evx.pos (by omega) (Evx.bind1 (spec_l6fAt_ev f S a (by omega) (by omega) (by omega)) ?_))
    have more : ∀ j, Stk L S a k j → Stk L S a (k + 1) j := by
      rintro j ⟨i, g1, g2⟩
      exact ⟨i, by omega, g2⟩
    cases hp : isPre f.f0 (S.drop a)
    · have same : ∀ j, Stk L S a (k + 1) j ↔ Stk L S a k j := by
        intro j
        refine ⟨fun ⟨i, g1, g2, g3⟩ => ?_, more j⟩
        by_cases hi : i < k
        · exact ⟨i, hi, g2, g3⟩
        · obtain rfl : i = k := by omega
          rw [← hfe, hp] at g2; cases g2
      refine Evx.neg (by simp) (ih y ⟨h1, fun j hj => ?_⟩)
      obtain ⟨i1, i2, i3⟩ := h2 j hj
      rw [same]
      exact ⟨i1, i2, i3⟩
    · have hl := isPre_len hp
      rw [List.length_drop] at hl
      have hJ : a + f.f0.length ≤ S.length := by omega
      rw [w64 (x := (a : Int) + (f.f0.length : Int)) (by omega) (by omega)]
      refine Evx.pos rfl (Evx.pos (by omega) (Evx.pos (by omega) (Evx.pos (by omega) (Evx.pos (by omega) ?_))))
      have eJ : ((a : Int) + (f.f0.length : Int)).toNat = a + f.f0.length := by omega
      have r1 : rd y ((a : Int) + (f.f0.length : Int)) = y.getD (a + f.f0.length) 0 := by unfold rd; rw [eJ]
      have r2 : rd y (a : Int) = y.getD a 0 := rfl
      rw [r1, r2, eJ]
      clear eJ r1 r2
      have hpow := Nat.pow_succ 2 a
      have hp23 := pow23 (a := a) (by omega)
      obtain ⟨a1, a2, a3⟩ := h2 a (by omega)
      have nostk : ∀ k', ¬ Stk L S a k' a ∨ L.length < k' := by
        intro k'
        by_cases hk' : k' ≤ L.length
        · refine .inl ?_
          rintro ⟨i, g1, g2, g3⟩
          have := (hv.one _ (rd_mem (l := L) (k := (i : Int)) (by omega) (by omega))).1
          omega
        · exact .inr (by omega)
      have noa : ¬ Stk L S a k a := by rcases nostk k with h | h; exact h; omega
      have ya : y.getD a 0 ≤ ((2 ^ a : Nat) : Int) := by rcases a3 with h | ⟨_, h⟩; exact h; exact absurd h noa
      have yr : 0 < y.getD a 0 ↔ Rch L S (fun _ => True) a := by
        rw [a2, from_here hv]
        exact ⟨fun h => h.elim id (fun h => absurd h.2 noa), .inl⟩
      have noJ : ¬ Stk L S a k (a + f.f0.length) := by
        rintro ⟨i, g1, g2, g3⟩
        have t1 := isPre_take hp
        have t2 := isPre_take g2
        have : (rd_T55 L (i : Int)).f0.length = f.f0.length := by omega
        rw [this] at t2
        have hx := rd_ne hv (i := i) (q := k) (by omega) hk (by omega)
        rw [← hfe] at hx
        exact hx (t2.symm.trans t1)
      obtain ⟨b1, b2, b3⟩ := h2 (a + f.f0.length) hJ
      have yJ : y.getD (a + f.f0.length) 0 ≤ ((2 ^ a : Nat) : Int) := by rcases b3 with h | ⟨_, h⟩; exact h; exact absurd h noJ
      have yes : Stk L S a (k + 1) (a + f.f0.length) := ⟨k, by omega, by rw [← hfe]; exact hp, by rw [← hfe]⟩
      rw [w64 (x := y.getD (a + f.f0.length) 0 + y.getD a 0) (by omega) (by omega)]
      refine ih _ ⟨by rw [List.length_set]; exact h1, fun j hj => ?_⟩
      by_cases hjJ : a + f.f0.length = j
      · subst hjJ
        rw [getD_set_self _ (by omega)]
        refine ⟨by omega, ?_, .inr ⟨by omega, yes⟩⟩
        have s1 : 0 < y.getD (a + f.f0.length) 0 + y.getD a 0 ↔ 0 < y.getD (a + f.f0.length) 0 ∨ 0 < y.getD a 0 := by omega
        rw [s1, b2, yr]
        constructor
        · rintro ((h | h) | h)
          · exact .inl h
          · exact absurd h.2 noJ
          · exact .inr ⟨h, yes⟩
        · rintro (h | h)
          · exact .inl (.inl h)
          · exact .inr h.1
      · rw [getD_set_other _ hjJ]
        obtain ⟨i1, i2, i3⟩ := h2 j hj
        have same : Stk L S a (k + 1) j ↔ Stk L S a k j := by
          refine ⟨fun ⟨i, g1, g2, g3⟩ => ?_, more j⟩
          by_cases hi : i < k
          · exact ⟨i, hi, g2, g3⟩
          · obtain rfl : i = k := by omega
            rw [← hfe] at g3
            exact absurd g3 hjJ
        rw [same]
        exact ⟨i1, i2, i3⟩
theorem spec_l6fFrom_evx {L : List S55} (hv : FsV L) {S : List Int} (hS : S.length ≤ 23) : Evx (fun k => spec_l6fFrom.f k L S) (FromP L S S.length) := by
  have hll := hv.len
  have key : ∀ (d a : Nat) (y : List Int), a + d = S.length → FromP L S a y → Evx (fun k => spec_l6fFrom.l0 k L S y (a : Int)) (FromP L S S.length) := by
    intro d
    induction d with
    | zero =>
      intro a y e h
      obtain rfl : a = S.length := by omega
      refine Evx.succ ?_
      simp only [spec_l6fFrom.l0]
      exact Evx.neg (by omega) (Evx.now h)
    | succ d ih =>
      intro a y e h
      refine Evx.succ ?_
      simp only [spec_l6fFrom.l0]
      refine Evx.pos (by omega) ?_
      have := from_inner hv hS a (by omega) (P := FromP L S S.length) (fun y' h' => by
        have := ih (a + 1) y' (by omega) h'
        have e4 : ((a + 1 : Nat) : Int) = (a : Int) + 1 := by omega
        rwa [e4] at this) L.length 0 y (by omega) ⟨h.1, fun j hj => by
        obtain ⟨i1, i2, i3⟩ := h.2 j hj
        refine ⟨i1, ?_, .inl i2⟩
        rw [i3]
        refine ⟨.inl, fun h => h.elim id (fun h => ?_)⟩
        obtain ⟨_, i, hi, _⟩ := h
        exact absurd hi (by omega)⟩
      exact this
  unfold spec_l6fFrom.f
  rw [w64 (x := (S.length : Int) + 1) (by omega) (by omega)]
  have e : ((S.length : Int) + 1).toNat = S.length + 1 := by omega
  rw [e]
  refine Evx.pos (by omega) (Evx.pos (by omega) (Evx.someb (Evx.pos (by rw [List.length_replicate]; omega) ?_)))
  refine key S.length 0 _ (by omega) ⟨by simp, fun j hj => ?_⟩
  have hz : (List.replicate (S.length + 1) (0 : Int)).getD j 0 = 0 := by rw [List.getD_eq_getElem?_getD, List.getElem?_replicate, if_pos (by omega)]; rfl
  by_cases h0 : j = 0
  · subst h0
    have : ((List.replicate (S.length + 1) (0 : Int)).set (0 : Int).toNat 1).getD 0 0 = 1 := getD_set_self _ (by simp)
    rw [this]
    exact ⟨by omega, by simp, ⟨fun _ => .inl rfl, fun _ => by omega⟩⟩
  · rw [getD_set_other _ (by simpa using fun h => h0 h.symm), hz]
    refine ⟨by omega, Int.natCast_nonneg _, ⟨fun h => absurd h (by omega), fun h => ?_⟩⟩
    rcases h with h | ⟨q, hq, _⟩
    · exact absurd h h0
    · exact absurd hq (by omega)
theorem used_iff {L : List S55} (hv : FsV L) {S : List Int} (hS : S.length ≤ 23) {F : List Int} (hF : FromP L S S.length F) {k : Nat} (hk : k < L.length) :
    (usedFrom L S S.length).1.getD k false = true ↔ ∃ a, a < S.length ∧ isPre (rd_T55 L (k : Int)).f0 (S.drop a) = true ∧ 0 < F.getD a 0 ∧ 0 < (rdO L (S.drop (a + (rd_T55 L (k : Int)).f0.length))).f0 := by
  rw [(used_inv hv S.length (Nat.le_refl _)).2 k hk]
  have hFr : ∀ a, a ≤ S.length → (0 < F.getD a 0 ↔ Rch L S (fun _ => True) a) := by
    intro a ha
    rw [(hF.2 a ha).2.2, from_here hv]
    constructor
    · rintro (h | ⟨q, _, h2, h3⟩)
      · exact .inl h
      · exact .inr ⟨q, (h3.lt hv).1, h2, h3⟩
    · rintro (h | ⟨q, h1, h2, h3⟩)
      · exact .inl h
      · exact .inr ⟨q, by omega, h2, h3⟩
  constructor
  · rintro ⟨a, h1, h2, h3, h4⟩
    have := (rdO_bd hv _ (S.drop (a + (rd_T55 L (k : Int)).f0.length)) rfl (by rw [List.length_drop]; omega)).lo
    exact ⟨a, h1, h3, (hFr a (by omega)).2 (rch_all h2), by omega⟩
  · rintro ⟨a, h1, h2, h3, h4⟩
    exact ⟨a, h1, rch_ok hv hS ((hFr a (by omega)).1 h3) (ok_back hv hS ⟨k, hk, h2, rfl⟩ (by omega)), h2, by omega⟩
theorem spec_FormulasUsed_ev (L : List S55) (S : List Int) (hll : L.length ≤ 1000000000000) (hl : ∀ x ∈ L, x.f0.length ≤ 1000000000000) (hS : S.length ≤ 1000000000000) : Ev (fun k => spec_FormulasUsed.f k L S) (fUsed L S) := by
  unfold spec_FormulasUsed.f fUsed
  refine Ev.someb (Ev.bind (spec_l6fOk_ev L S hll hl hS) ?_)
  cases hok : okR L S
  · exact Ev.neg (by simp) (Ev.eqr (Ev.now _) (by simp))
  rw [if_pos rfl]
  obtain ⟨l1, l2, l3⟩ := okR_lens hok
  have hv := FsV.of (okR_of hok).1
  obtain ⟨F, hFe, hF⟩ := spec_l6fFrom_evx hv l3
  refine Ev.pos rfl (Ev.bind (spec_l6fWays_ev l1 l2 l3) (Ev.bind hFe ?_))
  have hXl := (usedFrom_len L S S.length).1
  have hui := fun k (hk : k < L.length) => used_iff hv l3 hF hk
  generalize (usedFrom L S S.length).1 = X at hXl hui
  have := Ev.over false X (fun k (y : List Int) q => spec_FormulasUsed.l0 k L S y (waysL L S) F q) (fun _ _ => idxT 0 X) (fun q y => y ++ idxT (q : Int) (X.drop q) = idxT 0 X ∧ y.length ≤ q) (by
    intro y ⟨h, _⟩
    rw [List.drop_length] at h
    refine Ev.succ ?_
    simp only [spec_FormulasUsed.l0]
    refine Ev.neg (by omega) (Ev.eqr (Ev.now _) ?_)
    simpa [idxT] using h) (by
    intro y q rest ⟨h, hyl⟩ hq hdr ih
    have hqL : q < L.length := by omega
    rw [idxT_at hq] at h
    refine Ev.succ ?_
    simp only [spec_FormulasUsed.l0]
    refine Ev.pos (by omega) ?_
    have hm := rd_mem (l := L) (k := (q : Int)) (by omega) (by omega)
    have hf := hv.one _ hm
    have hu := hui q hqL
    have inner := Ev.over (0 : Int) S (fun k (b : Bool) a => spec_FormulasUsed.l1 k L S y (waysL L S) F (q : Int) b a) (fun _ _ => idxT 0 X) (fun a b => b = true ↔ ∃ c, c < a ∧ isPre (rd_T55 L (q : Int)).f0 (S.drop c) = true ∧ 0 < F.getD c 0 ∧ 0 < (rdO L (S.drop (c + (rd_T55 L (q : Int)).f0.length))).f0) (by
      intro b hb
      rw [← hu] at hb
      refine Ev.succ ?_
      simp only [spec_FormulasUsed.l1]
      rw [w64 (x := (q : Int) + 1) (by omega) (by omega)]
      refine Ev.neg (by omega) ?_
      cases b
      · rw [if_neg (fun h => by have := hb.2 h; cases this)] at h
        exact Ev.neg (by simp) (ih y ⟨h, by omega⟩)
      · rw [if_pos (hb.1 rfl)] at h
        refine Ev.pos rfl (Ev.pos (by omega) (ih (y ++ [(q : Int)]) ⟨?_, by rw [List.length_append, List.length_singleton]; omega⟩))
        rw [List.append_assoc]; exact h) (by
      intro b a rest' hb ha hdr' ih'
      refine Ev.succ ?_
      simp only [spec_FormulasUsed.l1]
      rw [w64 (x := (a : Int) + 1) (by omega) (by omega)]
      refine Ev.pos (by omega) ?_
      cases b
      · have hno : ∀ c, c < a → ¬ (isPre (rd_T55 L (q : Int)).f0 (S.drop c) = true ∧ 0 < F.getD c 0 ∧ 0 < (rdO L (S.drop (c + (rd_T55 L (q : Int)).f0.length))).f0) := fun c hc hh => by have := hb.2 ⟨c, hc, hh⟩; cases this
        have last : ∀ b' : Bool, (b' = true ↔ isPre (rd_T55 L (q : Int)).f0 (S.drop a) = true ∧ 0 < F.getD a 0 ∧ 0 < (rdO L (S.drop (a + (rd_T55 L (q : Int)).f0.length))).f0) → (b' = true ↔ ∃ c, c < a + 1 ∧ isPre (rd_T55 L (q : Int)).f0 (S.drop c) = true ∧ 0 < F.getD c 0 ∧ 0 < (rdO L (S.drop (c + (rd_T55 L (q : Int)).f0.length))).f0) := by
          intro b' hb'
          rw [hb']
          refine ⟨fun h => ⟨a, by omega, h⟩, fun ⟨c, hc, hh⟩ => ?_⟩
          by_cases hca : c < a
          · exact absurd hh (hno c hca)
          · obtain rfl : c = a := by omega
            exact hh
        refine Ev.neg (by simp) (Ev.pos (by omega) (Ev.pos (by omega) (Ev.bind (spec_l6fAt_ev (rd_T55 L (q : Int)) S a (by omega) (by omega) (by omega)) ?_)))
        cases hp : isPre (rd_T55 L (q : Int)).f0 (S.drop a)
        · exact Ev.neg (by simp) (ih' false (last false (by rw [hp]; simp)))
        · have hl := isPre_len hp
          rw [List.length_drop] at hl
          have hFl := hF.1
          refine Ev.pos rfl (Ev.pos (by omega) (Ev.pos (by omega) ?_))
          have r2 : rd F (a : Int) = F.getD a 0 := rfl
          rw [r2]
          by_cases hFa : F.getD a 0 > 0
          · refine Ev.pos hFa ?_
            rw [w64 (x := (a : Int) + ((rd_T55 L (q : Int)).f0.length : Int)) (by omega) (by omega)]
            refine Ev.pos (by omega) (Ev.pos (by rw [waysL_len]; omega) ?_)
            have r3 : rd (waysL L S) ((a : Int) + ((rd_T55 L (q : Int)).f0.length : Int)) = (rdO L (S.drop (a + (rd_T55 L (q : Int)).f0.length))).f0 := by
              unfold rd
              rw [show ((a : Int) + ((rd_T55 L (q : Int)).f0.length : Int)).toNat = a + (rd_T55 L (q : Int)).f0.length by omega]
              exact waysL_get (by omega)
            rw [r3]
            exact ih' _ (last _ (by rw [decide_eq_true_eq]; exact ⟨fun h => ⟨hp, hFa, h⟩, fun h => h.2.2⟩))
          · exact Ev.neg hFa (ih' false (last false ⟨fun h => (by cases h), fun h => absurd h.2.1 hFa⟩))
      · obtain ⟨c, hc, hh⟩ := hb.1 rfl
        exact Ev.pos rfl (ih' true ⟨fun _ => ⟨c, by omega, hh⟩, fun _ => rfl⟩)) 0 false (Nat.zero_le _) ⟨fun h => (by cases h), fun ⟨c, hc, _⟩ => absurd hc (by omega)⟩
    simpa using inner) 0 [] (Nat.zero_le _) ⟨by simp, Nat.le_refl _⟩
  simpa using this

theorem impl_FormulasUsed_x (l : List S55) (r : List Int) (A0 : Option Addr) (c0 : Nat) (A1 : Option Addr) (c1 : Nat) (w : World) (hr0 : Kd.C k55 w A0 l.length l) (hc0 : l.length ≤ c0) (hr1 : Kd.C (Kd.int .i64) w A1 r.length r) (hc1 : r.length ≤ c1) (hl : FormulaSz l ≤ 1000000000000) (hr : r.length ≤ 1000000000000) :
    Calls Try.prog 35 #[.slice A0 l.length c0, .slice A1 r.length c1] w fun e w' => ∃ v, e = .returned v ∧ Kd.R (Kd.int .i64) 3 w' w.heap.size (fun _ => True) v (fUsed l r) ∧ Below w.heap.size w w' :=
  impl_FormulasUsed_calls l r A0 c0 A1 c1 w hr0 hc0 hr1 hc1 (fun x hx => by have := FormulaSz_get hx; omega) hr
theorem spec_FormulasUsed_x (l : List S55) (r : List Int) (A0 : Option Addr) (c0 : Nat) (A1 : Option Addr) (c1 : Nat) (w : World) (hr0 : Kd.C k55 w A0 l.length l) (hc0 : l.length ≤ c0) (hr1 : Kd.C (Kd.int .i64) w A1 r.length r) (hc1 : r.length ≤ c1) (hl : FormulaSz l ≤ 1000000000000) (hr : r.length ≤ 1000000000000) :
    Calls Try.prog 33 #[.slice A0 l.length c0, .slice A1 r.length c1] w fun e w' => ∃ v, e = .returned v ∧ Kd.R (Kd.int .i64) 3 w' w.heap.size (fun _ => True) v (fUsed l r) ∧ Below w.heap.size w w' := by
  obtain ⟨kk, h⟩ := Ev.rounds (spec_FormulasUsed_ev l r (by have := FormulaSz_len l; omega) (fun x hx => by have := FormulaSz_get hx; omega) hr)
  exact spec_FormulasUsed.calls kk _ _ l _ _ r _ w hr0 hc0 hr1 hc1 h

/-! arguments that are read as data, as kinds -/
def Opn {α : Type} (P : Program) (t : TypeId) (d : Kd α) (ok : α → Prop) : Prop :=
  P.cellsOf t = d.sz ∧ ∀ {H : Type} (enc : TypeId × Value → H) (w : World) (base : Nat) (held : Bool) (fuel : Nat) (cs : List Value) (x : DataW H × List MemPlace), DataW.trod enc P w base (fun _ => true) held fuel t cs = some x → ∃ p, d.K w p cs ∧ ok p
theorem opn_int {P : Program} {t : TypeId} (k : IntKind) (ht : P.underlying t = some (.int k)) (hc : P.cellsOf t = 1) : Opn P t (Kd.int k) (fun n => (Lit.int k n).wf = true) :=
  ⟨hc, fun enc w base held fuel cs x h => by obtain ⟨n, rfl, _, hw⟩ := DataW.trod_int ht h; exact ⟨n, rfl, hw⟩⟩
theorem opn_bool {P : Program} {t : TypeId} (ht : P.underlying t = some .bool) (hc : P.cellsOf t = 1) : Opn P t Kd.bool (fun _ => True) :=
  ⟨hc, fun enc w base held fuel cs x h => by obtain ⟨n, rfl, _⟩ := DataW.trod_bool ht h; exact ⟨n, rfl, trivial⟩⟩
theorem opn_string {P : Program} {t : TypeId} (ht : P.underlying t = some .string) (hc : P.cellsOf t = 1) : Opn P t Kd.string (fun s => s.size ≤ maxLen) :=
  ⟨hc, fun enc w base held fuel cs x h => by obtain ⟨n, rfl, _, hs⟩ := DataW.trod_string ht h; exact ⟨n, rfl, hs⟩⟩
theorem opn_slice {α : Type} {P : Program} {t e : TypeId} {d : Kd α} {ok : α → Prop} (ht : P.underlying t = some (.slice e)) (hc : P.cellsOf t = 1) (he : Opn P e d ok) : Opn P t (Kd.slice e d) (fun l => (∀ x ∈ l, ok x) ∧ l.length ≤ maxLen) := by
  refine ⟨hc, fun enc w base held fuel cs x h => ?_⟩
  rcases Go.Deep.open_slice ht h with ⟨rfl, _⟩ | ⟨a, len, cap, m, n, D, Pl, rfl, _, hl, hm, hmm, _, hi⟩
  · exact ⟨[], ⟨none, 0, rfl, Nat.le_refl _, rfl, by simp, fun h => by simp at h⟩, by simp, by simp⟩
  · have hmc : m = cap := by simpa using hmm
    clear hmm
    have key : ∀ k, k ≤ len → ∃ l : List α, l.length = k ∧ (∀ x ∈ l, ok x) ∧ ∀ j p, l[j]? = some p → ∃ c, c.length = d.sz ∧ d.K w p c ∧ ∀ i u, c[i]? = some u → w.cell? (a.add (j * d.sz + i)) = some u := by
      intro k
      induction k with
      | zero => intro _; exact ⟨[], rfl, by simp, by simp⟩
      | succ k ih =>
        intro hk
        obtain ⟨l, hll, hlo, hlc⟩ := ih (by omega)
        obtain ⟨cs', hcs, ht'⟩ := hi k (by omega)
        rw [he.1] at hcs
        obtain ⟨p, hp, hop⟩ := he.2 enc w base held n cs' _ ht'
        obtain ⟨_, hcl, hat⟩ := World.cells?_some hcs
        refine ⟨l ++ [p], by simp [hll], ?_, ?_⟩
        · intro x hx
          rcases List.mem_append.1 hx with hx | hx
          · exact hlo x hx
          · rw [List.mem_singleton.1 hx]; exact hop
        · intro j q hq
          by_cases hj : j < l.length
          · rw [List.getElem?_append_left hj] at hq
            exact hlc j q hq
          · have hj2 : j = l.length := by
              have := (List.getElem?_eq_some_iff.1 hq).1
              simp at this; omega
            subst hj2
            rw [List.getElem?_append_right (Nat.le_refl _)] at hq
            simp at hq
            subst hq
            refine ⟨cs', hcl, hp, fun i u hu => ?_⟩
            have hil : i < d.sz := by rw [← hcl]; exact (List.getElem?_eq_some_iff.1 hu).1
            rw [hll, ← Go.Deep.add_add, hat i hil, hu]
    obtain ⟨l, hll, hlo, hlc⟩ := key len (Nat.le_refl _)
    subst hll
    exact ⟨l, ⟨some a, cap, rfl, hl, rfl, by unfold maxLen at hm; omega, fun _ => ⟨a, rfl, hlc⟩⟩, hlo, by omega⟩
theorem opn_iso {α β : Type} {P : Program} {t : TypeId} {d : Kd α} {ok : α → Prop} (h : Opn P t d ok) (f : β → α) (g : α → β) (hfg : ∀ x, f (g x) = x) : Opn P t (Kd.iso d f) (fun y => ok (f y)) :=
  ⟨h.1, fun enc w base held fuel cs x hx => by
    obtain ⟨p, hp, ho⟩ := h.2 enc w base held fuel cs x hx
    exact ⟨g p, by show d.K w (f (g p)) cs; rw [hfg]; exact hp, by show ok (f (g p)); rw [hfg]; exact ho⟩⟩
theorem opn_struct2 {α β : Type} {P : Program} {t : TypeId} {f0 f1 : Field} {a : Kd α} {b : Kd β} {oka : α → Prop} {okb : β → Prop} (ht : P.underlying t = some (.struct #[f0, f1])) (h0 : Opn P f0.type a oka) (h1 : Opn P f1.type b okb)
    (o0 : f0.offset = 0) (o1 : f1.offset = a.sz) (hc : P.cellsOf t = a.sz + b.sz) : Opn P t (Kd.pair a b) (fun p => oka p.1 ∧ okb p.2) := by
  refine ⟨hc, fun enc w base held fuel cs x h => ?_⟩
  obtain ⟨xs, n, _, _, hl, hxl, hg⟩ := DataW.trod_struct ht h
  have g0 := hg 0 f0 rfl
  have g1 := hg 1 f1 rfl
  rw [o0, h0.1, List.drop_zero] at g0
  rw [o1, h1.1] at g1
  rw [List.getElem?_eq_getElem (by rw [hxl]; simp)] at g0 g1
  obtain ⟨p, hp, hop⟩ := h0.2 enc w base held n _ _ g0
  obtain ⟨q, hq, hoq⟩ := h1.2 enc w base held n _ _ g1
  refine ⟨(p, q), ⟨cs.take a.sz, (cs.drop a.sz).take b.sz, ?_, hp, hq⟩, hop, hoq⟩
  rw [List.take_of_length_le (l := cs.drop a.sz) (by rw [List.length_drop, hl, hc]; omega), List.take_append_drop]
theorem opn_struct3 {α β γ : Type} {P : Program} {t : TypeId} {f0 f1 f2 : Field} {a : Kd α} {b : Kd β} {c : Kd γ} {oka : α → Prop} {okb : β → Prop} {okc : γ → Prop} (ht : P.underlying t = some (.struct #[f0, f1, f2])) (h0 : Opn P f0.type a oka) (h1 : Opn P f1.type b okb) (h2 : Opn P f2.type c okc)
    (o0 : f0.offset = 0) (o1 : f1.offset = a.sz) (o2 : f2.offset = a.sz + b.sz) (hc : P.cellsOf t = a.sz + (b.sz + c.sz)) : Opn P t (Kd.pair a (Kd.pair b c)) (fun p => oka p.1 ∧ okb p.2.1 ∧ okc p.2.2) := by
  refine ⟨hc, fun enc w base held fuel cs x h => ?_⟩
  obtain ⟨xs, n, _, _, hl, hxl, hg⟩ := DataW.trod_struct ht h
  have g0 := hg 0 f0 rfl
  have g1 := hg 1 f1 rfl
  have g2 := hg 2 f2 rfl
  rw [o0, h0.1, List.drop_zero] at g0
  rw [o1, h1.1] at g1
  rw [o2, h2.1] at g2
  rw [List.getElem?_eq_getElem (by rw [hxl]; simp)] at g0 g1 g2
  obtain ⟨p, hp, hop⟩ := h0.2 enc w base held n _ _ g0
  obtain ⟨q, hq, hoq⟩ := h1.2 enc w base held n _ _ g1
  obtain ⟨r, hr, hor⟩ := h2.2 enc w base held n _ _ g2
  refine ⟨(p, q, r), ⟨cs.take a.sz, cs.drop a.sz, by rw [List.take_append_drop], hp, (cs.drop a.sz).take b.sz, (cs.drop (a.sz + b.sz)).take c.sz, ?_, hq, hr⟩, hop, hoq, hor⟩
  rw [List.take_of_length_le (l := cs.drop (a.sz + b.sz)) (by rw [List.length_drop, hl, hc]; omega), ← List.drop_drop, List.take_append_drop]
theorem opn_struct4 {α β γ δ : Type} {P : Program} {t : TypeId} {f0 f1 f2 f3 : Field} {a : Kd α} {b : Kd β} {c : Kd γ} {d : Kd δ} {oka : α → Prop} {okb : β → Prop} {okc : γ → Prop} {okd : δ → Prop} (ht : P.underlying t = some (.struct #[f0, f1, f2, f3])) (h0 : Opn P f0.type a oka) (h1 : Opn P f1.type b okb) (h2 : Opn P f2.type c okc) (h3 : Opn P f3.type d okd)
    (o0 : f0.offset = 0) (o1 : f1.offset = a.sz) (o2 : f2.offset = a.sz + b.sz) (o3 : f3.offset = a.sz + b.sz + c.sz) (hc : P.cellsOf t = a.sz + (b.sz + (c.sz + d.sz))) : Opn P t (Kd.pair a (Kd.pair b (Kd.pair c d))) (fun p => oka p.1 ∧ okb p.2.1 ∧ okc p.2.2.1 ∧ okd p.2.2.2) := by
  refine ⟨hc, fun enc w base held fuel cs x h => ?_⟩
  obtain ⟨xs, n, _, _, hl, hxl, hg⟩ := DataW.trod_struct ht h
  have g0 := hg 0 f0 rfl
  have g1 := hg 1 f1 rfl
  have g2 := hg 2 f2 rfl
  have g3 := hg 3 f3 rfl
  rw [o0, h0.1, List.drop_zero] at g0
  rw [o1, h1.1] at g1
  rw [o2, h2.1] at g2
  rw [o3, h3.1] at g3
  rw [List.getElem?_eq_getElem (by rw [hxl]; simp)] at g0 g1 g2 g3
  obtain ⟨p, hp, hop⟩ := h0.2 enc w base held n _ _ g0
  obtain ⟨q, hq, hoq⟩ := h1.2 enc w base held n _ _ g1
  obtain ⟨r, hr, hor⟩ := h2.2 enc w base held n _ _ g2
  obtain ⟨s, hs, hos⟩ := h3.2 enc w base held n _ _ g3
  refine ⟨(p, q, r, s), ⟨cs.take a.sz, cs.drop a.sz, by rw [List.take_append_drop], hp, (cs.drop a.sz).take b.sz, cs.drop (a.sz + b.sz), by rw [← List.drop_drop, List.take_append_drop], hq, (cs.drop (a.sz + b.sz)).take c.sz, (cs.drop (a.sz + b.sz + c.sz)).take d.sz, ?_, hr, hs⟩, hop, hoq, hor, hos⟩
  rw [List.take_of_length_le (l := cs.drop (a.sz + b.sz + c.sz)) (by rw [List.length_drop, hl, hc]; omega)]
  exact (List.take_append_drop c.sz (cs.drop (a.sz + b.sz))).symm.trans (by rw [List.drop_drop])
/-- A slice argument. -/
theorem opn_arg {α : Type} {P : Program} {t e : TypeId} {d : Kd α} {ok : List α → Prop} (h : Opn P t (Kd.slice e d) ok) {H : Type} {enc : TypeId × Value → H} {w : World} {base : Nat} {held : Bool} {a : Option Addr} {len cap : Nat} {x : DataW H} {p : List MemPlace} (hr : DataW.Trod enc P w base (fun _ => true) held t (.slice a len cap) x p) :
    ∃ l : List α, len = l.length ∧ l.length ≤ cap ∧ d.C w a l.length l ∧ ok l := by
  obtain ⟨fuel, hf⟩ := hr
  obtain ⟨l, ⟨A, c, he, hc, hC⟩, ho⟩ := h.2 enc w base held fuel _ _ hf
  simp [Value.cells] at he
  obtain ⟨rfl, rfl, rfl⟩ := he
  exact ⟨l, rfl, hc, hC, ho⟩

end Go.Proofs.Ytnemcppllfmioaa.Pure
