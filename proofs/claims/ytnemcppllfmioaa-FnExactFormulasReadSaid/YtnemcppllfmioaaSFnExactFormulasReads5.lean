/- Lemmas for the law FnExactFormulasRead. -/
import Derived.Test.YtnemcppllfmioaaSFnExactFormulasReads4
namespace Go.Proofs.Ytnemcppllfmioaa.Pure
set_option linter.unusedVariables false
set_option linter.unusedSimpArgs false
open Go Go.RowKit Go.Proofs.Ytnemcppllfmioaa.PFnExactFormulasRead Go.Proofs.YtnemcppllfmioaaW.PrintWords Go.Proofs.YtnemcppllfmioaaW.PrintLast Go.Proofs.YtnemcppllfmioaaW.PrintMore

mutual
def spec_FormulasBest.l0 : Nat → List (S55) → List Int → List Int → List Int → Int → Option (List Int × Bool)
 | 0, _, _, _, _, _ => none
 | k + 1, x0, x1, x6, x7, x8 => if x8 < (x1.length : Int) then (spec_FormulasBest.l1 k x0 x1 x6 x7 x8 0) else (some (x6, true))
def spec_FormulasBest.l1 : Nat → List (S55) → List Int → List Int → List Int → Int → Int → Option (List Int × Bool)
 | 0, _, _, _, _, _, _ => none
 | k + 1, x0, x1, x6, x7, x8, x9 => if 0 ≤ x9 then (if x9 < (x0.length : Int) then ((spec_l6fAt.f k ((rd_T55 x0 x9).f0) ((rd_T55 x0 x9).f1) x1 x8).bind fun t222 => (if t222 = true then (if 0 ≤ (wrap64 (x8 + (((rd_T55 x0 x9).f0).length : Int))) then (if (wrap64 (x8 + (((rd_T55 x0 x9).f0).length : Int))) < (x7.length : Int) then (if (rd x7 (wrap64 (x8 + (((rd_T55 x0 x9).f0).length : Int)))) < 0 then (spec_FormulasBest.l1 k x0 x1 x6 x7 x8 (wrap64 (x9 + 1))) else (if 0 ≤ x8 then (if x8 < (x7.length : Int) then (if (wrap64 ((rd x7 (wrap64 (x8 + (((rd_T55 x0 x9).f0).length : Int)))) + ((rd_T55 x0 x9).f1))) = (rd x7 x8) then (if x6.length < 17592186044416 then (spec_FormulasBest.l0 k x0 x1 (x6 ++ [x9]) x7 (wrap64 (x8 + (((rd_T55 x0 x9).f0).length : Int)))) else (none)) else (spec_FormulasBest.l1 k x0 x1 x6 x7 x8 (wrap64 (x9 + 1)))) else (none)) else (none))) else (none)) else (none)) else (spec_FormulasBest.l1 k x0 x1 x6 x7 x8 (wrap64 (x9 + 1))))) else (none)) else (none)
end
def spec_FormulasBest.f (k : Nat) (l0 : List (S55)) (l1 : List Int) : Option (List Int × Bool) := (some (([] : List Int) : List Int)).bind fun y213 => ((spec_l6fOk.f k l0 l1).bind fun t216 => (if t216 = true then ((spec_l6fLeast.f k l0 l1 false).bind fun t217 => (if 0 < (t217.length : Int) then (if (rd t217 0) < 0 then (some (y213, false)) else (spec_FormulasBest.l0 k l0 l1 y213 t217 0)) else (none))) else (some (y213, false))))
def spec_FormulasBest.T10 : Bool × List (List Nat × List Nat) := (true, [([], []), ([], []), ([0, 1], [0, 1]), ([2], [2]), ([], []), ([], []), ([3, 4, 5], [3, 4, 5]), ([6], [6]), ([7, 6], [7]), ([8], [8]), ([8], [8]), ([8], [8]), ([8], [8]), ([11, 12, 8], [8, 11, 12]), ([13, 8], [8, 13]), ([14, 8], [8, 14]), ([15, 8], [8, 15]), ([10, 16, 8], [8, 10, 16]), ([9, 17, 8], [8, 9, 17]), ([18, 8], [8, 18]), ([19, 8], [8, 19]), ([8, 20], [8, 20]), ([21, 8], [21]), ([22], [22]), ([22], [22]), ([22], [22]), ([22], [22]), ([25, 26, 22], [22, 25, 26]), ([27, 22], [22, 27]), ([28, 22], [22, 28]), ([29, 22], [22, 29]), ([24, 30, 22], [22, 24, 30]), ([23, 31, 22], [22, 23, 31]), ([32, 22], [22, 32]), ([22], [22]), ([22], [22]), ([34, 35, 22], [22, 34, 35]), ([36, 22], [22, 36]), ([37, 22], [22, 37]), ([33, 38, 22], [22, 33, 38]), ([22], [22]), ([22], [22]), ([40, 41, 22], [22, 40, 41]), ([42, 22], [22, 42]), ([39, 43, 22], [22, 39, 43]), ([22, 44], [22, 44])])
def spec_FormulasBest.B10 : List Nat := [0, 0, 3, 7, 0, 0, 63, 127, 255, 511, 511, 511, 511, 6655, 14847, 31231, 63999, 130559, 262143, 524287, 1048575, 2097151, 4194303, 8388607, 8388607, 8388607, 8388607, 109051903, 243269631, 511705087, 1048575999, 2139095039, 4294967295, 8589934591, 8388607, 8388607, 51547996159, 120267472895, 257706426367, 549755813887, 8388607, 8388607, 3298543271935, 7696589783039, 17592186044415, 35184372088831]
theorem spec_FormulasBest.tab10 : rtab .any (opsOf Try.f30 10) = spec_FormulasBest.T10 := by kernel_rfl
theorem spec_FormulasBest.bits10 : waitsOk spec_FormulasBest.T10.2 spec_FormulasBest.B10 = true := by kernel_rfl
set_option maxHeartbeats 8000000 in
set_option maxRecDepth 100000 in
theorem spec_FormulasBest.calls (k : Nat) (A0 : Option Addr) (c0 : Nat) (l0 : List (S55)) (A1 : Option Addr) (c1 : Nat) (l1 : List Int) (r1 : List Int) (r2 : Bool) (w : World) (hr0 : Kd.C k55 w A0 l0.length l0) (hc0 : l0.length ≤ c0) (hr1 : Kd.C (Kd.int .i64) w A1 l1.length l1) (hc1 : l1.length ≤ c1) (h : spec_FormulasBest.f k l0 l1 = some (r1, r2)) :
  Calls Try.prog 30 #[.slice A0 l0.length c0, .slice A1 l1.length c1] w fun e w' => ∃ v0_ : Value, e = .returned (.tuple #[v0_, .bool r2]) ∧ Kd.R (Kd.int .i64) 3 w' w.heap.size (fun _ => True) v0_ r1 ∧ Below w.heap.size w w' := by
 have hu55 := Try.underlying55
 have HR0 := Aside0.mk hr0
 have HC0 := Aside0.mk hc0
 clear hr0 hc0
 have HR1 := Aside0.mk hr1
 have HC1 := Aside0.mk hc1
 clear hr1 hc1
 have HB := Aside0.mk (Below.refl w.heap.size w)
 have H : ((some (([] : List Int) : List Int)).bind fun y213 => ((spec_l6fOk.f k l0 l1).bind fun t216 => (if t216 = true then ((spec_l6fLeast.f k l0 l1 false).bind fun t217 => (if 0 < (t217.length : Int) then (if (rd t217 0) < 0 then (some (y213, false)) else (spec_FormulasBest.l0 k l0 l1 y213 t217 0)) else (none))) else (some (y213, false))))) = some (r1, r2) := h
 clear h
 obtain ⟨y213, hy213⟩ : ∃ y_ : List Int, y_ = (([] : List Int)) := ⟨_, rfl⟩
 replace H : ((spec_l6fOk.f k l0 l1).bind fun t216 => (if t216 = true then ((spec_l6fLeast.f k l0 l1 false).bind fun t217 => (if 0 < (t217.length : Int) then (if (rd t217 0) < 0 then (some (y213, false)) else (spec_FormulasBest.l0 k l0 l1 y213 t217 0)) else (none))) else (some (y213, false)))) = some (r1, r2) := by first | (rw [hy213]; with_reducible exact H) | (have H2_ := (Option.bind_some _ _).symm.trans H; rw [hy213]; with_reducible exact H2_) | (have H2_ := (Option.bind_some _ _).symm.trans H; with_reducible exact H2_) | with_reducible exact H | (rw [hy213]; exact H) | exact H
 have Ny213 := Aside0.mk hy213
 clear hy213
 replace H := Option.bind_eq_some_iff.mp H
 obtain ⟨t216, A30, H⟩ := H
 replace H : (if t216 = true then ((spec_l6fLeast.f k l0 l1 false).bind fun t217 => (if 0 < (t217.length : Int) then (if (rd t217 0) < 0 then (some (y213, false)) else (spec_FormulasBest.l0 k l0 l1 y213 t217 0)) else (none))) else (some (y213, false))) = some (r1, r2) := H
 have A3 := Aside0.mk A30
 clear A30
 by_cases c4 : t216 = true
 ·
  subst c4
  have H1 : ((spec_l6fLeast.f k l0 l1 false).bind fun t217 => (if 0 < (t217.length : Int) then (if (rd t217 0) < 0 then (some (y213, false)) else (spec_FormulasBest.l0 k l0 l1 y213 t217 0)) else (none))) = some (r1, r2) := by rw [if_pos rfl] at H; exact H
  clear H
  have H := H1
  clear H1
  replace H := Option.bind_eq_some_iff.mp H
  obtain ⟨t217, A50, H⟩ := H
  replace H : (if 0 < (t217.length : Int) then (if (rd t217 0) < 0 then (some (y213, false)) else (spec_FormulasBest.l0 k l0 l1 y213 t217 0)) else (none)) = some (r1, r2) := H
  have A5 := Aside0.mk A50
  clear A50
  by_cases c6 : 0 < (t217.length : Int)
  ·
   rw [if_pos c6] at H
   have c6b0 : decide (0 < (t217.length : Int)) = true := decide_eq_true c6
   have c6b1 : decide (0 < t217.length) = true := decide_eq_true (by omega)
   clear c6
   by_cases c7 : (rd t217 0) < 0
   ·
    rw [if_pos c7] at H
    have c7b0 : decide ((rd t217 0) < 0) = true := decide_eq_true c7
    clear c7
    simp only [Option.some.injEq, Prod.mk.injEq] at H
    obtain ⟨rfl, rfl⟩ := H
    go_enter Try.func30, Try.ntmps30
    go_wp2_with (first | ((with_reducible refine gate_dst (N := 10) rfl ?_); (try (refine gate_guard (by rfl) ?_; dsimp only)); refine Kd.R_lit (Kd.int .i64) _ 3 ?hg (N := 10) ?hd (xs := ([] : List Int)) (inner := []) (ok := fun _ => True) (okp := fun _ => True) ?hr ?hp (fun _ hk => hk) trivial (Below.refl _ _) (Nat.le_refl _) (by simp) ?_; (case hd => rfl); (case hg => rfl); (case hr => first | (go_simp; done) | (go_simp; rfl)); (case hp => exact (Reps.none _ _)); intro v214 w8 ho9 hb hg_ hnew_; clear hg_ hnew_; (first | rw [← Ny213.out] at ho9 | (simp only [Int.reduceToNat] at ho9; rw [← Ny213.out] at ho9)); have n0_ := Aside0.mk (Kd.R_lower ho9 (below_size (by repeat (first | (with_reducible first | exact HB.out | apply below_alloc | apply pw_below_drewN | apply below_drew1) | exact HB.out)))); have n1_ := Aside0.mk (below_step (by repeat (first | (with_reducible first | exact HB.out | apply below_alloc | apply pw_below_drewN | apply below_drew1) | exact HB.out)) hb); clear HB; have HO215 := n0_; have HB := n1_; clear n0_ n1_; clear hb ho9) | ((with_reducible refine gate_callee (f := 81) rfl ?_); refine goesL_ (some 13) rfl rfl Try.func81 (by kernel_rfl) rfl #[.slice A0 l0.length c0, .slice A1 l1.length c1] rfl (by (try simp only [List.map_toArray, List.map_cons, List.map_nil]); first | done | rfl | (simp only [List.length_drop, List.length_take]; rfl)) ?_; (with_reducible refine (spec_l6fOk.calls k _ _ l0 _ _ l1 true _ ?side1 ?side2 ?side3 ?side4 A3.out).mono ?_); (case side1 => repeat (first | exact (Kd.C_below HR0.out HB.out) | (with_reducible refine Kd.C_alloc ?_ _) | (with_reducible refine Kd.C_drewN ?_ _) | (with_reducible refine Kd.C_drew ?_))); (case side2 => exact HC0.out); (case side3 => repeat (first | exact (Kd.C_below HR1.out HB.out) | (with_reducible refine Kd.C_alloc ?_ _) | (with_reducible refine Kd.C_drewN ?_ _) | (with_reducible refine Kd.C_drew ?_))); (case side4 => exact HC1.out); rintro e w10 ⟨rfl, hb⟩; refine ⟨_, rfl, ?_⟩; have n0_ := Aside0.mk (Kd.R_below (by (with_reducible repeat (first | apply Kd.R_alloc | apply Kd.R_drewN | apply Kd.R_drew)); exact HO215.out) hb); have n1_ := Aside0.mk (below_step (by repeat (first | (with_reducible first | exact HB.out | apply below_alloc | apply pw_below_drewN | apply below_drew1) | exact HB.out)) hb); clear HO215; clear HB; have HO215 := n0_; have HB := n1_; clear n0_ n1_; (try clear hb); (try clear hb2); (try clear hk); (try clear hi)) | ((with_reducible refine gate_callee (f := 82) rfl ?_); refine goesL_ (some 18) rfl rfl Try.func82 (by kernel_rfl) rfl #[.slice A0 l0.length c0, .slice A1 l1.length c1, .bool false] rfl (by (try simp only [List.map_toArray, List.map_cons, List.map_nil]); first | done | rfl | (simp only [List.length_drop, List.length_take]; rfl)) ?_; (with_reducible refine (spec_l6fLeast.calls k _ _ l0 _ _ l1 false t217 _ ?side1 ?side2 ?side3 ?side4 A5.out).mono ?_); (case side1 => repeat (first | exact (Kd.C_below HR0.out HB.out) | (with_reducible refine Kd.C_alloc ?_ _) | (with_reducible refine Kd.C_drewN ?_ _) | (with_reducible refine Kd.C_drew ?_))); (case side2 => exact HC0.out); (case side3 => repeat (first | exact (Kd.C_below HR1.out HB.out) | (with_reducible refine Kd.C_alloc ?_ _) | (with_reducible refine Kd.C_drewN ?_ _) | (with_reducible refine Kd.C_drew ?_))); (case side4 => exact HC1.out); rintro e w11 ⟨v218, rfl, ho0, hb⟩; refine ⟨_, rfl, ?_⟩; have n0_ := Aside0.mk (Kd.R_elder' (by (with_reducible repeat (first | apply Kd.R_alloc | apply Kd.R_drewN | apply Kd.R_drew)); exact HO215.out) (Kd.R_base ho0) hb); have n1_ := Aside0.mk (Kd.R_lower (Kd.R_new' ho0 (Kd.R_lt (by (with_reducible repeat (first | apply Kd.R_alloc | apply Kd.R_drewN | apply Kd.R_drew)); exact HO215.out))) (below_size (by repeat (first | (with_reducible first | exact HB.out | apply below_alloc | apply pw_below_drewN | apply below_drew1) | exact HB.out)))); have n2_ := Aside0.mk (below_step (by repeat (first | (with_reducible first | exact HB.out | apply below_alloc | apply pw_below_drewN | apply below_drew1) | exact HB.out)) hb); clear HO215; clear HB; have HO215 := n0_; have HO219 := n1_; have HB := n2_; clear n0_ n1_ n2_; (try clear hb); (try clear hb2); (try clear hk); (try clear hi); (try clear ho0); obtain ⟨Ao12, co12, eo12⟩ := Kd.R_slice HO219.out; subst eo12; have p220 : 0 ≤ (0 : Int) := (by omega); have q220 : 0 < (t217.length : Int) := of_decide_eq_true (by first | (with_reducible assumption) | assumption); obtain ⟨ad220, e220, hx220_0⟩ := Kd.at_int (Kd.R_reads' HO219.out).2.2 0 p220 q220; cases e220; have qi220 : (0 < t217.length) = True := eq_true (by omega); (try rw [show ((0 : Int)).toNat = 0 from rfl] at hx220_0); (try rw [Addr.add_zero'] at hx220_0); replace p220 := eq_true p220; replace q220 := eq_true q220))
    go_ret2
    exact ⟨_, by first | rfl | (simp [errW_none, errW_some] <;> rfl) | (simp [*, errW_none, errW_some] <;> rfl), by (with_reducible repeat (first | apply Kd.R_alloc | apply Kd.R_drewN | apply Kd.R_drew)); exact Kd.R_mono HO215.out (fun _ hk => trivial), by repeat (first | (with_reducible first | exact HB.out | apply below_alloc | apply pw_below_drewN | apply below_drew1) | exact HB.out)⟩
   ·
    rw [if_neg c7] at H
    have c7b0 : decide ((rd t217 0) < 0) = false := decide_eq_false c7
    clear c7
    have H' := Aside0.mk H
    clear H
    go_enter Try.func30, Try.ntmps30
    go_wp2_with (first | ((with_reducible refine gate_dst (N := 10) rfl ?_); (try (refine gate_guard (by rfl) ?_; dsimp only)); refine Kd.R_lit (Kd.int .i64) _ 3 ?hg (N := 10) ?hd (xs := ([] : List Int)) (inner := []) (ok := fun _ => True) (okp := fun _ => True) ?hr ?hp (fun _ hk => hk) trivial (Below.refl _ _) (Nat.le_refl _) (by simp) ?_; (case hd => rfl); (case hg => rfl); (case hr => first | (go_simp; done) | (go_simp; rfl)); (case hp => exact (Reps.none _ _)); intro v214 w13 ho14 hb hg_ hnew_; clear hg_ hnew_; (first | rw [← Ny213.out] at ho14 | (simp only [Int.reduceToNat] at ho14; rw [← Ny213.out] at ho14)); have n0_ := Aside0.mk (Kd.R_lower ho14 (below_size (by repeat (first | (with_reducible first | exact HB.out | apply below_alloc | apply pw_below_drewN | apply below_drew1) | exact HB.out)))); have n1_ := Aside0.mk (below_step (by repeat (first | (with_reducible first | exact HB.out | apply below_alloc | apply pw_below_drewN | apply below_drew1) | exact HB.out)) hb); clear HB; have HO215 := n0_; have HB := n1_; clear n0_ n1_; clear hb ho14) | ((with_reducible refine gate_callee (f := 81) rfl ?_); refine goesL_ (some 13) rfl rfl Try.func81 (by kernel_rfl) rfl #[.slice A0 l0.length c0, .slice A1 l1.length c1] rfl (by (try simp only [List.map_toArray, List.map_cons, List.map_nil]); first | done | rfl | (simp only [List.length_drop, List.length_take]; rfl)) ?_; (with_reducible refine (spec_l6fOk.calls k _ _ l0 _ _ l1 true _ ?side1 ?side2 ?side3 ?side4 A3.out).mono ?_); (case side1 => repeat (first | exact (Kd.C_below HR0.out HB.out) | (with_reducible refine Kd.C_alloc ?_ _) | (with_reducible refine Kd.C_drewN ?_ _) | (with_reducible refine Kd.C_drew ?_))); (case side2 => exact HC0.out); (case side3 => repeat (first | exact (Kd.C_below HR1.out HB.out) | (with_reducible refine Kd.C_alloc ?_ _) | (with_reducible refine Kd.C_drewN ?_ _) | (with_reducible refine Kd.C_drew ?_))); (case side4 => exact HC1.out); rintro e w15 ⟨rfl, hb⟩; refine ⟨_, rfl, ?_⟩; have n0_ := Aside0.mk (Kd.R_below (by (with_reducible repeat (first | apply Kd.R_alloc | apply Kd.R_drewN | apply Kd.R_drew)); exact HO215.out) hb); have n1_ := Aside0.mk (below_step (by repeat (first | (with_reducible first | exact HB.out | apply below_alloc | apply pw_below_drewN | apply below_drew1) | exact HB.out)) hb); clear HO215; clear HB; have HO215 := n0_; have HB := n1_; clear n0_ n1_; (try clear hb); (try clear hb2); (try clear hk); (try clear hi)) | ((with_reducible refine gate_callee (f := 82) rfl ?_); refine goesL_ (some 18) rfl rfl Try.func82 (by kernel_rfl) rfl #[.slice A0 l0.length c0, .slice A1 l1.length c1, .bool false] rfl (by (try simp only [List.map_toArray, List.map_cons, List.map_nil]); first | done | rfl | (simp only [List.length_drop, List.length_take]; rfl)) ?_; (with_reducible refine (spec_l6fLeast.calls k _ _ l0 _ _ l1 false t217 _ ?side1 ?side2 ?side3 ?side4 A5.out).mono ?_); (case side1 => repeat (first | exact (Kd.C_below HR0.out HB.out) | (with_reducible refine Kd.C_alloc ?_ _) | (with_reducible refine Kd.C_drewN ?_ _) | (with_reducible refine Kd.C_drew ?_))); (case side2 => exact HC0.out); (case side3 => repeat (first | exact (Kd.C_below HR1.out HB.out) | (with_reducible refine Kd.C_alloc ?_ _) | (with_reducible refine Kd.C_drewN ?_ _) | (with_reducible refine Kd.C_drew ?_))); (case side4 => exact HC1.out); rintro e w16 ⟨v218, rfl, ho0, hb⟩; refine ⟨_, rfl, ?_⟩; have n0_ := Aside0.mk (Kd.R_elder' (by (with_reducible repeat (first | apply Kd.R_alloc | apply Kd.R_drewN | apply Kd.R_drew)); exact HO215.out) (Kd.R_base ho0) hb); have n1_ := Aside0.mk (Kd.R_lower (Kd.R_new' ho0 (Kd.R_lt (by (with_reducible repeat (first | apply Kd.R_alloc | apply Kd.R_drewN | apply Kd.R_drew)); exact HO215.out))) (below_size (by repeat (first | (with_reducible first | exact HB.out | apply below_alloc | apply pw_below_drewN | apply below_drew1) | exact HB.out)))); have n2_ := Aside0.mk (below_step (by repeat (first | (with_reducible first | exact HB.out | apply below_alloc | apply pw_below_drewN | apply below_drew1) | exact HB.out)) hb); clear HO215; clear HB; have HO215 := n0_; have HO219 := n1_; have HB := n2_; clear n0_ n1_ n2_; (try clear hb); (try clear hb2); (try clear hk); (try clear hi); (try clear ho0); obtain ⟨Ao17, co17, eo17⟩ := Kd.R_slice HO219.out; subst eo17; have p220 : 0 ≤ (0 : Int) := (by omega); have q220 : 0 < (t217.length : Int) := of_decide_eq_true (by first | (with_reducible assumption) | assumption); obtain ⟨ad220, e220, hx220_0⟩ := Kd.at_int (Kd.R_reads' HO219.out).2.2 0 p220 q220; cases e220; have qi220 : (0 < t217.length) = True := eq_true (by omega); (try rw [show ((0 : Int)).toNat = 0 from rfl] at hx220_0); (try rw [Addr.add_zero'] at hx220_0); replace p220 := eq_true p220; replace q220 := eq_true q220))
    go_loopg [6, 8] k (fun kq v6 v8 w' => ∃ (x6_1 : List Int) (x8_1 : Int), v8 = .int .i64 x8_1 ∧ Aside0 (spec_FormulasBest.l0 kq l0 l1 x6_1 t217 x8_1 = some (r1, r2)) ∧ Aside0 (kq ≤ k) ∧ Aside0 (Kd.R (Kd.int .i64) 3 w' w.heap.size (fun k_ => some k_ ≠ ((.slice (some ad220) t217.length co17) : Value).ownBlock) v6 x6_1) ∧ Aside0 (Kd.R (Kd.int .i64) 3 w' w.heap.size (fun k_ => some k_ ≠ (v6 : Value).ownBlock) (.slice (some ad220) t217.length co17) t217) ∧ Aside0 (Below w.heap.size w w'))
    case atStart => exact ⟨(y213), (0), (by first | rfl | (simp; done) | (simp [*]; done)), H', ⟨Nat.le_refl _⟩, ⟨by (with_reducible repeat (first | apply Kd.R_alloc | apply Kd.R_drewN | apply Kd.R_drew)); exact Kd.R_mono HO215.out (fun _ hk => hk.2)⟩, ⟨by (with_reducible repeat (first | apply Kd.R_alloc | apply Kd.R_drewN | apply Kd.R_drew)); exact Kd.R_mono HO219.out (fun _ hk => hk.2)⟩, ⟨by repeat (first | (with_reducible first | exact HB.out | apply below_alloc | apply pw_below_drewN | apply below_drew1) | exact HB.out)⟩⟩
    case round =>
     clear H'
     try clear c1
     try clear p2
     try clear q2
     try clear hx2
     try clear qi2
     try clear c3
     try clear c4
     try clear c6
     try clear c6b0
     try clear c6b1
     try clear c7
     try clear c7b0
     try clear c8
     try clear hx220_0
     try clear p220
     try clear q220
     obtain ⟨x6_1, x8_1, rfl, HA, HK1, HO_6, HO_7, HB⟩ := hrel
     cases gk with
     | zero => exact absurd HA.out (by simp [spec_FormulasBest.l0])
     | succ k1 =>
      have H := HA.out
      clear HA
      simp only [spec_FormulasBest.l0] at H
      by_cases c18 : x8_1 < (l1.length : Int)
      ·
       rw [if_pos c18] at H
       have c18b0 : decide (x8_1 < (l1.length : Int)) = true := decide_eq_true c18
       clear c18
       have H' := Aside0.mk H
       clear H
       go_wp2
       go_loopg [9] k1 (fun kq v9 w' => ∃ (x9_2 : Int), v9 = .int .i64 x9_2 ∧ Aside0 (spec_FormulasBest.l1 kq l0 l1 x6_1 t217 x8_1 x9_2 = some (r1, r2)) ∧ Aside0 (kq ≤ k1) ∧ Aside0 (Kd.R (Kd.int .i64) 3 w' w.heap.size (fun k_ => some k_ ≠ ((.slice (some ad220) t217.length co17) : Value).ownBlock) u6 x6_1) ∧ Aside0 (Kd.R (Kd.int .i64) 3 w' w.heap.size (fun k_ => some k_ ≠ (u6 : Value).ownBlock) (.slice (some ad220) t217.length co17) t217) ∧ Aside0 (Below w.heap.size w w'))
       case atStart => exact ⟨(0), (by first | rfl | (simp; done) | (simp [*]; done)), H', ⟨Nat.le_refl _⟩, ⟨by (with_reducible repeat (first | apply Kd.R_alloc | apply Kd.R_drewN | apply Kd.R_drew)); exact HO_6.out⟩, ⟨by (with_reducible repeat (first | apply Kd.R_alloc | apply Kd.R_drewN | apply Kd.R_drew)); exact HO_7.out⟩, ⟨by repeat (first | (with_reducible first | exact HB.out | apply below_alloc | apply pw_below_drewN | apply below_drew1) | exact HB.out)⟩⟩
       case round =>
        clear H'
        try clear c1
        try clear p2
        try clear q2
        try clear hx2
        try clear qi2
        try clear c3
        try clear c4
        try clear c6
        try clear c6b0
        try clear c6b1
        try clear c7
        try clear c7b0
        try clear c8
        try clear c18
        try clear c18b0
        try clear hx220_0
        try clear p2
        try clear p220
        try clear q2
        try clear q220
        obtain ⟨x9_2, rfl, HA, HK2, HO_6, HO_7, HB⟩ := hrel
        cases gk with
        | zero => exact absurd HA.out (by simp [spec_FormulasBest.l1])
        | succ k2 =>
         have H := HA.out
         clear HA
         simp only [spec_FormulasBest.l1] at H
         by_cases c19 : 0 ≤ x9_2
         ·
          rw [if_pos c19] at H
          have c19b0 : decide (0 ≤ x9_2) = true := decide_eq_true c19
          clear c19
          by_cases c20 : x9_2 < (l0.length : Int)
          ·
           rw [if_pos c20] at H
           have c20b0 : decide (x9_2 < (l0.length : Int)) = true := decide_eq_true c20
           clear c20
           replace H := Option.bind_eq_some_iff.mp H
           obtain ⟨t222, A210, H⟩ := H
           replace H : (if t222 = true then (if 0 ≤ (wrap64 (x8_1 + (((rd_T55 l0 x9_2).f0).length : Int))) then (if (wrap64 (x8_1 + (((rd_T55 l0 x9_2).f0).length : Int))) < (t217.length : Int) then (if (rd t217 (wrap64 (x8_1 + (((rd_T55 l0 x9_2).f0).length : Int)))) < 0 then (spec_FormulasBest.l1 k2 l0 l1 x6_1 t217 x8_1 (wrap64 (x9_2 + 1))) else (if 0 ≤ x8_1 then (if x8_1 < (t217.length : Int) then (if (wrap64 ((rd t217 (wrap64 (x8_1 + (((rd_T55 l0 x9_2).f0).length : Int)))) + ((rd_T55 l0 x9_2).f1))) = (rd t217 x8_1) then (if x6_1.length < 17592186044416 then (spec_FormulasBest.l0 k2 l0 l1 (x6_1 ++ [x9_2]) t217 (wrap64 (x8_1 + (((rd_T55 l0 x9_2).f0).length : Int)))) else (none)) else (spec_FormulasBest.l1 k2 l0 l1 x6_1 t217 x8_1 (wrap64 (x9_2 + 1)))) else (none)) else (none))) else (none)) else (none)) else (spec_FormulasBest.l1 k2 l0 l1 x6_1 t217 x8_1 (wrap64 (x9_2 + 1)))) = some (r1, r2) := H
           have A21 := Aside0.mk A210
           clear A210
           by_cases c22 : t222 = true
           ·
            subst c22
            have H1 : (if 0 ≤ (wrap64 (x8_1 + (((rd_T55 l0 x9_2).f0).length : Int))) then (if (wrap64 (x8_1 + (((rd_T55 l0 x9_2).f0).length : Int))) < (t217.length : Int) then (if (rd t217 (wrap64 (x8_1 + (((rd_T55 l0 x9_2).f0).length : Int)))) < 0 then (spec_FormulasBest.l1 k2 l0 l1 x6_1 t217 x8_1 (wrap64 (x9_2 + 1))) else (if 0 ≤ x8_1 then (if x8_1 < (t217.length : Int) then (if (wrap64 ((rd t217 (wrap64 (x8_1 + (((rd_T55 l0 x9_2).f0).length : Int)))) + ((rd_T55 l0 x9_2).f1))) = (rd t217 x8_1) then (if x6_1.length < 17592186044416 then (spec_FormulasBest.l0 k2 l0 l1 (x6_1 ++ [x9_2]) t217 (wrap64 (x8_1 + (((rd_T55 l0 x9_2).f0).length : Int)))) else (none)) else (spec_FormulasBest.l1 k2 l0 l1 x6_1 t217 x8_1 (wrap64 (x9_2 + 1)))) else (none)) else (none))) else (none)) else (none)) = some (r1, r2) := by rw [if_pos rfl] at H; exact H
            clear H
            have H := H1
            clear H1
            obtain ⟨ji23, hji23⟩ : ∃ j_ : Int, (wrap64 (x8_1 + (((rd_T55 l0 x9_2).f0).length : Int))) = j_ := ⟨_, rfl⟩
            replace H : (if 0 ≤ (ji23) then (if (ji23) < (t217.length : Int) then (if (rd t217 (ji23)) < 0 then (spec_FormulasBest.l1 k2 l0 l1 x6_1 t217 x8_1 (wrap64 (x9_2 + 1))) else (if 0 ≤ x8_1 then (if x8_1 < (t217.length : Int) then (if (wrap64 ((rd t217 (ji23)) + ((rd_T55 l0 x9_2).f1))) = (rd t217 x8_1) then (if x6_1.length < 17592186044416 then (spec_FormulasBest.l0 k2 l0 l1 (x6_1 ++ [x9_2]) t217 ji23) else (none)) else (spec_FormulasBest.l1 k2 l0 l1 x6_1 t217 x8_1 (wrap64 (x9_2 + 1)))) else (none)) else (none))) else (none)) else (none)) = some (r1, r2) := by first | (rw [hji23] at H; exact H) | (simp only [hji23] at H ⊢; exact H)
            (try rw [hji23] at A21)
            have hji23w : (IntKind.i64.wrap (x8_1 + (((rd_T55 l0 x9_2).f0).length : Int))) = ji23 := (i64_w _).trans hji23
            by_cases c24 : 0 ≤ (ji23)
            ·
             rw [if_pos c24] at H
             have c24b0 : decide (0 ≤ (ji23)) = true := decide_eq_true c24
             clear c24
             by_cases c25 : (ji23) < (t217.length : Int)
             ·
              rw [if_pos c25] at H
              have c25b0 : decide ((ji23) < (t217.length : Int)) = true := decide_eq_true c25
              clear c25
              by_cases c26 : (rd t217 (ji23)) < 0
              ·
               rw [if_pos c26] at H
               have c26b0 : decide ((rd t217 (ji23)) < 0) = true := decide_eq_true c26
               clear c26
               have H' := Aside0.mk H
               clear H
               try go_wp2
               have n0_ := Aside0.mk (Kd.R_drew HO_6.out)
               have n1_ := Aside0.mk (Kd.R_drew HO_7.out)
               have n2_ := Aside0.mk (below_drew1 HB.out)
               clear HO_6
               clear HO_7
               clear HB
               have HO_6 := n0_
               have HO_7 := n1_
               have HB := n2_
               clear n0_ n1_ n2_
               have p221 : 0 ≤ (x9_2 : Int) := of_decide_eq_true (by first | (with_reducible assumption) | assumption)
               have q221 : x9_2 < (l0.length : Int) := of_decide_eq_true (by first | (with_reducible assumption) | assumption)
               obtain ⟨ad221, A221_0, c221_0, e221, hx221_0, hx221_1, hl221_0, hi221_0⟩ := at_T55 HR0.out x9_2 p221 q221
               have hw221_1 := hx221_1
               have hw221_0 := hx221_0
               cases e221
               replace hx221_0 := (HB.out.cell (World.block_lt_of_cell? w _ hx221_0)).trans hx221_0
               replace hx221_1 := (HB.out.cell (World.block_lt_of_cell? w _ hx221_1)).trans hx221_1
               have HR221_0 := Aside0.mk hi221_0
               have HC221_0 := Aside0.mk hl221_0
               clear hi221_0 hl221_0
               replace p221 := eq_true p221
               replace q221 := eq_true q221
               have p223 : 0 ≤ (x9_2 : Int) := of_decide_eq_true (by first | (with_reducible assumption) | assumption)
               have q223 : x9_2 < (l0.length : Int) := of_decide_eq_true (by first | (with_reducible assumption) | assumption)
               obtain ⟨ad223, A223_0, c223_0, e223, hx223_0, hx223_1, hl223_0, hi223_0⟩ := at_T55 HR0.out x9_2 p223 q223
               have hw223_1 := hx223_1
               have hw223_0 := hx223_0
               obtain rfl : ad221 = ad223 := (by injection e223)
               replace hx223_0 := (HB.out.cell (World.block_lt_of_cell? w _ hx223_0)).trans hx223_0
               replace hx223_1 := (HB.out.cell (World.block_lt_of_cell? w _ hx223_1)).trans hx223_1
               have HR223_0 := Aside0.mk hi223_0
               have HC223_0 := Aside0.mk hl223_0
               clear hi223_0 hl223_0
               replace p223 := eq_true p223
               replace q223 := eq_true q223
               have p224 : 0 ≤ ((ji23) : Int) := of_decide_eq_true (by first | (with_reducible assumption) | assumption)
               have q224 : (ji23) < (t217.length : Int) := of_decide_eq_true (by first | (with_reducible assumption) | assumption)
               obtain ⟨ad224, e224, hx224_0⟩ := Kd.at_int (Kd.R_reads' HO_7.out).2.2 (ji23) p224 q224
               obtain rfl : ad220 = ad224 := (by injection e224)
               replace p224 := eq_true p224
               replace q224 := eq_true q224
               refine start_ (n := 46) (S := fun w' => w'.cell? (ad221.add ((x9_2).toNat * 2)) = some (.slice A221_0 ((rd_T55 l0 x9_2).f0).length c221_0) ∧ w'.cell? ⟨(ad221.add ((x9_2).toNat * 2)).block, (ad221.add ((x9_2).toNat * 2)).off + 1, none⟩ = some (.int .i64 ((rd_T55 l0 x9_2).f1)) ∧ w'.cell? (ad221.add ((x9_2).toNat * 2)) = some (.slice A223_0 ((rd_T55 l0 x9_2).f0).length c223_0) ∧ w'.cell? ⟨(ad221.add ((x9_2).toNat * 2)).block, (ad221.add ((x9_2).toNat * 2)).off + 1, none⟩ = some (.int .i64 ((rd_T55 l0 x9_2).f1)) ∧ w'.cell? (ad220.add ((ji23)).toNat) = some (.int .i64 (rd t217 (ji23)))) (ds := []) (rowB 46 0) (by kernel_rfl) rfl rfl ⟨((HB.out.cell (World.block_lt_of_cell? w _ hw221_0)).trans hw221_0), ((HB.out.cell (World.block_lt_of_cell? w _ hw221_1)).trans hw221_1), ((HB.out.cell (World.block_lt_of_cell? w _ hw223_0)).trans hw223_0), ((HB.out.cell (World.block_lt_of_cell? w _ hw223_1)).trans hw223_1), hx224_0⟩ (fun hHeld => ?_); refine with_tabW spec_FormulasBest.tab10 spec_FormulasBest.bits10 (fun HT_ HW_ => ?_)
               generalize wr.drew = w27 at HO_6 HO_7 HB HR221_0 HR223_0 hx221_0 hx221_1 hx223_0 hx223_1 hx224_0 hHeld ⊢
               refine pure_ (i := 0) (N := some 28) (v := ?_) (a' := ?_) (rowB 46 1) rfl rfl (any_of HT_.out (by kernel_rfl)) (fun _ _ _ h => h) (Or.inl ⟨by rfl, ?_⟩) ?_ ?_
               rotate_left
               ·
                intro w'
                go_simp
                with_reducible rfl
               rotate_left
               ·
                simp only [Act.put, List.setIfInBounds_toArray, List.set_cons_zero, List.set_cons_succ, i64_w, i32_w]
                rfl
               refine pure_ (i := 1) (N := some 29) (v := ?_) (a' := ?_) (rowB 46 3) rfl rfl (any_of HT_.out (by kernel_rfl)) (fun _ _ _ h => h) (Or.inl ⟨by rfl, ?_⟩) ?_ ?_
               rotate_left
               ·
                intro w'
                go_simp
                with_reducible rfl
               rotate_left
               ·
                simp only [Act.put, List.setIfInBounds_toArray, List.set_cons_zero, List.set_cons_succ, i64_w, i32_w]
                rfl
               refine pure_ (i := 2) (N := some 30) (v := ?_) (a' := ?_) (rowB 46 7) rfl rfl (any_of HT_.out (by kernel_rfl)) (fun _ _ _ h => h) (Or.inl ⟨by rfl, ?_⟩) ?_ ?_
               rotate_left
               ·
                intro w'
                go_simp
                with_reducible rfl
               rotate_left
               ·
                simp only [Act.put, List.setIfInBounds_toArray, List.set_cons_zero, List.set_cons_succ, i64_w, i32_w]
                rfl
               refine pure_ (i := 4) (N := some 32) (v := ?_) (a' := ?_) (rowB 46 23) rfl rfl (any_of HT_.out (by kernel_rfl)) (fun _ _ _ h => h) (Or.inl ⟨by rfl, ?_⟩) ?_ ?_
               rotate_left
               ·
                intro w'
                go_simp
                with_reducible rfl
               rotate_left
               ·
                simp only [Act.put, List.setIfInBounds_toArray, List.set_cons_zero, List.set_cons_succ, i64_w, i32_w]
                rfl
               refine pure_ (i := 5) (N := some 33) (v := ?_) (a' := ?_) (rowB 46 55) rfl rfl (any_of HT_.out (by kernel_rfl)) (fun _ _ _ h => h) (Or.inl ⟨by rfl, ?_⟩) ?_ ?_
               rotate_left
               ·
                intro w'
                go_simp
                with_reducible rfl
               rotate_left
               ·
                simp only [Act.put, List.setIfInBounds_toArray, List.set_cons_zero, List.set_cons_succ, i64_w, i32_w]
                rfl
               refine take_ (i := 3) (N := some 31) (v := ?_) (a' := ?_) (rowB 46 63) rfl rfl (take_ofW HT_.out HW_.out (by kernel_rfl)) (fun _ _ _ h => h) (Or.inl ⟨by rfl, ?_⟩) hHeld ?_ ?_
               rotate_left
               ·
                rintro w' ⟨s0, s1, s2, s3, s4⟩
                go_simp
                with_reducible rfl
               rotate_left
               ·
                simp only [Act.put, List.setIfInBounds_toArray, List.set_cons_zero, List.set_cons_succ, i64_w, i32_w]
                rfl
               refine one_ (i := 6) (N := some 34) (rowB 46 127) rfl rfl (one_of HT_.out (by kernel_rfl)) (by decide) (fun K hK => ?_)
               refine goes_ Try.func83 (by kernel_rfl) rfl #[.agg #[.slice A221_0 ((rd_T55 l0 x9_2).f0).length c221_0, .int .i64 ((rd_T55 l0 x9_2).f1)], .slice A1 l1.length c1, .int .i64 x8_1] (by rfl) rfl rfl (by (try simp only [List.map_toArray, List.map_cons, List.map_nil]); first | done | rfl | (simp only [List.length_drop, List.length_take]; rfl)) ?_
               with_reducible refine (spec_l6fAt.calls k2 _ _ ((rd_T55 l0 x9_2).f0) ((rd_T55 l0 x9_2).f1) _ _ l1 x8_1 true _ ?side1 ?side2 ?side3 ?side4 A21.out).mono ?_
               (case side1 => repeat (first | exact (Kd.C_below HR221_0.out HB.out) | (with_reducible refine Kd.C_alloc ?_ _) | (with_reducible refine Kd.C_drewN ?_ _) | (with_reducible refine Kd.C_drew ?_)))
               (case side2 => exact HC221_0.out)
               (case side3 => repeat (first | exact (Kd.C_below HR1.out HB.out) | (with_reducible refine Kd.C_alloc ?_ _) | (with_reducible refine Kd.C_drewN ?_ _) | (with_reducible refine Kd.C_drew ?_)))
               (case side4 => exact HC1.out)
               rintro e w28 ⟨rfl, hb⟩
               have HS4_ := (hb.cell (World.block_lt_of_cell? _ _ (hHeld.2.2.2.2))).trans (hHeld.2.2.2.2)
               refine ⟨_, rfl, ?_⟩
               have n0_ := Aside0.mk (Kd.R_below (by (with_reducible repeat (first | apply Kd.R_alloc | apply Kd.R_drewN | apply Kd.R_drew)); exact HO_6.out) hb)
               have n1_ := Aside0.mk (Kd.R_below (by (with_reducible repeat (first | apply Kd.R_alloc | apply Kd.R_drewN | apply Kd.R_drew)); exact HO_7.out) hb)
               have n2_ := Aside0.mk (below_step (by repeat (first | (with_reducible first | exact HB.out | apply below_alloc | apply pw_below_drewN | apply below_drew1) | exact HB.out)) hb)
               clear HO_6
               clear HO_7
               clear HB
               have HO_6 := n0_
               have HO_7 := n1_
               have HB := n2_
               clear n0_ n1_ n2_
               (try clear hb)
               (try clear hb2)
               (try clear hk)
               (try clear hi)
               refine hK.out _ _ ⟨((HB.out.cell (World.block_lt_of_cell? w _ hw221_0)).trans hw221_0), ((HB.out.cell (World.block_lt_of_cell? w _ hw221_1)).trans hw221_1), ((HB.out.cell (World.block_lt_of_cell? w _ hw223_0)).trans hw223_0), ((HB.out.cell (World.block_lt_of_cell? w _ hw223_1)).trans hw223_1), HS4_⟩ (fun hHeld => ?_)
               clear hK K
               refine norm_ (a' := ?_) ?_ ?_
               rotate_left
               ·
                show Act.put _ (some 34) _ = _
                simp only [Act.put, List.setIfInBounds_toArray, List.set_cons_zero, List.set_cons_succ, i64_w, i32_w]
                rfl
               refine pure_ (i := 7) (N := some 35) (v := ?_) (a' := ?_) (rowB 46 255) rfl rfl (any_of HT_.out (by kernel_rfl)) (fun _ _ _ h => h) (Or.inl ⟨by rfl, ?_⟩) ?_ ?_
               rotate_left
               ·
                intro w'
                go_simp
                with_reducible rfl
               rotate_left
               ·
                simp only [Act.put, List.setIfInBounds_toArray, List.set_cons_zero, List.set_cons_succ, i64_w, i32_w]
                rfl
               refine pure_ (i := 8) (N := some 36) (v := ?_) (a' := ?_) (rowB 46 511) rfl rfl (any_of HT_.out (by kernel_rfl)) (fun _ _ _ h => h) (Or.inl ⟨by rfl, ?_⟩) ?_ ?_
               rotate_left
               ·
                intro w'
                go_simp
                with_reducible rfl
               rotate_left
               ·
                simp only [Act.put, List.setIfInBounds_toArray, List.set_cons_zero, List.set_cons_succ, i64_w, i32_w]
                rfl
               refine pure_ (i := 9) (N := some 37) (v := ?_) (a' := ?_) (rowB 46 1023) rfl rfl (any_of HT_.out (by kernel_rfl)) (fun _ _ _ h => h) (Or.inl ⟨by rfl, ?_⟩) ?_ ?_
               rotate_left
               ·
                intro w'
                go_simp
                with_reducible rfl
               rotate_left
               ·
                simp only [Act.put, List.setIfInBounds_toArray, List.set_cons_zero, List.set_cons_succ, i64_w, i32_w]
                rfl
               refine pure_ (i := 10) (N := some 38) (v := ?_) (a' := ?_) (rowB 46 2047) rfl rfl (any_of HT_.out (by kernel_rfl)) (fun _ _ _ h => h) (Or.inl ⟨by rfl, ?_⟩) ?_ ?_
               rotate_left
               ·
                intro w'
                go_simp
                with_reducible rfl
               rotate_left
               ·
                simp only [Act.put, List.setIfInBounds_toArray, List.set_cons_zero, List.set_cons_succ, i64_w, i32_w]
                rfl
               refine pure_ (i := 11) (N := some 39) (v := ?_) (a' := ?_) (rowB 46 4095) rfl rfl (any_of HT_.out (by kernel_rfl)) (fun _ _ _ h => h) (Or.inl ⟨by rfl, ?_⟩) ?_ ?_
               rotate_left
               ·
                intro w'
                go_simp
                with_reducible rfl
               rotate_left
               ·
                simp only [Act.put, List.setIfInBounds_toArray, List.set_cons_zero, List.set_cons_succ, i64_w, i32_w]
                rfl
               refine pure_ (i := 12) (N := some 40) (v := ?_) (a' := ?_) (rowB 46 8191) rfl rfl (any_of HT_.out (by kernel_rfl)) (fun _ _ _ h => h) (Or.inl ⟨by rfl, ?_⟩) ?_ ?_
               rotate_left
               ·
                intro w'
                go_simp
                with_reducible rfl
               rotate_left
               ·
                simp only [Act.put, List.setIfInBounds_toArray, List.set_cons_zero, List.set_cons_succ, i64_w, i32_w]
                rfl
               refine pure_ (i := 13) (N := some 41) (v := ?_) (a' := ?_) (rowB 46 16383) rfl rfl (any_of HT_.out (by kernel_rfl)) (fun _ _ _ h => h) (Or.inl ⟨by rfl, ?_⟩) ?_ ?_
               rotate_left
               ·
                intro w'
                go_simp
                with_reducible rfl
               rotate_left
               ·
                simp only [Act.put, List.setIfInBounds_toArray, List.set_cons_zero, List.set_cons_succ, i64_w, i32_w]
                rfl
               refine pure_ (i := 14) (N := some 42) (v := ?_) (a' := ?_) (rowB 46 32767) rfl rfl (any_of HT_.out (by kernel_rfl)) (fun _ _ _ h => h) (Or.inl ⟨by rfl, ?_⟩) ?_ ?_
               rotate_left
               ·
                intro w'
                go_simp
                with_reducible rfl
               rotate_left
               ·
                simp only [Act.put, List.setIfInBounds_toArray, List.set_cons_zero, List.set_cons_succ, i64_w, i32_w]
                rfl
               refine take_ (i := 15) (N := some 43) (v := ?_) (a' := ?_) (rowB 46 65535) rfl rfl (take_ofW HT_.out HW_.out (by kernel_rfl)) (fun _ _ _ h => h) (Or.inl ⟨by rfl, ?_⟩) hHeld ?_ ?_
               rotate_left
               ·
                rintro w' ⟨s0, s1, s2, s3, s4⟩
                go_simp
                with_reducible rfl
               rotate_left
               ·
                simp only [Act.put, List.setIfInBounds_toArray, List.set_cons_zero, List.set_cons_succ, i64_w, i32_w]
                rfl
               refine pure_ (i := 16) (N := some 44) (v := ?_) (a' := ?_) (rowB 46 131071) rfl rfl (any_of HT_.out (by kernel_rfl)) (fun _ _ _ h => h) (Or.inl ⟨by rfl, ?_⟩) ?_ ?_
               rotate_left
               ·
                intro w'
                go_simp
                with_reducible rfl
               rotate_left
               ·
                simp only [Act.put, List.setIfInBounds_toArray, List.set_cons_zero, List.set_cons_succ, i64_w, i32_w]
                rfl
               refine pure_ (i := 17) (N := some 45) (v := ?_) (a' := ?_) (rowB 46 262143) rfl rfl (any_of HT_.out (by kernel_rfl)) (fun _ _ _ h => h) (Or.inl ⟨by rfl, ?_⟩) ?_ ?_
               rotate_left
               ·
                intro w'
                go_simp
                with_reducible rfl
               rotate_left
               ·
                simp only [Act.put, List.setIfInBounds_toArray, List.set_cons_zero, List.set_cons_succ, i64_w, i32_w]
                rfl
               refine pure_ (i := 18) (N := some 46) (v := ?_) (a' := ?_) (rowB 46 524287) rfl rfl (any_of HT_.out (by kernel_rfl)) (fun _ _ _ h => h) (Or.inl ⟨by rfl, ?_⟩) ?_ ?_
               rotate_left
               ·
                intro w'
                go_simp
                with_reducible rfl
               rotate_left
               ·
                simp only [Act.put, List.setIfInBounds_toArray, List.set_cons_zero, List.set_cons_succ, i64_w, i32_w]
                rfl
               refine take_ (i := 19) (N := some 47) (v := ?_) (a' := ?_) (rowB 46 1048575) rfl rfl (take_ofW HT_.out HW_.out (by kernel_rfl)) (fun _ _ _ h => h) (Or.inl ⟨by rfl, ?_⟩) hHeld ?_ ?_
               rotate_left
               ·
                rintro w' ⟨s0, s1, s2, s3, s4⟩
                go_simp
                with_reducible rfl
               rotate_left
               ·
                simp only [Act.put, List.setIfInBounds_toArray, List.set_cons_zero, List.set_cons_succ, i64_w, i32_w]
                rfl
               refine pure_ (i := 20) (N := some 48) (v := ?_) (a' := ?_) (rowB 46 2097151) rfl rfl (any_of HT_.out (by kernel_rfl)) (fun _ _ _ h => h) (Or.inl ⟨by rfl, ?_⟩) ?_ ?_
               rotate_left
               ·
                intro w'
                go_simp
                with_reducible rfl
               rotate_left
               ·
                simp only [Act.put, List.setIfInBounds_toArray, List.set_cons_zero, List.set_cons_succ, i64_w, i32_w]
                rfl
               refine pure_ (i := 21) (N := some 49) (v := ?_) (a' := ?_) (rowB 46 4194303) rfl rfl (any_of HT_.out (by kernel_rfl)) (fun _ _ _ h => h) (Or.inl ⟨by rfl, ?_⟩) ?_ ?_
               rotate_left
               ·
                intro w'
                go_simp
                with_reducible rfl
               rotate_left
               ·
                simp only [Act.put, List.setIfInBounds_toArray, List.set_cons_zero, List.set_cons_succ, i64_w, i32_w]
                rfl
               refine pure_ (i := 22) (N := some 50) (v := ?_) (a' := ?_) (rowB 46 8388607) rfl rfl (any_of HT_.out (by kernel_rfl)) (fun _ _ _ h => h) (Or.inl ⟨by rfl, ?_⟩) ?_ ?_
               rotate_left
               ·
                intro w'
                go_simp
                with_reducible rfl
               rotate_left
               ·
                simp only [Act.put, List.setIfInBounds_toArray, List.set_cons_zero, List.set_cons_succ, i64_w, i32_w]
                rfl
               refine pure_ (i := 23) (N := some 51) (v := undef) (a' := ?_) (rowB 46 16777215) rfl rfl (any_of HT_.out (by kernel_rfl)) (fun _ _ _ h => h) (Or.inr ⟨by rfl, rfl⟩) ?_ ?_
               rotate_left
               ·
                simp only [Act.put, List.setIfInBounds_toArray, List.set_cons_zero, List.set_cons_succ, i64_w, i32_w]
                rfl
               refine pure_ (i := 24) (N := some 52) (v := undef) (a' := ?_) (rowB 46 33554431) rfl rfl (any_of HT_.out (by kernel_rfl)) (fun _ _ _ h => h) (Or.inr ⟨by rfl, rfl⟩) ?_ ?_
               rotate_left
               ·
                simp only [Act.put, List.setIfInBounds_toArray, List.set_cons_zero, List.set_cons_succ, i64_w, i32_w]
                rfl
               refine pure_ (i := 25) (N := some 53) (v := undef) (a' := ?_) (rowB 46 67108863) rfl rfl (any_of HT_.out (by kernel_rfl)) (fun _ _ _ h => h) (Or.inr ⟨by rfl, rfl⟩) ?_ ?_
               rotate_left
               ·
                simp only [Act.put, List.setIfInBounds_toArray, List.set_cons_zero, List.set_cons_succ, i64_w, i32_w]
                rfl
               refine pure_ (i := 26) (N := some 54) (v := undef) (a' := ?_) (rowB 46 134217727) rfl rfl (any_of HT_.out (by kernel_rfl)) (fun _ _ _ h => h) (Or.inr ⟨by rfl, rfl⟩) ?_ ?_
               rotate_left
               ·
                simp only [Act.put, List.setIfInBounds_toArray, List.set_cons_zero, List.set_cons_succ, i64_w, i32_w]
                rfl
               refine pure_ (i := 27) (N := some 55) (v := undef) (a' := ?_) (rowB 46 268435455) rfl rfl (any_of HT_.out (by kernel_rfl)) (fun _ _ _ h => h) (Or.inr ⟨by rfl, rfl⟩) ?_ ?_
               rotate_left
               ·
                simp only [Act.put, List.setIfInBounds_toArray, List.set_cons_zero, List.set_cons_succ, i64_w, i32_w]
                rfl
               refine pure_ (i := 28) (N := some 56) (v := undef) (a' := ?_) (rowB 46 536870911) rfl rfl (any_of HT_.out (by kernel_rfl)) (fun _ _ _ h => h) (Or.inr ⟨by rfl, rfl⟩) ?_ ?_
               rotate_left
               ·
                simp only [Act.put, List.setIfInBounds_toArray, List.set_cons_zero, List.set_cons_succ, i64_w, i32_w]
                rfl
               refine pure_ (i := 29) (N := some 57) (v := undef) (a' := ?_) (rowB 46 1073741823) rfl rfl (any_of HT_.out (by kernel_rfl)) (fun _ _ _ h => h) (Or.inr ⟨by rfl, rfl⟩) ?_ ?_
               rotate_left
               ·
                simp only [Act.put, List.setIfInBounds_toArray, List.set_cons_zero, List.set_cons_succ, i64_w, i32_w]
                rfl
               refine pure_ (i := 30) (N := some 58) (v := undef) (a' := ?_) (rowB 46 2147483647) rfl rfl (any_of HT_.out (by kernel_rfl)) (fun _ _ _ h => h) (Or.inr ⟨by rfl, rfl⟩) ?_ ?_
               rotate_left
               ·
                simp only [Act.put, List.setIfInBounds_toArray, List.set_cons_zero, List.set_cons_succ, i64_w, i32_w]
                rfl
               refine pure_ (i := 31) (N := some 59) (v := undef) (a' := ?_) (rowB 46 4294967295) rfl rfl (any_of HT_.out (by kernel_rfl)) (fun _ _ _ h => h) (Or.inr ⟨by rfl, rfl⟩) ?_ ?_
               rotate_left
               ·
                simp only [Act.put, List.setIfInBounds_toArray, List.set_cons_zero, List.set_cons_succ, i64_w, i32_w]
                rfl
               refine pure_ (i := 32) (N := some 60) (v := undef) (a' := ?_) (rowB 46 8589934591) rfl rfl (any_of HT_.out (by kernel_rfl)) (fun _ _ _ h => h) (Or.inr ⟨by rfl, rfl⟩) ?_ ?_
               rotate_left
               ·
                simp only [Act.put, List.setIfInBounds_toArray, List.set_cons_zero, List.set_cons_succ, i64_w, i32_w]
                rfl
               refine pure_ (i := 33) (N := some 61) (v := undef) (a' := ?_) (rowB 46 17179869183) rfl rfl (any_of HT_.out (by kernel_rfl)) (fun _ _ _ h => h) (Or.inr ⟨by rfl, rfl⟩) ?_ ?_
               rotate_left
               ·
                simp only [Act.put, List.setIfInBounds_toArray, List.set_cons_zero, List.set_cons_succ, i64_w, i32_w]
                rfl
               refine pure_ (i := 34) (N := some 62) (v := undef) (a' := ?_) (rowB 46 34359738367) rfl rfl (any_of HT_.out (by kernel_rfl)) (fun _ _ _ h => h) (Or.inr ⟨by rfl, rfl⟩) ?_ ?_
               rotate_left
               ·
                simp only [Act.put, List.setIfInBounds_toArray, List.set_cons_zero, List.set_cons_succ, i64_w, i32_w]
                rfl
               refine pure_ (i := 35) (N := some 63) (v := undef) (a' := ?_) (rowB 46 68719476735) rfl rfl (any_of HT_.out (by kernel_rfl)) (fun _ _ _ h => h) (Or.inr ⟨by rfl, rfl⟩) ?_ ?_
               rotate_left
               ·
                simp only [Act.put, List.setIfInBounds_toArray, List.set_cons_zero, List.set_cons_succ, i64_w, i32_w]
                rfl
               refine pure_ (i := 36) (N := some 64) (v := undef) (a' := ?_) (rowB 46 137438953471) rfl rfl (any_of HT_.out (by kernel_rfl)) (fun _ _ _ h => h) (Or.inr ⟨by rfl, rfl⟩) ?_ ?_
               rotate_left
               ·
                simp only [Act.put, List.setIfInBounds_toArray, List.set_cons_zero, List.set_cons_succ, i64_w, i32_w]
                rfl
               refine pure_ (i := 37) (N := some 65) (v := undef) (a' := ?_) (rowB 46 274877906943) rfl rfl (any_of HT_.out (by kernel_rfl)) (fun _ _ _ h => h) (Or.inr ⟨by rfl, rfl⟩) ?_ ?_
               rotate_left
               ·
                simp only [Act.put, List.setIfInBounds_toArray, List.set_cons_zero, List.set_cons_succ, i64_w, i32_w]
                rfl
               refine pure_ (i := 38) (N := some 66) (v := undef) (a' := ?_) (rowB 46 549755813887) rfl rfl (any_of HT_.out (by kernel_rfl)) (fun _ _ _ h => h) (Or.inr ⟨by rfl, rfl⟩) ?_ ?_
               rotate_left
               ·
                simp only [Act.put, List.setIfInBounds_toArray, List.set_cons_zero, List.set_cons_succ, i64_w, i32_w]
                rfl
               refine pure_ (i := 39) (N := some 67) (v := undef) (a' := ?_) (rowB 46 1099511627775) rfl rfl (any_of HT_.out (by kernel_rfl)) (fun _ _ _ h => h) (Or.inr ⟨by rfl, rfl⟩) ?_ ?_
               rotate_left
               ·
                simp only [Act.put, List.setIfInBounds_toArray, List.set_cons_zero, List.set_cons_succ, i64_w, i32_w]
                rfl
               refine pure_ (i := 40) (N := some 68) (v := undef) (a' := ?_) (rowB 46 2199023255551) rfl rfl (any_of HT_.out (by kernel_rfl)) (fun _ _ _ h => h) (Or.inr ⟨by rfl, rfl⟩) ?_ ?_
               rotate_left
               ·
                simp only [Act.put, List.setIfInBounds_toArray, List.set_cons_zero, List.set_cons_succ, i64_w, i32_w]
                rfl
               refine pure_ (i := 41) (N := some 69) (v := undef) (a' := ?_) (rowB 46 4398046511103) rfl rfl (any_of HT_.out (by kernel_rfl)) (fun _ _ _ h => h) (Or.inr ⟨by rfl, rfl⟩) ?_ ?_
               rotate_left
               ·
                simp only [Act.put, List.setIfInBounds_toArray, List.set_cons_zero, List.set_cons_succ, i64_w, i32_w]
                rfl
               refine pure_ (i := 42) (N := some 70) (v := undef) (a' := ?_) (rowB 46 8796093022207) rfl rfl (any_of HT_.out (by kernel_rfl)) (fun _ _ _ h => h) (Or.inr ⟨by rfl, rfl⟩) ?_ ?_
               rotate_left
               ·
                simp only [Act.put, List.setIfInBounds_toArray, List.set_cons_zero, List.set_cons_succ, i64_w, i32_w]
                rfl
               refine pure_ (i := 43) (N := some 71) (v := undef) (a' := ?_) (rowB 46 17592186044415) rfl rfl (any_of HT_.out (by kernel_rfl)) (fun _ _ _ h => h) (Or.inr ⟨by rfl, rfl⟩) ?_ ?_
               rotate_left
               ·
                simp only [Act.put, List.setIfInBounds_toArray, List.set_cons_zero, List.set_cons_succ, i64_w, i32_w]
                rfl
               refine pure_ (i := 44) (N := some 72) (v := undef) (a' := ?_) (rowB 46 35184372088831) rfl rfl (any_of HT_.out (by kernel_rfl)) (fun _ _ _ h => h) (Or.inr ⟨by rfl, rfl⟩) ?_ ?_
               rotate_left
               ·
                simp only [Act.put, List.setIfInBounds_toArray, List.set_cons_zero, List.set_cons_succ, i64_w, i32_w]
                rfl
               refine pure_ (i := 45) (N := some 73) (v := ?_) (a' := ?_) (rowB 46 70368744177663) rfl rfl (any_of HT_.out (by kernel_rfl)) (fun _ _ _ h => h) (Or.inl ⟨by rfl, ?_⟩) ?_ ?_
               rotate_left
               ·
                intro w'
                go_simp
                with_reducible rfl
               rotate_left
               ·
                simp only [Act.put, List.setIfInBounds_toArray, List.set_cons_zero, List.set_cons_succ, i64_w, i32_w]
                rfl
               refine done_ (done_of HT_.out (by kernel_rfl)) ?_
               try go_wp2
               go_roundg k2
               case measure => have := HK1.out; have := HK2.out; omega
               case rel => exact ⟨(wrap64 (x9_2 + 1)), (by first | rfl | (simp; done) | (simp [*]; done)), H', ⟨by have := HK1.out; have := HK2.out; omega⟩, ⟨by (with_reducible repeat (first | apply Kd.R_alloc | apply Kd.R_drewN | apply Kd.R_drew)); exact HO_6.out⟩, ⟨by (with_reducible repeat (first | apply Kd.R_alloc | apply Kd.R_drewN | apply Kd.R_drew)); exact HO_7.out⟩, ⟨by repeat (first | (with_reducible first | exact HB.out | apply below_alloc | apply pw_below_drewN | apply below_drew1) | exact HB.out)⟩⟩
              ·
               rw [if_neg c26] at H
               have c26b0 : decide ((rd t217 (ji23)) < 0) = false := decide_eq_false c26
               clear c26
               by_cases c29 : 0 ≤ x8_1
               ·
                rw [if_pos c29] at H
                have c29b0 : decide (0 ≤ x8_1) = true := decide_eq_true c29
                clear c29
                by_cases c30 : x8_1 < (t217.length : Int)
                ·
                 rw [if_pos c30] at H
                 have c30b0 : decide (x8_1 < (t217.length : Int)) = true := decide_eq_true c30
                 clear c30
                 by_cases c31 : (wrap64 ((rd t217 (ji23)) + ((rd_T55 l0 x9_2).f1))) = (rd t217 x8_1)
                 ·
                  rw [if_pos c31] at H
                  have c31b0 : ((wrap64 ((rd t217 (ji23)) + ((rd_T55 l0 x9_2).f1))) == (rd t217 x8_1)) = true := beq_iff_eq.mpr c31
                  have c31b1 : ((wrap64 ((rd t217 (ji23)) + ((rd_T55 l0 x9_2).f1))) != (rd t217 x8_1)) = false := bne_eq_false_iff_eq.mpr c31
                  clear c31
                  by_cases c32 : x6_1.length < 17592186044416
                  ·
                   rw [if_pos c32] at H
                   have LMc32 := Aside0.mk c32
                   clear c32
                   obtain ⟨y229, hy229⟩ : ∃ y_ : List Int, y_ = (x6_1 ++ [x9_2]) := ⟨_, rfl⟩
                   replace H : (spec_FormulasBest.l0 k2 l0 l1 y229 t217 ji23) = some (r1, r2) := by first | (rw [hy229]; with_reducible exact H) | (have H2_ := (Option.bind_some _ _).symm.trans H; rw [hy229]; with_reducible exact H2_) | (have H2_ := (Option.bind_some _ _).symm.trans H; with_reducible exact H2_) | with_reducible exact H | (rw [hy229]; exact H) | exact H
                   have Ny229 := Aside0.mk hy229
                   clear hy229
                   have H' := Aside0.mk H
                   clear H
                   try go_wp2
                   have n0_ := Aside0.mk (Kd.R_drew HO_6.out)
                   have n1_ := Aside0.mk (Kd.R_drew HO_7.out)
                   have n2_ := Aside0.mk (below_drew1 HB.out)
                   clear HO_6
                   clear HO_7
                   clear HB
                   have HO_6 := n0_
                   have HO_7 := n1_
                   have HB := n2_
                   clear n0_ n1_ n2_
                   have p221 : 0 ≤ (x9_2 : Int) := of_decide_eq_true (by first | (with_reducible assumption) | assumption)
                   have q221 : x9_2 < (l0.length : Int) := of_decide_eq_true (by first | (with_reducible assumption) | assumption)
                   obtain ⟨ad221, A221_0, c221_0, e221, hx221_0, hx221_1, hl221_0, hi221_0⟩ := at_T55 HR0.out x9_2 p221 q221
                   have hw221_1 := hx221_1
                   have hw221_0 := hx221_0
                   cases e221
                   replace hx221_0 := (HB.out.cell (World.block_lt_of_cell? w _ hx221_0)).trans hx221_0
                   replace hx221_1 := (HB.out.cell (World.block_lt_of_cell? w _ hx221_1)).trans hx221_1
                   have HR221_0 := Aside0.mk hi221_0
                   have HC221_0 := Aside0.mk hl221_0
                   clear hi221_0 hl221_0
                   replace p221 := eq_true p221
                   replace q221 := eq_true q221
                   have p223 : 0 ≤ (x9_2 : Int) := of_decide_eq_true (by first | (with_reducible assumption) | assumption)
                   have q223 : x9_2 < (l0.length : Int) := of_decide_eq_true (by first | (with_reducible assumption) | assumption)
                   obtain ⟨ad223, A223_0, c223_0, e223, hx223_0, hx223_1, hl223_0, hi223_0⟩ := at_T55 HR0.out x9_2 p223 q223
                   have hw223_1 := hx223_1
                   have hw223_0 := hx223_0
                   obtain rfl : ad221 = ad223 := (by injection e223)
                   replace hx223_0 := (HB.out.cell (World.block_lt_of_cell? w _ hx223_0)).trans hx223_0
                   replace hx223_1 := (HB.out.cell (World.block_lt_of_cell? w _ hx223_1)).trans hx223_1
                   have HR223_0 := Aside0.mk hi223_0
                   have HC223_0 := Aside0.mk hl223_0
                   clear hi223_0 hl223_0
                   replace p223 := eq_true p223
                   replace q223 := eq_true q223
                   have p224 : 0 ≤ ((ji23) : Int) := of_decide_eq_true (by first | (with_reducible assumption) | assumption)
                   have q224 : (ji23) < (t217.length : Int) := of_decide_eq_true (by first | (with_reducible assumption) | assumption)
                   obtain ⟨ad224, e224, hx224_0⟩ := Kd.at_int (Kd.R_reads' HO_7.out).2.2 (ji23) p224 q224
                   obtain rfl : ad220 = ad224 := (by injection e224)
                   replace p224 := eq_true p224
                   replace q224 := eq_true q224
                   have p225 : 0 ≤ (x9_2 : Int) := of_decide_eq_true (by first | (with_reducible assumption) | assumption)
                   have q225 : x9_2 < (l0.length : Int) := of_decide_eq_true (by first | (with_reducible assumption) | assumption)
                   obtain ⟨ad225, A225_0, c225_0, e225, hx225_0, hx225_1, hl225_0, hi225_0⟩ := at_T55 HR0.out x9_2 p225 q225
                   have hw225_1 := hx225_1
                   have hw225_0 := hx225_0
                   obtain rfl : ad221 = ad225 := (by injection e225)
                   replace hx225_0 := (HB.out.cell (World.block_lt_of_cell? w _ hx225_0)).trans hx225_0
                   replace hx225_1 := (HB.out.cell (World.block_lt_of_cell? w _ hx225_1)).trans hx225_1
                   have HR225_0 := Aside0.mk hi225_0
                   have HC225_0 := Aside0.mk hl225_0
                   clear hi225_0 hl225_0
                   replace p225 := eq_true p225
                   replace q225 := eq_true q225
                   have ea_ := Option.some.inj (hx223_0.symm.trans hx225_0)
                   injection ea_ with ea_ en_ ec_
                   subst ea_
                   subst ec_
                   clear en_
                   have p226 : 0 ≤ ((ji23) : Int) := of_decide_eq_true (by first | (with_reducible assumption) | assumption)
                   have q226 : (ji23) < (t217.length : Int) := of_decide_eq_true (by first | (with_reducible assumption) | assumption)
                   obtain ⟨ad226, e226, hx226_0⟩ := Kd.at_int (Kd.R_reads' HO_7.out).2.2 (ji23) p226 q226
                   obtain rfl : ad220 = ad226 := (by injection e226)
                   replace p226 := eq_true p226
                   replace q226 := eq_true q226
                   have p227 : 0 ≤ (x9_2 : Int) := of_decide_eq_true (by first | (with_reducible assumption) | assumption)
                   have q227 : x9_2 < (l0.length : Int) := of_decide_eq_true (by first | (with_reducible assumption) | assumption)
                   obtain ⟨ad227, A227_0, c227_0, e227, hx227_0, hx227_1, hl227_0, hi227_0⟩ := at_T55 HR0.out x9_2 p227 q227
                   have hw227_1 := hx227_1
                   have hw227_0 := hx227_0
                   obtain rfl : ad221 = ad227 := (by injection e227)
                   replace hx227_0 := (HB.out.cell (World.block_lt_of_cell? w _ hx227_0)).trans hx227_0
                   replace hx227_1 := (HB.out.cell (World.block_lt_of_cell? w _ hx227_1)).trans hx227_1
                   have HR227_0 := Aside0.mk hi227_0
                   have HC227_0 := Aside0.mk hl227_0
                   clear hi227_0 hl227_0
                   replace p227 := eq_true p227
                   replace q227 := eq_true q227
                   have ea_ := Option.some.inj (hx223_0.symm.trans hx227_0)
                   injection ea_ with ea_ en_ ec_
                   subst ea_
                   subst ec_
                   clear en_
                   have p228 : 0 ≤ (x8_1 : Int) := of_decide_eq_true (by first | (with_reducible assumption) | assumption)
                   have q228 : x8_1 < (t217.length : Int) := of_decide_eq_true (by first | (with_reducible assumption) | assumption)
                   obtain ⟨ad228, e228, hx228_0⟩ := Kd.at_int (Kd.R_reads' HO_7.out).2.2 x8_1 p228 q228
                   obtain rfl : ad220 = ad228 := (by injection e228)
                   replace p228 := eq_true p228
                   replace q228 := eq_true q228
                   refine start_ (n := 46) (S := fun w' => w'.cell? (ad221.add ((x9_2).toNat * 2)) = some (.slice A221_0 ((rd_T55 l0 x9_2).f0).length c221_0) ∧ w'.cell? ⟨(ad221.add ((x9_2).toNat * 2)).block, (ad221.add ((x9_2).toNat * 2)).off + 1, none⟩ = some (.int .i64 ((rd_T55 l0 x9_2).f1)) ∧ w'.cell? (ad221.add ((x9_2).toNat * 2)) = some (.slice A223_0 ((rd_T55 l0 x9_2).f0).length c223_0) ∧ w'.cell? ⟨(ad221.add ((x9_2).toNat * 2)).block, (ad221.add ((x9_2).toNat * 2)).off + 1, none⟩ = some (.int .i64 ((rd_T55 l0 x9_2).f1)) ∧ w'.cell? (ad220.add ((ji23)).toNat) = some (.int .i64 (rd t217 (ji23))) ∧ w'.cell? (ad221.add ((x9_2).toNat * 2)) = some (.slice A223_0 ((rd_T55 l0 x9_2).f0).length c223_0) ∧ w'.cell? ⟨(ad221.add ((x9_2).toNat * 2)).block, (ad221.add ((x9_2).toNat * 2)).off + 1, none⟩ = some (.int .i64 ((rd_T55 l0 x9_2).f1)) ∧ w'.cell? (ad220.add ((ji23)).toNat) = some (.int .i64 (rd t217 (ji23))) ∧ w'.cell? (ad221.add ((x9_2).toNat * 2)) = some (.slice A223_0 ((rd_T55 l0 x9_2).f0).length c223_0) ∧ w'.cell? ⟨(ad221.add ((x9_2).toNat * 2)).block, (ad221.add ((x9_2).toNat * 2)).off + 1, none⟩ = some (.int .i64 ((rd_T55 l0 x9_2).f1)) ∧ w'.cell? (ad220.add (x8_1).toNat) = some (.int .i64 (rd t217 x8_1))) (ds := []) (rowB 46 0) (by kernel_rfl) rfl rfl ⟨((HB.out.cell (World.block_lt_of_cell? w _ hw221_0)).trans hw221_0), ((HB.out.cell (World.block_lt_of_cell? w _ hw221_1)).trans hw221_1), ((HB.out.cell (World.block_lt_of_cell? w _ hw223_0)).trans hw223_0), ((HB.out.cell (World.block_lt_of_cell? w _ hw223_1)).trans hw223_1), hx224_0, ((HB.out.cell (World.block_lt_of_cell? w _ hw225_0)).trans hw225_0), ((HB.out.cell (World.block_lt_of_cell? w _ hw225_1)).trans hw225_1), hx226_0, ((HB.out.cell (World.block_lt_of_cell? w _ hw227_0)).trans hw227_0), ((HB.out.cell (World.block_lt_of_cell? w _ hw227_1)).trans hw227_1), hx228_0⟩ (fun hHeld => ?_); refine with_tabW spec_FormulasBest.tab10 spec_FormulasBest.bits10 (fun HT_ HW_ => ?_)
                   generalize wr.drew = w33 at HO_6 HO_7 HB HR221_0 HR223_0 HR225_0 HR227_0 hx221_0 hx221_1 hx223_0 hx223_1 hx224_0 hx225_0 hx225_1 hx226_0 hx227_0 hx227_1 hx228_0 hHeld ⊢
                   refine pure_ (i := 0) (N := some 28) (v := ?_) (a' := ?_) (rowB 46 1) rfl rfl (any_of HT_.out (by kernel_rfl)) (fun _ _ _ h => h) (Or.inl ⟨by rfl, ?_⟩) ?_ ?_
                   rotate_left
                   ·
                    intro w'
                    go_simp
                    with_reducible rfl
                   rotate_left
                   ·
                    simp only [Act.put, List.setIfInBounds_toArray, List.set_cons_zero, List.set_cons_succ, i64_w, i32_w]
                    rfl
                   refine pure_ (i := 1) (N := some 29) (v := ?_) (a' := ?_) (rowB 46 3) rfl rfl (any_of HT_.out (by kernel_rfl)) (fun _ _ _ h => h) (Or.inl ⟨by rfl, ?_⟩) ?_ ?_
                   rotate_left
                   ·
                    intro w'
                    go_simp
                    with_reducible rfl
                   rotate_left
                   ·
                    simp only [Act.put, List.setIfInBounds_toArray, List.set_cons_zero, List.set_cons_succ, i64_w, i32_w]
                    rfl
                   refine pure_ (i := 2) (N := some 30) (v := ?_) (a' := ?_) (rowB 46 7) rfl rfl (any_of HT_.out (by kernel_rfl)) (fun _ _ _ h => h) (Or.inl ⟨by rfl, ?_⟩) ?_ ?_
                   rotate_left
                   ·
                    intro w'
                    go_simp
                    with_reducible rfl
                   rotate_left
                   ·
                    simp only [Act.put, List.setIfInBounds_toArray, List.set_cons_zero, List.set_cons_succ, i64_w, i32_w]
                    rfl
                   refine pure_ (i := 4) (N := some 32) (v := ?_) (a' := ?_) (rowB 46 23) rfl rfl (any_of HT_.out (by kernel_rfl)) (fun _ _ _ h => h) (Or.inl ⟨by rfl, ?_⟩) ?_ ?_
                   rotate_left
                   ·
                    intro w'
                    go_simp
                    with_reducible rfl
                   rotate_left
                   ·
                    simp only [Act.put, List.setIfInBounds_toArray, List.set_cons_zero, List.set_cons_succ, i64_w, i32_w]
                    rfl
                   refine pure_ (i := 5) (N := some 33) (v := ?_) (a' := ?_) (rowB 46 55) rfl rfl (any_of HT_.out (by kernel_rfl)) (fun _ _ _ h => h) (Or.inl ⟨by rfl, ?_⟩) ?_ ?_
                   rotate_left
                   ·
                    intro w'
                    go_simp
                    with_reducible rfl
                   rotate_left
                   ·
                    simp only [Act.put, List.setIfInBounds_toArray, List.set_cons_zero, List.set_cons_succ, i64_w, i32_w]
                    rfl
                   refine take_ (i := 3) (N := some 31) (v := ?_) (a' := ?_) (rowB 46 63) rfl rfl (take_ofW HT_.out HW_.out (by kernel_rfl)) (fun _ _ _ h => h) (Or.inl ⟨by rfl, ?_⟩) hHeld ?_ ?_
                   rotate_left
                   ·
                    rintro w' ⟨s0, s1, s2, s3, s4, s5, s6, s7, s8, s9, s10⟩
                    go_simp
                    with_reducible rfl
                   rotate_left
                   ·
                    simp only [Act.put, List.setIfInBounds_toArray, List.set_cons_zero, List.set_cons_succ, i64_w, i32_w]
                    rfl
                   refine one_ (i := 6) (N := some 34) (rowB 46 127) rfl rfl (one_of HT_.out (by kernel_rfl)) (by decide) (fun K hK => ?_)
                   refine goes_ Try.func83 (by kernel_rfl) rfl #[.agg #[.slice A221_0 ((rd_T55 l0 x9_2).f0).length c221_0, .int .i64 ((rd_T55 l0 x9_2).f1)], .slice A1 l1.length c1, .int .i64 x8_1] (by rfl) rfl rfl (by (try simp only [List.map_toArray, List.map_cons, List.map_nil]); first | done | rfl | (simp only [List.length_drop, List.length_take]; rfl)) ?_
                   with_reducible refine (spec_l6fAt.calls k2 _ _ ((rd_T55 l0 x9_2).f0) ((rd_T55 l0 x9_2).f1) _ _ l1 x8_1 true _ ?side1 ?side2 ?side3 ?side4 A21.out).mono ?_
                   (case side1 => repeat (first | exact (Kd.C_below HR221_0.out HB.out) | (with_reducible refine Kd.C_alloc ?_ _) | (with_reducible refine Kd.C_drewN ?_ _) | (with_reducible refine Kd.C_drew ?_)))
                   (case side2 => exact HC221_0.out)
                   (case side3 => repeat (first | exact (Kd.C_below HR1.out HB.out) | (with_reducible refine Kd.C_alloc ?_ _) | (with_reducible refine Kd.C_drewN ?_ _) | (with_reducible refine Kd.C_drew ?_)))
                   (case side4 => exact HC1.out)
                   rintro e w34 ⟨rfl, hb⟩
                   have HS4_ := (hb.cell (World.block_lt_of_cell? _ _ (hHeld.2.2.2.2.1))).trans (hHeld.2.2.2.2.1)
                   have HS7_ := (hb.cell (World.block_lt_of_cell? _ _ (hHeld.2.2.2.2.2.2.2.1))).trans (hHeld.2.2.2.2.2.2.2.1)
                   have HS10_ := (hb.cell (World.block_lt_of_cell? _ _ (hHeld.2.2.2.2.2.2.2.2.2.2))).trans (hHeld.2.2.2.2.2.2.2.2.2.2)
                   refine ⟨_, rfl, ?_⟩
                   have n0_ := Aside0.mk (Kd.R_below (by (with_reducible repeat (first | apply Kd.R_alloc | apply Kd.R_drewN | apply Kd.R_drew)); exact HO_6.out) hb)
                   have n1_ := Aside0.mk (Kd.R_below (by (with_reducible repeat (first | apply Kd.R_alloc | apply Kd.R_drewN | apply Kd.R_drew)); exact HO_7.out) hb)
                   have n2_ := Aside0.mk (below_step (by repeat (first | (with_reducible first | exact HB.out | apply below_alloc | apply pw_below_drewN | apply below_drew1) | exact HB.out)) hb)
                   clear HO_6
                   clear HO_7
                   clear HB
                   have HO_6 := n0_
                   have HO_7 := n1_
                   have HB := n2_
                   clear n0_ n1_ n2_
                   (try clear hb)
                   (try clear hb2)
                   (try clear hk)
                   (try clear hi)
                   refine hK.out _ _ ⟨((HB.out.cell (World.block_lt_of_cell? w _ hw221_0)).trans hw221_0), ((HB.out.cell (World.block_lt_of_cell? w _ hw221_1)).trans hw221_1), ((HB.out.cell (World.block_lt_of_cell? w _ hw223_0)).trans hw223_0), ((HB.out.cell (World.block_lt_of_cell? w _ hw223_1)).trans hw223_1), HS4_, ((HB.out.cell (World.block_lt_of_cell? w _ hw225_0)).trans hw225_0), ((HB.out.cell (World.block_lt_of_cell? w _ hw225_1)).trans hw225_1), HS7_, ((HB.out.cell (World.block_lt_of_cell? w _ hw227_0)).trans hw227_0), ((HB.out.cell (World.block_lt_of_cell? w _ hw227_1)).trans hw227_1), HS10_⟩ (fun hHeld => ?_)
                   clear hK K
                   refine norm_ (a' := ?_) ?_ ?_
                   rotate_left
                   ·
                    show Act.put _ (some 34) _ = _
                    simp only [Act.put, List.setIfInBounds_toArray, List.set_cons_zero, List.set_cons_succ, i64_w, i32_w]
                    rfl
                   refine pure_ (i := 7) (N := some 35) (v := ?_) (a' := ?_) (rowB 46 255) rfl rfl (any_of HT_.out (by kernel_rfl)) (fun _ _ _ h => h) (Or.inl ⟨by rfl, ?_⟩) ?_ ?_
                   rotate_left
                   ·
                    intro w'
                    go_simp
                    with_reducible rfl
                   rotate_left
                   ·
                    simp only [Act.put, List.setIfInBounds_toArray, List.set_cons_zero, List.set_cons_succ, i64_w, i32_w]
                    rfl
                   refine pure_ (i := 8) (N := some 36) (v := ?_) (a' := ?_) (rowB 46 511) rfl rfl (any_of HT_.out (by kernel_rfl)) (fun _ _ _ h => h) (Or.inl ⟨by rfl, ?_⟩) ?_ ?_
                   rotate_left
                   ·
                    intro w'
                    go_simp
                    with_reducible rfl
                   rotate_left
                   ·
                    simp only [Act.put, List.setIfInBounds_toArray, List.set_cons_zero, List.set_cons_succ, i64_w, i32_w]
                    rfl
                   refine pure_ (i := 9) (N := some 37) (v := ?_) (a' := ?_) (rowB 46 1023) rfl rfl (any_of HT_.out (by kernel_rfl)) (fun _ _ _ h => h) (Or.inl ⟨by rfl, ?_⟩) ?_ ?_
                   rotate_left
                   ·
                    intro w'
                    go_simp
                    with_reducible rfl
                   rotate_left
                   ·
                    simp only [Act.put, List.setIfInBounds_toArray, List.set_cons_zero, List.set_cons_succ, i64_w, i32_w]
                    rfl
                   refine pure_ (i := 10) (N := some 38) (v := ?_) (a' := ?_) (rowB 46 2047) rfl rfl (any_of HT_.out (by kernel_rfl)) (fun _ _ _ h => h) (Or.inl ⟨by rfl, ?_⟩) ?_ ?_
                   rotate_left
                   ·
                    intro w'
                    go_simp
                    with_reducible rfl
                   rotate_left
                   ·
                    simp only [Act.put, List.setIfInBounds_toArray, List.set_cons_zero, List.set_cons_succ, i64_w, i32_w]
                    rfl
                   refine pure_ (i := 11) (N := some 39) (v := ?_) (a' := ?_) (rowB 46 4095) rfl rfl (any_of HT_.out (by kernel_rfl)) (fun _ _ _ h => h) (Or.inl ⟨by rfl, ?_⟩) ?_ ?_
                   rotate_left
                   ·
                    intro w'
                    go_simp
                    with_reducible rfl
                   rotate_left
                   ·
                    simp only [Act.put, List.setIfInBounds_toArray, List.set_cons_zero, List.set_cons_succ, i64_w, i32_w]
                    rfl
                   refine pure_ (i := 12) (N := some 40) (v := ?_) (a' := ?_) (rowB 46 8191) rfl rfl (any_of HT_.out (by kernel_rfl)) (fun _ _ _ h => h) (Or.inl ⟨by rfl, ?_⟩) ?_ ?_
                   rotate_left
                   ·
                    intro w'
                    go_simp
                    with_reducible rfl
                   rotate_left
                   ·
                    simp only [Act.put, List.setIfInBounds_toArray, List.set_cons_zero, List.set_cons_succ, i64_w, i32_w]
                    rfl
                   refine pure_ (i := 13) (N := some 41) (v := ?_) (a' := ?_) (rowB 46 16383) rfl rfl (any_of HT_.out (by kernel_rfl)) (fun _ _ _ h => h) (Or.inl ⟨by rfl, ?_⟩) ?_ ?_
                   rotate_left
                   ·
                    intro w'
                    go_simp
                    with_reducible rfl
                   rotate_left
                   ·
                    simp only [Act.put, List.setIfInBounds_toArray, List.set_cons_zero, List.set_cons_succ, i64_w, i32_w]
                    rfl
                   refine pure_ (i := 14) (N := some 42) (v := ?_) (a' := ?_) (rowB 46 32767) rfl rfl (any_of HT_.out (by kernel_rfl)) (fun _ _ _ h => h) (Or.inl ⟨by rfl, ?_⟩) ?_ ?_
                   rotate_left
                   ·
                    intro w'
                    go_simp
                    with_reducible rfl
                   rotate_left
                   ·
                    simp only [Act.put, List.setIfInBounds_toArray, List.set_cons_zero, List.set_cons_succ, i64_w, i32_w]
                    rfl
                   refine take_ (i := 15) (N := some 43) (v := ?_) (a' := ?_) (rowB 46 65535) rfl rfl (take_ofW HT_.out HW_.out (by kernel_rfl)) (fun _ _ _ h => h) (Or.inl ⟨by rfl, ?_⟩) hHeld ?_ ?_
                   rotate_left
                   ·
                    rintro w' ⟨s0, s1, s2, s3, s4, s5, s6, s7, s8, s9, s10⟩
                    go_simp
                    with_reducible rfl
                   rotate_left
                   ·
                    simp only [Act.put, List.setIfInBounds_toArray, List.set_cons_zero, List.set_cons_succ, i64_w, i32_w]
                    rfl
                   refine pure_ (i := 16) (N := some 44) (v := ?_) (a' := ?_) (rowB 46 131071) rfl rfl (any_of HT_.out (by kernel_rfl)) (fun _ _ _ h => h) (Or.inl ⟨by rfl, ?_⟩) ?_ ?_
                   rotate_left
                   ·
                    intro w'
                    go_simp
                    with_reducible rfl
                   rotate_left
                   ·
                    simp only [Act.put, List.setIfInBounds_toArray, List.set_cons_zero, List.set_cons_succ, i64_w, i32_w]
                    rfl
                   refine pure_ (i := 17) (N := some 45) (v := ?_) (a' := ?_) (rowB 46 262143) rfl rfl (any_of HT_.out (by kernel_rfl)) (fun _ _ _ h => h) (Or.inl ⟨by rfl, ?_⟩) ?_ ?_
                   rotate_left
                   ·
                    intro w'
                    go_simp
                    with_reducible rfl
                   rotate_left
                   ·
                    simp only [Act.put, List.setIfInBounds_toArray, List.set_cons_zero, List.set_cons_succ, i64_w, i32_w]
                    rfl
                   refine pure_ (i := 18) (N := some 46) (v := ?_) (a' := ?_) (rowB 46 524287) rfl rfl (any_of HT_.out (by kernel_rfl)) (fun _ _ _ h => h) (Or.inl ⟨by rfl, ?_⟩) ?_ ?_
                   rotate_left
                   ·
                    intro w'
                    go_simp
                    with_reducible rfl
                   rotate_left
                   ·
                    simp only [Act.put, List.setIfInBounds_toArray, List.set_cons_zero, List.set_cons_succ, i64_w, i32_w]
                    rfl
                   refine take_ (i := 19) (N := some 47) (v := ?_) (a' := ?_) (rowB 46 1048575) rfl rfl (take_ofW HT_.out HW_.out (by kernel_rfl)) (fun _ _ _ h => h) (Or.inl ⟨by rfl, ?_⟩) hHeld ?_ ?_
                   rotate_left
                   ·
                    rintro w' ⟨s0, s1, s2, s3, s4, s5, s6, s7, s8, s9, s10⟩
                    go_simp
                    with_reducible rfl
                   rotate_left
                   ·
                    simp only [Act.put, List.setIfInBounds_toArray, List.set_cons_zero, List.set_cons_succ, i64_w, i32_w]
                    rfl
                   refine pure_ (i := 20) (N := some 48) (v := ?_) (a' := ?_) (rowB 46 2097151) rfl rfl (any_of HT_.out (by kernel_rfl)) (fun _ _ _ h => h) (Or.inl ⟨by rfl, ?_⟩) ?_ ?_
                   rotate_left
                   ·
                    intro w'
                    go_simp
                    with_reducible rfl
                   rotate_left
                   ·
                    simp only [Act.put, List.setIfInBounds_toArray, List.set_cons_zero, List.set_cons_succ, i64_w, i32_w]
                    rfl
                   refine pure_ (i := 21) (N := some 49) (v := ?_) (a' := ?_) (rowB 46 4194303) rfl rfl (any_of HT_.out (by kernel_rfl)) (fun _ _ _ h => h) (Or.inl ⟨by rfl, ?_⟩) ?_ ?_
                   rotate_left
                   ·
                    intro w'
                    go_simp
                    with_reducible rfl
                   rotate_left
                   ·
                    simp only [Act.put, List.setIfInBounds_toArray, List.set_cons_zero, List.set_cons_succ, i64_w, i32_w]
                    rfl
                   refine pure_ (i := 22) (N := some 50) (v := ?_) (a' := ?_) (rowB 46 8388607) rfl rfl (any_of HT_.out (by kernel_rfl)) (fun _ _ _ h => h) (Or.inl ⟨by rfl, ?_⟩) ?_ ?_
                   rotate_left
                   ·
                    intro w'
                    go_simp
                    with_reducible rfl
                   rotate_left
                   ·
                    simp only [Act.put, List.setIfInBounds_toArray, List.set_cons_zero, List.set_cons_succ, i64_w, i32_w]
                    rfl
                   refine pure_ (i := 23) (N := some 51) (v := ?_) (a' := ?_) (rowB 46 16777215) rfl rfl (any_of HT_.out (by kernel_rfl)) (fun _ _ _ h => h) (Or.inl ⟨by rfl, ?_⟩) ?_ ?_
                   rotate_left
                   ·
                    intro w'
                    go_simp
                    with_reducible rfl
                   rotate_left
                   ·
                    simp only [Act.put, List.setIfInBounds_toArray, List.set_cons_zero, List.set_cons_succ, i64_w, i32_w]
                    rfl
                   refine pure_ (i := 24) (N := some 52) (v := ?_) (a' := ?_) (rowB 46 33554431) rfl rfl (any_of HT_.out (by kernel_rfl)) (fun _ _ _ h => h) (Or.inl ⟨by rfl, ?_⟩) ?_ ?_
                   rotate_left
                   ·
                    intro w'
                    go_simp
                    with_reducible rfl
                   rotate_left
                   ·
                    simp only [Act.put, List.setIfInBounds_toArray, List.set_cons_zero, List.set_cons_succ, i64_w, i32_w]
                    rfl
                   refine pure_ (i := 25) (N := some 53) (v := ?_) (a' := ?_) (rowB 46 67108863) rfl rfl (any_of HT_.out (by kernel_rfl)) (fun _ _ _ h => h) (Or.inl ⟨by rfl, ?_⟩) ?_ ?_
                   rotate_left
                   ·
                    intro w'
                    go_simp
                    with_reducible rfl
                   rotate_left
                   ·
                    simp only [Act.put, List.setIfInBounds_toArray, List.set_cons_zero, List.set_cons_succ, i64_w, i32_w]
                    rfl
                   refine pure_ (i := 26) (N := some 54) (v := ?_) (a' := ?_) (rowB 46 134217727) rfl rfl (any_of HT_.out (by kernel_rfl)) (fun _ _ _ h => h) (Or.inl ⟨by rfl, ?_⟩) ?_ ?_
                   rotate_left
                   ·
                    intro w'
                    go_simp
                    with_reducible rfl
                   rotate_left
                   ·
                    simp only [Act.put, List.setIfInBounds_toArray, List.set_cons_zero, List.set_cons_succ, i64_w, i32_w]
                    rfl
                   refine pure_ (i := 27) (N := some 55) (v := ?_) (a' := ?_) (rowB 46 268435455) rfl rfl (any_of HT_.out (by kernel_rfl)) (fun _ _ _ h => h) (Or.inl ⟨by rfl, ?_⟩) ?_ ?_
                   rotate_left
                   ·
                    intro w'
                    go_simp
                    with_reducible rfl
                   rotate_left
                   ·
                    simp only [Act.put, List.setIfInBounds_toArray, List.set_cons_zero, List.set_cons_succ, i64_w, i32_w]
                    rfl
                   refine pure_ (i := 28) (N := some 56) (v := ?_) (a' := ?_) (rowB 46 536870911) rfl rfl (any_of HT_.out (by kernel_rfl)) (fun _ _ _ h => h) (Or.inl ⟨by rfl, ?_⟩) ?_ ?_
                   rotate_left
                   ·
                    intro w'
                    go_simp
                    with_reducible rfl
                   rotate_left
                   ·
                    simp only [Act.put, List.setIfInBounds_toArray, List.set_cons_zero, List.set_cons_succ, i64_w, i32_w]
                    rfl
                   refine pure_ (i := 34) (N := some 62) (v := ?_) (a' := ?_) (rowB 46 17716740095) rfl rfl (any_of HT_.out (by kernel_rfl)) (fun _ _ _ h => h) (Or.inl ⟨by rfl, ?_⟩) ?_ ?_
                   rotate_left
                   ·
                    intro w'
                    go_simp
                    with_reducible rfl
                   rotate_left
                   ·
                    simp only [Act.put, List.setIfInBounds_toArray, List.set_cons_zero, List.set_cons_succ, i64_w, i32_w]
                    rfl
                   refine pure_ (i := 35) (N := some 63) (v := ?_) (a' := ?_) (rowB 46 52076478463) rfl rfl (any_of HT_.out (by kernel_rfl)) (fun _ _ _ h => h) (Or.inl ⟨by rfl, ?_⟩) ?_ ?_
                   rotate_left
                   ·
                    intro w'
                    go_simp
                    with_reducible rfl
                   rotate_left
                   ·
                    simp only [Act.put, List.setIfInBounds_toArray, List.set_cons_zero, List.set_cons_succ, i64_w, i32_w]
                    rfl
                   refine pure_ (i := 36) (N := some 64) (v := ?_) (a' := ?_) (rowB 46 120795955199) rfl rfl (any_of HT_.out (by kernel_rfl)) (fun _ _ _ h => h) (Or.inl ⟨by rfl, ?_⟩) ?_ ?_
                   rotate_left
                   ·
                    intro w'
                    go_simp
                    with_reducible rfl
                   rotate_left
                   ·
                    simp only [Act.put, List.setIfInBounds_toArray, List.set_cons_zero, List.set_cons_succ, i64_w, i32_w]
                    rfl
                   refine pure_ (i := 37) (N := some 65) (v := ?_) (a' := ?_) (rowB 46 258234908671) rfl rfl (any_of HT_.out (by kernel_rfl)) (fun _ _ _ h => h) (Or.inl ⟨by rfl, ?_⟩) ?_ ?_
                   rotate_left
                   ·
                    intro w'
                    go_simp
                    with_reducible rfl
                   rotate_left
                   ·
                    simp only [Act.put, List.setIfInBounds_toArray, List.set_cons_zero, List.set_cons_succ, i64_w, i32_w]
                    rfl
                   refine pure_ (i := 40) (N := some 68) (v := ?_) (a' := ?_) (rowB 46 1357746536447) rfl rfl (any_of HT_.out (by kernel_rfl)) (fun _ _ _ h => h) (Or.inl ⟨by rfl, ?_⟩) ?_ ?_
                   rotate_left
                   ·
                    intro w'
                    go_simp
                    with_reducible rfl
                   rotate_left
                   ·
                    simp only [Act.put, List.setIfInBounds_toArray, List.set_cons_zero, List.set_cons_succ, i64_w, i32_w]
                    rfl
                   refine pure_ (i := 41) (N := some 69) (v := ?_) (a' := ?_) (rowB 46 3556769791999) rfl rfl (any_of HT_.out (by kernel_rfl)) (fun _ _ _ h => h) (Or.inl ⟨by rfl, ?_⟩) ?_ ?_
                   rotate_left
                   ·
                    intro w'
                    go_simp
                    with_reducible rfl
                   rotate_left
                   ·
                    simp only [Act.put, List.setIfInBounds_toArray, List.set_cons_zero, List.set_cons_succ, i64_w, i32_w]
                    rfl
                   refine pure_ (i := 42) (N := some 70) (v := ?_) (a' := ?_) (rowB 46 7954816303103) rfl rfl (any_of HT_.out (by kernel_rfl)) (fun _ _ _ h => h) (Or.inl ⟨by rfl, ?_⟩) ?_ ?_
                   rotate_left
                   ·
                    intro w'
                    go_simp
                    with_reducible rfl
                   rotate_left
                   ·
                    simp only [Act.put, List.setIfInBounds_toArray, List.set_cons_zero, List.set_cons_succ, i64_w, i32_w]
                    rfl
                   refine take_ (i := 29) (N := some 57) (v := ?_) (a' := ?_) (rowB 46 7955353174015) rfl rfl (take_ofW HT_.out HW_.out (by kernel_rfl)) (fun _ _ _ h => h) (Or.inl ⟨by rfl, ?_⟩) hHeld ?_ ?_
                   rotate_left
                   ·
                    rintro w' ⟨s0, s1, s2, s3, s4, s5, s6, s7, s8, s9, s10⟩
                    go_simp
                    with_reducible rfl
                   rotate_left
                   ·
                    simp only [Act.put, List.setIfInBounds_toArray, List.set_cons_zero, List.set_cons_succ, i64_w, i32_w]
                    rfl
                   refine pure_ (i := 30) (N := some 58) (v := ?_) (a' := ?_) (rowB 46 7956426915839) rfl rfl (any_of HT_.out (by kernel_rfl)) (fun _ _ _ h => h) (Or.inl ⟨by rfl, ?_⟩) ?_ ?_
                   rotate_left
                   ·
                    intro w'
                    go_simp
                    with_reducible rfl
                   rotate_left
                   ·
                    simp only [Act.put, List.setIfInBounds_toArray, List.set_cons_zero, List.set_cons_succ, i64_w, i32_w]
                    rfl
                   refine pure_ (i := 31) (N := some 59) (v := ?_) (a' := ?_) (rowB 46 7958574399487) rfl rfl (any_of HT_.out (by kernel_rfl)) (fun _ _ _ h => h) (Or.inl ⟨by rfl, ?_⟩) ?_ ?_
                   rotate_left
                   ·
                    intro w'
                    go_simp
                    with_reducible rfl
                   rotate_left
                   ·
                    simp only [Act.put, List.setIfInBounds_toArray, List.set_cons_zero, List.set_cons_succ, i64_w, i32_w]
                    rfl
                   refine pure_ (i := 32) (N := some 60) (v := ?_) (a' := ?_) (rowB 46 7962869366783) rfl rfl (any_of HT_.out (by kernel_rfl)) (fun _ _ _ h => h) (Or.inl ⟨by rfl, ?_⟩) ?_ ?_
                   rotate_left
                   ·
                    intro w'
                    go_simp
                    with_reducible rfl
                   rotate_left
                   ·
                    simp only [Act.put, List.setIfInBounds_toArray, List.set_cons_zero, List.set_cons_succ, i64_w, i32_w]
                    rfl
                   refine take_ (i := 33) (N := some 61) (v := ?_) (a' := ?_) (rowB 46 7971459301375) rfl rfl (take_ofW HT_.out HW_.out (by kernel_rfl)) (fun _ _ _ h => h) (Or.inl ⟨by rfl, ?_⟩) hHeld ?_ ?_
                   rotate_left
                   ·
                    rintro w' ⟨s0, s1, s2, s3, s4, s5, s6, s7, s8, s9, s10⟩
                    go_simp
                    with_reducible rfl
                   rotate_left
                   ·
                    simp only [Act.put, List.setIfInBounds_toArray, List.set_cons_zero, List.set_cons_succ, i64_w, i32_w]
                    rfl
                   refine take_ (i := 38) (N := some 66) (v := ?_) (a' := ?_) (rowB 46 8246337208319) rfl rfl (take_ofW HT_.out HW_.out (by kernel_rfl)) (fun _ _ _ h => h) (Or.inl ⟨by rfl, ?_⟩) hHeld ?_ ?_
                   rotate_left
                   ·
                    rintro w' ⟨s0, s1, s2, s3, s4, s5, s6, s7, s8, s9, s10⟩
                    go_simp
                    with_reducible rfl
                   rotate_left
                   ·
                    simp only [Act.put, List.setIfInBounds_toArray, List.set_cons_zero, List.set_cons_succ, i64_w, i32_w]
                    rfl
                   refine pure_ (i := 39) (N := some 67) (v := ?_) (a' := ?_) (rowB 46 8796093022207) rfl rfl (any_of HT_.out (by kernel_rfl)) (fun _ _ _ h => h) (Or.inl ⟨by rfl, ?_⟩) ?_ ?_
                   rotate_left
                   ·
                    intro w'
                    go_simp
                    with_reducible rfl
                   rotate_left
                   ·
                    simp only [Act.put, List.setIfInBounds_toArray, List.set_cons_zero, List.set_cons_succ, i64_w, i32_w]
                    rfl
                   refine take_ (i := 43) (N := some 71) (v := ?_) (a' := ?_) (rowB 46 17592186044415) rfl rfl (take_ofW HT_.out HW_.out (by kernel_rfl)) (fun _ _ _ h => h) (Or.inl ⟨by rfl, ?_⟩) hHeld ?_ ?_
                   rotate_left
                   ·
                    rintro w' ⟨s0, s1, s2, s3, s4, s5, s6, s7, s8, s9, s10⟩
                    go_simp
                    with_reducible rfl
                   rotate_left
                   ·
                    simp only [Act.put, List.setIfInBounds_toArray, List.set_cons_zero, List.set_cons_succ, i64_w, i32_w]
                    rfl
                   refine pure_ (i := 44) (N := some 72) (v := ?_) (a' := ?_) (rowB 46 35184372088831) rfl rfl (any_of HT_.out (by kernel_rfl)) (fun _ _ _ h => h) (Or.inl ⟨by rfl, ?_⟩) ?_ ?_
                   rotate_left
                   ·
                    intro w'
                    go_simp
                    with_reducible rfl
                   rotate_left
                   ·
                    simp only [Act.put, List.setIfInBounds_toArray, List.set_cons_zero, List.set_cons_succ, i64_w, i32_w]
                    rfl
                   refine pure_ (i := 45) (N := some 73) (v := ?_) (a' := ?_) (rowB 46 70368744177663) rfl rfl (any_of HT_.out (by kernel_rfl)) (fun _ _ _ h => h) (Or.inl ⟨by rfl, ?_⟩) ?_ ?_
                   rotate_left
                   ·
                    intro w'
                    go_simp
                    with_reducible rfl
                   rotate_left
                   ·
                    simp only [Act.put, List.setIfInBounds_toArray, List.set_cons_zero, List.set_cons_succ, i64_w, i32_w]
                    rfl
                   refine done_ (done_of HT_.out (by kernel_rfl)) ?_
                   try go_wp2_with (first | ((with_reducible refine gate_builtin (b := .append) (xs := #[.tmp 76, .tmp 78]) rfl ?_); (try (refine gate_guard (by rfl) ?_; dsimp only)); at_builtin; refine Kd.R_append (Kd.int .i64) (w0 := w) w.heap.size rfl (.tmp 76) (.tmp 78) 46 3 (.int .i64 0) 8 rfl Try.underlying46 info3 rfl (by decide) (by omega) u6 x6_1 x9_2 [.int .i64 x9_2] (fun k_ => some k_ ≠ (.slice (some ad220) t217.length co17 : Value).ownBlock) (fun _ => False) rfl rfl ?aP (fun _ hk => hk.elim) ?aF ?aO ?aB ?aS ?aL ?_; (case aP => exact rfl); (case aB => exact (by repeat (first | (with_reducible first | exact HB.out | apply below_alloc | apply pw_below_drewN | apply below_drew1) | exact HB.out))); (case aF => exact (fun k_ hk => Kd.fresh' (Kd.R_lt (by (with_reducible repeat (first | apply Kd.R_alloc | apply Kd.R_drewN | apply Kd.R_drew)); exact HO_7.out)) k_ hk)); (case aO => exact (by (with_reducible repeat (first | apply Kd.R_alloc | apply Kd.R_drewN | apply Kd.R_drew)); exact HO_6.out)); (case aS => exact (below_size (by repeat (first | (with_reducible first | exact HB.out | apply below_alloc | apply pw_below_drewN | apply below_drew1) | exact HB.out)))); (case aL => have := LMc32.out; omega); intro v230 w35 ho hb hg hat; rw [← Ny229.out] at ho; have n0_ := Aside0.mk (Kd.R_after (ok := (fun _ => True)) (by (with_reducible repeat (first | apply Kd.R_alloc | apply Kd.R_drewN | apply Kd.R_drew)); exact Kd.R_mono HO_7.out (fun _ hk => ⟨trivial, hk⟩)) hg hat); have n1_ := Aside0.mk (hb); have n2_ := Aside0.mk (ho); clear HO_7; clear HB; clear HO_6; have HO_7 := n0_; have HB := n1_; have HO231 := n2_; clear n0_ n1_ n2_; clear ho hb hg hat; have p232 : 0 ≤ (x9_2 : Int) := of_decide_eq_true (by first | (with_reducible assumption) | assumption); have q232 : x9_2 < (l0.length : Int) := of_decide_eq_true (by first | (with_reducible assumption) | assumption); obtain ⟨ad232, A232_0, c232_0, e232, hx232_0, hx232_1, hl232_0, hi232_0⟩ := at_T55 HR0.out x9_2 p232 q232; obtain rfl : ad221 = ad232 := (by injection e232); replace hx232_0 := (HB.out.cell (World.block_lt_of_cell? w _ hx232_0)).trans hx232_0; replace hx232_1 := (HB.out.cell (World.block_lt_of_cell? w _ hx232_1)).trans hx232_1; have HR232_0 := Aside0.mk hi232_0; have HC232_0 := Aside0.mk hl232_0; clear hi232_0 hl232_0; replace p232 := eq_true p232; replace q232 := eq_true q232))
                   go_roundg k2
                   case measure => have := HK1.out; have := HK2.out; omega
                   case rel => exact ⟨(y229), (ji23), (by first | rfl | (simp; done) | (simp only [← hji23] <;> (first | rfl | simp)) | (simp [*]; done)), H', ⟨by have := HK1.out; have := HK2.out; omega⟩, ⟨by (with_reducible repeat (first | apply Kd.R_alloc | apply Kd.R_drewN | apply Kd.R_drew)); exact HO231.out⟩, ⟨by (with_reducible repeat (first | apply Kd.R_alloc | apply Kd.R_drewN | apply Kd.R_drew)); exact Kd.R_mono HO_7.out (fun _ hk => hk.2)⟩, ⟨by repeat (first | (with_reducible first | exact HB.out | apply below_alloc | apply pw_below_drewN | apply below_drew1) | exact HB.out)⟩⟩
                  ·
                   rw [if_neg c32] at H
                   exact absurd H (by simp)
                 ·
                  rw [if_neg c31] at H
                  have c31b0 : ((wrap64 ((rd t217 (ji23)) + ((rd_T55 l0 x9_2).f1))) == (rd t217 x8_1)) = false := beq_eq_false_iff_ne.mpr c31
                  have c31b1 : ((wrap64 ((rd t217 (ji23)) + ((rd_T55 l0 x9_2).f1))) != (rd t217 x8_1)) = true := bne_iff_ne.mpr c31
                  have H' := Aside0.mk H
                  clear H
                  try go_wp2
                  have n0_ := Aside0.mk (Kd.R_drew HO_6.out)
                  have n1_ := Aside0.mk (Kd.R_drew HO_7.out)
                  have n2_ := Aside0.mk (below_drew1 HB.out)
                  clear HO_6
                  clear HO_7
                  clear HB
                  have HO_6 := n0_
                  have HO_7 := n1_
                  have HB := n2_
                  clear n0_ n1_ n2_
                  have p221 : 0 ≤ (x9_2 : Int) := of_decide_eq_true (by first | (with_reducible assumption) | assumption)
                  have q221 : x9_2 < (l0.length : Int) := of_decide_eq_true (by first | (with_reducible assumption) | assumption)
                  obtain ⟨ad221, A221_0, c221_0, e221, hx221_0, hx221_1, hl221_0, hi221_0⟩ := at_T55 HR0.out x9_2 p221 q221
                  have hw221_1 := hx221_1
                  have hw221_0 := hx221_0
                  cases e221
                  replace hx221_0 := (HB.out.cell (World.block_lt_of_cell? w _ hx221_0)).trans hx221_0
                  replace hx221_1 := (HB.out.cell (World.block_lt_of_cell? w _ hx221_1)).trans hx221_1
                  have HR221_0 := Aside0.mk hi221_0
                  have HC221_0 := Aside0.mk hl221_0
                  clear hi221_0 hl221_0
                  replace p221 := eq_true p221
                  replace q221 := eq_true q221
                  have p223 : 0 ≤ (x9_2 : Int) := of_decide_eq_true (by first | (with_reducible assumption) | assumption)
                  have q223 : x9_2 < (l0.length : Int) := of_decide_eq_true (by first | (with_reducible assumption) | assumption)
                  obtain ⟨ad223, A223_0, c223_0, e223, hx223_0, hx223_1, hl223_0, hi223_0⟩ := at_T55 HR0.out x9_2 p223 q223
                  have hw223_1 := hx223_1
                  have hw223_0 := hx223_0
                  obtain rfl : ad221 = ad223 := (by injection e223)
                  replace hx223_0 := (HB.out.cell (World.block_lt_of_cell? w _ hx223_0)).trans hx223_0
                  replace hx223_1 := (HB.out.cell (World.block_lt_of_cell? w _ hx223_1)).trans hx223_1
                  have HR223_0 := Aside0.mk hi223_0
                  have HC223_0 := Aside0.mk hl223_0
                  clear hi223_0 hl223_0
                  replace p223 := eq_true p223
                  replace q223 := eq_true q223
                  have p224 : 0 ≤ ((ji23) : Int) := of_decide_eq_true (by first | (with_reducible assumption) | assumption)
                  have q224 : (ji23) < (t217.length : Int) := of_decide_eq_true (by first | (with_reducible assumption) | assumption)
                  obtain ⟨ad224, e224, hx224_0⟩ := Kd.at_int (Kd.R_reads' HO_7.out).2.2 (ji23) p224 q224
                  obtain rfl : ad220 = ad224 := (by injection e224)
                  replace p224 := eq_true p224
                  replace q224 := eq_true q224
                  have p225 : 0 ≤ (x9_2 : Int) := of_decide_eq_true (by first | (with_reducible assumption) | assumption)
                  have q225 : x9_2 < (l0.length : Int) := of_decide_eq_true (by first | (with_reducible assumption) | assumption)
                  obtain ⟨ad225, A225_0, c225_0, e225, hx225_0, hx225_1, hl225_0, hi225_0⟩ := at_T55 HR0.out x9_2 p225 q225
                  have hw225_1 := hx225_1
                  have hw225_0 := hx225_0
                  obtain rfl : ad221 = ad225 := (by injection e225)
                  replace hx225_0 := (HB.out.cell (World.block_lt_of_cell? w _ hx225_0)).trans hx225_0
                  replace hx225_1 := (HB.out.cell (World.block_lt_of_cell? w _ hx225_1)).trans hx225_1
                  have HR225_0 := Aside0.mk hi225_0
                  have HC225_0 := Aside0.mk hl225_0
                  clear hi225_0 hl225_0
                  replace p225 := eq_true p225
                  replace q225 := eq_true q225
                  have ea_ := Option.some.inj (hx223_0.symm.trans hx225_0)
                  injection ea_ with ea_ en_ ec_
                  subst ea_
                  subst ec_
                  clear en_
                  have p226 : 0 ≤ ((ji23) : Int) := of_decide_eq_true (by first | (with_reducible assumption) | assumption)
                  have q226 : (ji23) < (t217.length : Int) := of_decide_eq_true (by first | (with_reducible assumption) | assumption)
                  obtain ⟨ad226, e226, hx226_0⟩ := Kd.at_int (Kd.R_reads' HO_7.out).2.2 (ji23) p226 q226
                  obtain rfl : ad220 = ad226 := (by injection e226)
                  replace p226 := eq_true p226
                  replace q226 := eq_true q226
                  have p227 : 0 ≤ (x9_2 : Int) := of_decide_eq_true (by first | (with_reducible assumption) | assumption)
                  have q227 : x9_2 < (l0.length : Int) := of_decide_eq_true (by first | (with_reducible assumption) | assumption)
                  obtain ⟨ad227, A227_0, c227_0, e227, hx227_0, hx227_1, hl227_0, hi227_0⟩ := at_T55 HR0.out x9_2 p227 q227
                  have hw227_1 := hx227_1
                  have hw227_0 := hx227_0
                  obtain rfl : ad221 = ad227 := (by injection e227)
                  replace hx227_0 := (HB.out.cell (World.block_lt_of_cell? w _ hx227_0)).trans hx227_0
                  replace hx227_1 := (HB.out.cell (World.block_lt_of_cell? w _ hx227_1)).trans hx227_1
                  have HR227_0 := Aside0.mk hi227_0
                  have HC227_0 := Aside0.mk hl227_0
                  clear hi227_0 hl227_0
                  replace p227 := eq_true p227
                  replace q227 := eq_true q227
                  have ea_ := Option.some.inj (hx223_0.symm.trans hx227_0)
                  injection ea_ with ea_ en_ ec_
                  subst ea_
                  subst ec_
                  clear en_
                  have p228 : 0 ≤ (x8_1 : Int) := of_decide_eq_true (by first | (with_reducible assumption) | assumption)
                  have q228 : x8_1 < (t217.length : Int) := of_decide_eq_true (by first | (with_reducible assumption) | assumption)
                  obtain ⟨ad228, e228, hx228_0⟩ := Kd.at_int (Kd.R_reads' HO_7.out).2.2 x8_1 p228 q228
                  obtain rfl : ad220 = ad228 := (by injection e228)
                  replace p228 := eq_true p228
                  replace q228 := eq_true q228
                  refine start_ (n := 46) (S := fun w' => w'.cell? (ad221.add ((x9_2).toNat * 2)) = some (.slice A221_0 ((rd_T55 l0 x9_2).f0).length c221_0) ∧ w'.cell? ⟨(ad221.add ((x9_2).toNat * 2)).block, (ad221.add ((x9_2).toNat * 2)).off + 1, none⟩ = some (.int .i64 ((rd_T55 l0 x9_2).f1)) ∧ w'.cell? (ad221.add ((x9_2).toNat * 2)) = some (.slice A223_0 ((rd_T55 l0 x9_2).f0).length c223_0) ∧ w'.cell? ⟨(ad221.add ((x9_2).toNat * 2)).block, (ad221.add ((x9_2).toNat * 2)).off + 1, none⟩ = some (.int .i64 ((rd_T55 l0 x9_2).f1)) ∧ w'.cell? (ad220.add ((ji23)).toNat) = some (.int .i64 (rd t217 (ji23))) ∧ w'.cell? (ad221.add ((x9_2).toNat * 2)) = some (.slice A223_0 ((rd_T55 l0 x9_2).f0).length c223_0) ∧ w'.cell? ⟨(ad221.add ((x9_2).toNat * 2)).block, (ad221.add ((x9_2).toNat * 2)).off + 1, none⟩ = some (.int .i64 ((rd_T55 l0 x9_2).f1)) ∧ w'.cell? (ad220.add ((ji23)).toNat) = some (.int .i64 (rd t217 (ji23))) ∧ w'.cell? (ad221.add ((x9_2).toNat * 2)) = some (.slice A223_0 ((rd_T55 l0 x9_2).f0).length c223_0) ∧ w'.cell? ⟨(ad221.add ((x9_2).toNat * 2)).block, (ad221.add ((x9_2).toNat * 2)).off + 1, none⟩ = some (.int .i64 ((rd_T55 l0 x9_2).f1)) ∧ w'.cell? (ad220.add (x8_1).toNat) = some (.int .i64 (rd t217 x8_1))) (ds := []) (rowB 46 0) (by kernel_rfl) rfl rfl ⟨((HB.out.cell (World.block_lt_of_cell? w _ hw221_0)).trans hw221_0), ((HB.out.cell (World.block_lt_of_cell? w _ hw221_1)).trans hw221_1), ((HB.out.cell (World.block_lt_of_cell? w _ hw223_0)).trans hw223_0), ((HB.out.cell (World.block_lt_of_cell? w _ hw223_1)).trans hw223_1), hx224_0, ((HB.out.cell (World.block_lt_of_cell? w _ hw225_0)).trans hw225_0), ((HB.out.cell (World.block_lt_of_cell? w _ hw225_1)).trans hw225_1), hx226_0, ((HB.out.cell (World.block_lt_of_cell? w _ hw227_0)).trans hw227_0), ((HB.out.cell (World.block_lt_of_cell? w _ hw227_1)).trans hw227_1), hx228_0⟩ (fun hHeld => ?_); refine with_tabW spec_FormulasBest.tab10 spec_FormulasBest.bits10 (fun HT_ HW_ => ?_)
                  generalize wr.drew = w36 at HO_6 HO_7 HB HR221_0 HR223_0 HR225_0 HR227_0 hx221_0 hx221_1 hx223_0 hx223_1 hx224_0 hx225_0 hx225_1 hx226_0 hx227_0 hx227_1 hx228_0 hHeld ⊢
                  refine pure_ (i := 0) (N := some 28) (v := ?_) (a' := ?_) (rowB 46 1) rfl rfl (any_of HT_.out (by kernel_rfl)) (fun _ _ _ h => h) (Or.inl ⟨by rfl, ?_⟩) ?_ ?_
                  rotate_left
                  ·
                   intro w'
                   go_simp
                   with_reducible rfl
                  rotate_left
                  ·
                   simp only [Act.put, List.setIfInBounds_toArray, List.set_cons_zero, List.set_cons_succ, i64_w, i32_w]
                   rfl
                  refine pure_ (i := 1) (N := some 29) (v := ?_) (a' := ?_) (rowB 46 3) rfl rfl (any_of HT_.out (by kernel_rfl)) (fun _ _ _ h => h) (Or.inl ⟨by rfl, ?_⟩) ?_ ?_
                  rotate_left
                  ·
                   intro w'
                   go_simp
                   with_reducible rfl
                  rotate_left
                  ·
                   simp only [Act.put, List.setIfInBounds_toArray, List.set_cons_zero, List.set_cons_succ, i64_w, i32_w]
                   rfl
                  refine pure_ (i := 2) (N := some 30) (v := ?_) (a' := ?_) (rowB 46 7) rfl rfl (any_of HT_.out (by kernel_rfl)) (fun _ _ _ h => h) (Or.inl ⟨by rfl, ?_⟩) ?_ ?_
                  rotate_left
                  ·
                   intro w'
                   go_simp
                   with_reducible rfl
                  rotate_left
                  ·
                   simp only [Act.put, List.setIfInBounds_toArray, List.set_cons_zero, List.set_cons_succ, i64_w, i32_w]
                   rfl
                  refine pure_ (i := 4) (N := some 32) (v := ?_) (a' := ?_) (rowB 46 23) rfl rfl (any_of HT_.out (by kernel_rfl)) (fun _ _ _ h => h) (Or.inl ⟨by rfl, ?_⟩) ?_ ?_
                  rotate_left
                  ·
                   intro w'
                   go_simp
                   with_reducible rfl
                  rotate_left
                  ·
                   simp only [Act.put, List.setIfInBounds_toArray, List.set_cons_zero, List.set_cons_succ, i64_w, i32_w]
                   rfl
                  refine pure_ (i := 5) (N := some 33) (v := ?_) (a' := ?_) (rowB 46 55) rfl rfl (any_of HT_.out (by kernel_rfl)) (fun _ _ _ h => h) (Or.inl ⟨by rfl, ?_⟩) ?_ ?_
                  rotate_left
                  ·
                   intro w'
                   go_simp
                   with_reducible rfl
                  rotate_left
                  ·
                   simp only [Act.put, List.setIfInBounds_toArray, List.set_cons_zero, List.set_cons_succ, i64_w, i32_w]
                   rfl
                  refine take_ (i := 3) (N := some 31) (v := ?_) (a' := ?_) (rowB 46 63) rfl rfl (take_ofW HT_.out HW_.out (by kernel_rfl)) (fun _ _ _ h => h) (Or.inl ⟨by rfl, ?_⟩) hHeld ?_ ?_
                  rotate_left
                  ·
                   rintro w' ⟨s0, s1, s2, s3, s4, s5, s6, s7, s8, s9, s10⟩
                   go_simp
                   with_reducible rfl
                  rotate_left
                  ·
                   simp only [Act.put, List.setIfInBounds_toArray, List.set_cons_zero, List.set_cons_succ, i64_w, i32_w]
                   rfl
                  refine one_ (i := 6) (N := some 34) (rowB 46 127) rfl rfl (one_of HT_.out (by kernel_rfl)) (by decide) (fun K hK => ?_)
                  refine goes_ Try.func83 (by kernel_rfl) rfl #[.agg #[.slice A221_0 ((rd_T55 l0 x9_2).f0).length c221_0, .int .i64 ((rd_T55 l0 x9_2).f1)], .slice A1 l1.length c1, .int .i64 x8_1] (by rfl) rfl rfl (by (try simp only [List.map_toArray, List.map_cons, List.map_nil]); first | done | rfl | (simp only [List.length_drop, List.length_take]; rfl)) ?_
                  with_reducible refine (spec_l6fAt.calls k2 _ _ ((rd_T55 l0 x9_2).f0) ((rd_T55 l0 x9_2).f1) _ _ l1 x8_1 true _ ?side1 ?side2 ?side3 ?side4 A21.out).mono ?_
                  (case side1 => repeat (first | exact (Kd.C_below HR221_0.out HB.out) | (with_reducible refine Kd.C_alloc ?_ _) | (with_reducible refine Kd.C_drewN ?_ _) | (with_reducible refine Kd.C_drew ?_)))
                  (case side2 => exact HC221_0.out)
                  (case side3 => repeat (first | exact (Kd.C_below HR1.out HB.out) | (with_reducible refine Kd.C_alloc ?_ _) | (with_reducible refine Kd.C_drewN ?_ _) | (with_reducible refine Kd.C_drew ?_)))
                  (case side4 => exact HC1.out)
                  rintro e w37 ⟨rfl, hb⟩
                  have HS4_ := (hb.cell (World.block_lt_of_cell? _ _ (hHeld.2.2.2.2.1))).trans (hHeld.2.2.2.2.1)
                  have HS7_ := (hb.cell (World.block_lt_of_cell? _ _ (hHeld.2.2.2.2.2.2.2.1))).trans (hHeld.2.2.2.2.2.2.2.1)
                  have HS10_ := (hb.cell (World.block_lt_of_cell? _ _ (hHeld.2.2.2.2.2.2.2.2.2.2))).trans (hHeld.2.2.2.2.2.2.2.2.2.2)
                  refine ⟨_, rfl, ?_⟩
                  have n0_ := Aside0.mk (Kd.R_below (by (with_reducible repeat (first | apply Kd.R_alloc | apply Kd.R_drewN | apply Kd.R_drew)); exact HO_6.out) hb)
                  have n1_ := Aside0.mk (Kd.R_below (by (with_reducible repeat (first | apply Kd.R_alloc | apply Kd.R_drewN | apply Kd.R_drew)); exact HO_7.out) hb)
                  have n2_ := Aside0.mk (below_step (by repeat (first | (with_reducible first | exact HB.out | apply below_alloc | apply pw_below_drewN | apply below_drew1) | exact HB.out)) hb)
                  clear HO_6
                  clear HO_7
                  clear HB
                  have HO_6 := n0_
                  have HO_7 := n1_
                  have HB := n2_
                  clear n0_ n1_ n2_
                  (try clear hb)
                  (try clear hb2)
                  (try clear hk)
                  (try clear hi)
                  refine hK.out _ _ ⟨((HB.out.cell (World.block_lt_of_cell? w _ hw221_0)).trans hw221_0), ((HB.out.cell (World.block_lt_of_cell? w _ hw221_1)).trans hw221_1), ((HB.out.cell (World.block_lt_of_cell? w _ hw223_0)).trans hw223_0), ((HB.out.cell (World.block_lt_of_cell? w _ hw223_1)).trans hw223_1), HS4_, ((HB.out.cell (World.block_lt_of_cell? w _ hw225_0)).trans hw225_0), ((HB.out.cell (World.block_lt_of_cell? w _ hw225_1)).trans hw225_1), HS7_, ((HB.out.cell (World.block_lt_of_cell? w _ hw227_0)).trans hw227_0), ((HB.out.cell (World.block_lt_of_cell? w _ hw227_1)).trans hw227_1), HS10_⟩ (fun hHeld => ?_)
                  clear hK K
                  refine norm_ (a' := ?_) ?_ ?_
                  rotate_left
                  ·
                   show Act.put _ (some 34) _ = _
                   simp only [Act.put, List.setIfInBounds_toArray, List.set_cons_zero, List.set_cons_succ, i64_w, i32_w]
                   rfl
                  refine pure_ (i := 7) (N := some 35) (v := ?_) (a' := ?_) (rowB 46 255) rfl rfl (any_of HT_.out (by kernel_rfl)) (fun _ _ _ h => h) (Or.inl ⟨by rfl, ?_⟩) ?_ ?_
                  rotate_left
                  ·
                   intro w'
                   go_simp
                   with_reducible rfl
                  rotate_left
                  ·
                   simp only [Act.put, List.setIfInBounds_toArray, List.set_cons_zero, List.set_cons_succ, i64_w, i32_w]
                   rfl
                  refine pure_ (i := 8) (N := some 36) (v := ?_) (a' := ?_) (rowB 46 511) rfl rfl (any_of HT_.out (by kernel_rfl)) (fun _ _ _ h => h) (Or.inl ⟨by rfl, ?_⟩) ?_ ?_
                  rotate_left
                  ·
                   intro w'
                   go_simp
                   with_reducible rfl
                  rotate_left
                  ·
                   simp only [Act.put, List.setIfInBounds_toArray, List.set_cons_zero, List.set_cons_succ, i64_w, i32_w]
                   rfl
                  refine pure_ (i := 9) (N := some 37) (v := ?_) (a' := ?_) (rowB 46 1023) rfl rfl (any_of HT_.out (by kernel_rfl)) (fun _ _ _ h => h) (Or.inl ⟨by rfl, ?_⟩) ?_ ?_
                  rotate_left
                  ·
                   intro w'
                   go_simp
                   with_reducible rfl
                  rotate_left
                  ·
                   simp only [Act.put, List.setIfInBounds_toArray, List.set_cons_zero, List.set_cons_succ, i64_w, i32_w]
                   rfl
                  refine pure_ (i := 10) (N := some 38) (v := ?_) (a' := ?_) (rowB 46 2047) rfl rfl (any_of HT_.out (by kernel_rfl)) (fun _ _ _ h => h) (Or.inl ⟨by rfl, ?_⟩) ?_ ?_
                  rotate_left
                  ·
                   intro w'
                   go_simp
                   with_reducible rfl
                  rotate_left
                  ·
                   simp only [Act.put, List.setIfInBounds_toArray, List.set_cons_zero, List.set_cons_succ, i64_w, i32_w]
                   rfl
                  refine pure_ (i := 11) (N := some 39) (v := ?_) (a' := ?_) (rowB 46 4095) rfl rfl (any_of HT_.out (by kernel_rfl)) (fun _ _ _ h => h) (Or.inl ⟨by rfl, ?_⟩) ?_ ?_
                  rotate_left
                  ·
                   intro w'
                   go_simp
                   with_reducible rfl
                  rotate_left
                  ·
                   simp only [Act.put, List.setIfInBounds_toArray, List.set_cons_zero, List.set_cons_succ, i64_w, i32_w]
                   rfl
                  refine pure_ (i := 12) (N := some 40) (v := ?_) (a' := ?_) (rowB 46 8191) rfl rfl (any_of HT_.out (by kernel_rfl)) (fun _ _ _ h => h) (Or.inl ⟨by rfl, ?_⟩) ?_ ?_
                  rotate_left
                  ·
                   intro w'
                   go_simp
                   with_reducible rfl
                  rotate_left
                  ·
                   simp only [Act.put, List.setIfInBounds_toArray, List.set_cons_zero, List.set_cons_succ, i64_w, i32_w]
                   rfl
                  refine pure_ (i := 13) (N := some 41) (v := ?_) (a' := ?_) (rowB 46 16383) rfl rfl (any_of HT_.out (by kernel_rfl)) (fun _ _ _ h => h) (Or.inl ⟨by rfl, ?_⟩) ?_ ?_
                  rotate_left
                  ·
                   intro w'
                   go_simp
                   with_reducible rfl
                  rotate_left
                  ·
                   simp only [Act.put, List.setIfInBounds_toArray, List.set_cons_zero, List.set_cons_succ, i64_w, i32_w]
                   rfl
                  refine pure_ (i := 14) (N := some 42) (v := ?_) (a' := ?_) (rowB 46 32767) rfl rfl (any_of HT_.out (by kernel_rfl)) (fun _ _ _ h => h) (Or.inl ⟨by rfl, ?_⟩) ?_ ?_
                  rotate_left
                  ·
                   intro w'
                   go_simp
                   with_reducible rfl
                  rotate_left
                  ·
                   simp only [Act.put, List.setIfInBounds_toArray, List.set_cons_zero, List.set_cons_succ, i64_w, i32_w]
                   rfl
                  refine take_ (i := 15) (N := some 43) (v := ?_) (a' := ?_) (rowB 46 65535) rfl rfl (take_ofW HT_.out HW_.out (by kernel_rfl)) (fun _ _ _ h => h) (Or.inl ⟨by rfl, ?_⟩) hHeld ?_ ?_
                  rotate_left
                  ·
                   rintro w' ⟨s0, s1, s2, s3, s4, s5, s6, s7, s8, s9, s10⟩
                   go_simp
                   with_reducible rfl
                  rotate_left
                  ·
                   simp only [Act.put, List.setIfInBounds_toArray, List.set_cons_zero, List.set_cons_succ, i64_w, i32_w]
                   rfl
                  refine pure_ (i := 16) (N := some 44) (v := ?_) (a' := ?_) (rowB 46 131071) rfl rfl (any_of HT_.out (by kernel_rfl)) (fun _ _ _ h => h) (Or.inl ⟨by rfl, ?_⟩) ?_ ?_
                  rotate_left
                  ·
                   intro w'
                   go_simp
                   with_reducible rfl
                  rotate_left
                  ·
                   simp only [Act.put, List.setIfInBounds_toArray, List.set_cons_zero, List.set_cons_succ, i64_w, i32_w]
                   rfl
                  refine pure_ (i := 17) (N := some 45) (v := ?_) (a' := ?_) (rowB 46 262143) rfl rfl (any_of HT_.out (by kernel_rfl)) (fun _ _ _ h => h) (Or.inl ⟨by rfl, ?_⟩) ?_ ?_
                  rotate_left
                  ·
                   intro w'
                   go_simp
                   with_reducible rfl
                  rotate_left
                  ·
                   simp only [Act.put, List.setIfInBounds_toArray, List.set_cons_zero, List.set_cons_succ, i64_w, i32_w]
                   rfl
                  refine pure_ (i := 18) (N := some 46) (v := ?_) (a' := ?_) (rowB 46 524287) rfl rfl (any_of HT_.out (by kernel_rfl)) (fun _ _ _ h => h) (Or.inl ⟨by rfl, ?_⟩) ?_ ?_
                  rotate_left
                  ·
                   intro w'
                   go_simp
                   with_reducible rfl
                  rotate_left
                  ·
                   simp only [Act.put, List.setIfInBounds_toArray, List.set_cons_zero, List.set_cons_succ, i64_w, i32_w]
                   rfl
                  refine take_ (i := 19) (N := some 47) (v := ?_) (a' := ?_) (rowB 46 1048575) rfl rfl (take_ofW HT_.out HW_.out (by kernel_rfl)) (fun _ _ _ h => h) (Or.inl ⟨by rfl, ?_⟩) hHeld ?_ ?_
                  rotate_left
                  ·
                   rintro w' ⟨s0, s1, s2, s3, s4, s5, s6, s7, s8, s9, s10⟩
                   go_simp
                   with_reducible rfl
                  rotate_left
                  ·
                   simp only [Act.put, List.setIfInBounds_toArray, List.set_cons_zero, List.set_cons_succ, i64_w, i32_w]
                   rfl
                  refine pure_ (i := 20) (N := some 48) (v := ?_) (a' := ?_) (rowB 46 2097151) rfl rfl (any_of HT_.out (by kernel_rfl)) (fun _ _ _ h => h) (Or.inl ⟨by rfl, ?_⟩) ?_ ?_
                  rotate_left
                  ·
                   intro w'
                   go_simp
                   with_reducible rfl
                  rotate_left
                  ·
                   simp only [Act.put, List.setIfInBounds_toArray, List.set_cons_zero, List.set_cons_succ, i64_w, i32_w]
                   rfl
                  refine pure_ (i := 21) (N := some 49) (v := ?_) (a' := ?_) (rowB 46 4194303) rfl rfl (any_of HT_.out (by kernel_rfl)) (fun _ _ _ h => h) (Or.inl ⟨by rfl, ?_⟩) ?_ ?_
                  rotate_left
                  ·
                   intro w'
                   go_simp
                   with_reducible rfl
                  rotate_left
                  ·
                   simp only [Act.put, List.setIfInBounds_toArray, List.set_cons_zero, List.set_cons_succ, i64_w, i32_w]
                   rfl
                  refine pure_ (i := 22) (N := some 50) (v := ?_) (a' := ?_) (rowB 46 8388607) rfl rfl (any_of HT_.out (by kernel_rfl)) (fun _ _ _ h => h) (Or.inl ⟨by rfl, ?_⟩) ?_ ?_
                  rotate_left
                  ·
                   intro w'
                   go_simp
                   with_reducible rfl
                  rotate_left
                  ·
                   simp only [Act.put, List.setIfInBounds_toArray, List.set_cons_zero, List.set_cons_succ, i64_w, i32_w]
                   rfl
                  refine pure_ (i := 23) (N := some 51) (v := ?_) (a' := ?_) (rowB 46 16777215) rfl rfl (any_of HT_.out (by kernel_rfl)) (fun _ _ _ h => h) (Or.inl ⟨by rfl, ?_⟩) ?_ ?_
                  rotate_left
                  ·
                   intro w'
                   go_simp
                   with_reducible rfl
                  rotate_left
                  ·
                   simp only [Act.put, List.setIfInBounds_toArray, List.set_cons_zero, List.set_cons_succ, i64_w, i32_w]
                   rfl
                  refine pure_ (i := 24) (N := some 52) (v := ?_) (a' := ?_) (rowB 46 33554431) rfl rfl (any_of HT_.out (by kernel_rfl)) (fun _ _ _ h => h) (Or.inl ⟨by rfl, ?_⟩) ?_ ?_
                  rotate_left
                  ·
                   intro w'
                   go_simp
                   with_reducible rfl
                  rotate_left
                  ·
                   simp only [Act.put, List.setIfInBounds_toArray, List.set_cons_zero, List.set_cons_succ, i64_w, i32_w]
                   rfl
                  refine pure_ (i := 25) (N := some 53) (v := ?_) (a' := ?_) (rowB 46 67108863) rfl rfl (any_of HT_.out (by kernel_rfl)) (fun _ _ _ h => h) (Or.inl ⟨by rfl, ?_⟩) ?_ ?_
                  rotate_left
                  ·
                   intro w'
                   go_simp
                   with_reducible rfl
                  rotate_left
                  ·
                   simp only [Act.put, List.setIfInBounds_toArray, List.set_cons_zero, List.set_cons_succ, i64_w, i32_w]
                   rfl
                  refine pure_ (i := 26) (N := some 54) (v := ?_) (a' := ?_) (rowB 46 134217727) rfl rfl (any_of HT_.out (by kernel_rfl)) (fun _ _ _ h => h) (Or.inl ⟨by rfl, ?_⟩) ?_ ?_
                  rotate_left
                  ·
                   intro w'
                   go_simp
                   with_reducible rfl
                  rotate_left
                  ·
                   simp only [Act.put, List.setIfInBounds_toArray, List.set_cons_zero, List.set_cons_succ, i64_w, i32_w]
                   rfl
                  refine pure_ (i := 27) (N := some 55) (v := ?_) (a' := ?_) (rowB 46 268435455) rfl rfl (any_of HT_.out (by kernel_rfl)) (fun _ _ _ h => h) (Or.inl ⟨by rfl, ?_⟩) ?_ ?_
                  rotate_left
                  ·
                   intro w'
                   go_simp
                   with_reducible rfl
                  rotate_left
                  ·
                   simp only [Act.put, List.setIfInBounds_toArray, List.set_cons_zero, List.set_cons_succ, i64_w, i32_w]
                   rfl
                  refine pure_ (i := 28) (N := some 56) (v := ?_) (a' := ?_) (rowB 46 536870911) rfl rfl (any_of HT_.out (by kernel_rfl)) (fun _ _ _ h => h) (Or.inl ⟨by rfl, ?_⟩) ?_ ?_
                  rotate_left
                  ·
                   intro w'
                   go_simp
                   with_reducible rfl
                  rotate_left
                  ·
                   simp only [Act.put, List.setIfInBounds_toArray, List.set_cons_zero, List.set_cons_succ, i64_w, i32_w]
                   rfl
                  refine pure_ (i := 34) (N := some 62) (v := ?_) (a' := ?_) (rowB 46 17716740095) rfl rfl (any_of HT_.out (by kernel_rfl)) (fun _ _ _ h => h) (Or.inl ⟨by rfl, ?_⟩) ?_ ?_
                  rotate_left
                  ·
                   intro w'
                   go_simp
                   with_reducible rfl
                  rotate_left
                  ·
                   simp only [Act.put, List.setIfInBounds_toArray, List.set_cons_zero, List.set_cons_succ, i64_w, i32_w]
                   rfl
                  refine pure_ (i := 35) (N := some 63) (v := ?_) (a' := ?_) (rowB 46 52076478463) rfl rfl (any_of HT_.out (by kernel_rfl)) (fun _ _ _ h => h) (Or.inl ⟨by rfl, ?_⟩) ?_ ?_
                  rotate_left
                  ·
                   intro w'
                   go_simp
                   with_reducible rfl
                  rotate_left
                  ·
                   simp only [Act.put, List.setIfInBounds_toArray, List.set_cons_zero, List.set_cons_succ, i64_w, i32_w]
                   rfl
                  refine pure_ (i := 36) (N := some 64) (v := ?_) (a' := ?_) (rowB 46 120795955199) rfl rfl (any_of HT_.out (by kernel_rfl)) (fun _ _ _ h => h) (Or.inl ⟨by rfl, ?_⟩) ?_ ?_
                  rotate_left
                  ·
                   intro w'
                   go_simp
                   with_reducible rfl
                  rotate_left
                  ·
                   simp only [Act.put, List.setIfInBounds_toArray, List.set_cons_zero, List.set_cons_succ, i64_w, i32_w]
                   rfl
                  refine pure_ (i := 37) (N := some 65) (v := ?_) (a' := ?_) (rowB 46 258234908671) rfl rfl (any_of HT_.out (by kernel_rfl)) (fun _ _ _ h => h) (Or.inl ⟨by rfl, ?_⟩) ?_ ?_
                  rotate_left
                  ·
                   intro w'
                   go_simp
                   with_reducible rfl
                  rotate_left
                  ·
                   simp only [Act.put, List.setIfInBounds_toArray, List.set_cons_zero, List.set_cons_succ, i64_w, i32_w]
                   rfl
                  refine pure_ (i := 40) (N := some 68) (v := ?_) (a' := ?_) (rowB 46 1357746536447) rfl rfl (any_of HT_.out (by kernel_rfl)) (fun _ _ _ h => h) (Or.inl ⟨by rfl, ?_⟩) ?_ ?_
                  rotate_left
                  ·
                   intro w'
                   go_simp
                   with_reducible rfl
                  rotate_left
                  ·
                   simp only [Act.put, List.setIfInBounds_toArray, List.set_cons_zero, List.set_cons_succ, i64_w, i32_w]
                   rfl
                  refine pure_ (i := 41) (N := some 69) (v := ?_) (a' := ?_) (rowB 46 3556769791999) rfl rfl (any_of HT_.out (by kernel_rfl)) (fun _ _ _ h => h) (Or.inl ⟨by rfl, ?_⟩) ?_ ?_
                  rotate_left
                  ·
                   intro w'
                   go_simp
                   with_reducible rfl
                  rotate_left
                  ·
                   simp only [Act.put, List.setIfInBounds_toArray, List.set_cons_zero, List.set_cons_succ, i64_w, i32_w]
                   rfl
                  refine pure_ (i := 42) (N := some 70) (v := ?_) (a' := ?_) (rowB 46 7954816303103) rfl rfl (any_of HT_.out (by kernel_rfl)) (fun _ _ _ h => h) (Or.inl ⟨by rfl, ?_⟩) ?_ ?_
                  rotate_left
                  ·
                   intro w'
                   go_simp
                   with_reducible rfl
                  rotate_left
                  ·
                   simp only [Act.put, List.setIfInBounds_toArray, List.set_cons_zero, List.set_cons_succ, i64_w, i32_w]
                   rfl
                  refine take_ (i := 29) (N := some 57) (v := ?_) (a' := ?_) (rowB 46 7955353174015) rfl rfl (take_ofW HT_.out HW_.out (by kernel_rfl)) (fun _ _ _ h => h) (Or.inl ⟨by rfl, ?_⟩) hHeld ?_ ?_
                  rotate_left
                  ·
                   rintro w' ⟨s0, s1, s2, s3, s4, s5, s6, s7, s8, s9, s10⟩
                   go_simp
                   with_reducible rfl
                  rotate_left
                  ·
                   simp only [Act.put, List.setIfInBounds_toArray, List.set_cons_zero, List.set_cons_succ, i64_w, i32_w]
                   rfl
                  refine pure_ (i := 30) (N := some 58) (v := ?_) (a' := ?_) (rowB 46 7956426915839) rfl rfl (any_of HT_.out (by kernel_rfl)) (fun _ _ _ h => h) (Or.inl ⟨by rfl, ?_⟩) ?_ ?_
                  rotate_left
                  ·
                   intro w'
                   go_simp
                   with_reducible rfl
                  rotate_left
                  ·
                   simp only [Act.put, List.setIfInBounds_toArray, List.set_cons_zero, List.set_cons_succ, i64_w, i32_w]
                   rfl
                  refine pure_ (i := 31) (N := some 59) (v := ?_) (a' := ?_) (rowB 46 7958574399487) rfl rfl (any_of HT_.out (by kernel_rfl)) (fun _ _ _ h => h) (Or.inl ⟨by rfl, ?_⟩) ?_ ?_
                  rotate_left
                  ·
                   intro w'
                   go_simp
                   with_reducible rfl
                  rotate_left
                  ·
                   simp only [Act.put, List.setIfInBounds_toArray, List.set_cons_zero, List.set_cons_succ, i64_w, i32_w]
                   rfl
                  refine pure_ (i := 32) (N := some 60) (v := ?_) (a' := ?_) (rowB 46 7962869366783) rfl rfl (any_of HT_.out (by kernel_rfl)) (fun _ _ _ h => h) (Or.inl ⟨by rfl, ?_⟩) ?_ ?_
                  rotate_left
                  ·
                   intro w'
                   go_simp
                   with_reducible rfl
                  rotate_left
                  ·
                   simp only [Act.put, List.setIfInBounds_toArray, List.set_cons_zero, List.set_cons_succ, i64_w, i32_w]
                   rfl
                  refine take_ (i := 33) (N := some 61) (v := ?_) (a' := ?_) (rowB 46 7971459301375) rfl rfl (take_ofW HT_.out HW_.out (by kernel_rfl)) (fun _ _ _ h => h) (Or.inl ⟨by rfl, ?_⟩) hHeld ?_ ?_
                  rotate_left
                  ·
                   rintro w' ⟨s0, s1, s2, s3, s4, s5, s6, s7, s8, s9, s10⟩
                   go_simp
                   with_reducible rfl
                  rotate_left
                  ·
                   simp only [Act.put, List.setIfInBounds_toArray, List.set_cons_zero, List.set_cons_succ, i64_w, i32_w]
                   rfl
                  refine take_ (i := 38) (N := some 66) (v := ?_) (a' := ?_) (rowB 46 8246337208319) rfl rfl (take_ofW HT_.out HW_.out (by kernel_rfl)) (fun _ _ _ h => h) (Or.inl ⟨by rfl, ?_⟩) hHeld ?_ ?_
                  rotate_left
                  ·
                   rintro w' ⟨s0, s1, s2, s3, s4, s5, s6, s7, s8, s9, s10⟩
                   go_simp
                   with_reducible rfl
                  rotate_left
                  ·
                   simp only [Act.put, List.setIfInBounds_toArray, List.set_cons_zero, List.set_cons_succ, i64_w, i32_w]
                   rfl
                  refine pure_ (i := 39) (N := some 67) (v := ?_) (a' := ?_) (rowB 46 8796093022207) rfl rfl (any_of HT_.out (by kernel_rfl)) (fun _ _ _ h => h) (Or.inl ⟨by rfl, ?_⟩) ?_ ?_
                  rotate_left
                  ·
                   intro w'
                   go_simp
                   with_reducible rfl
                  rotate_left
                  ·
                   simp only [Act.put, List.setIfInBounds_toArray, List.set_cons_zero, List.set_cons_succ, i64_w, i32_w]
                   rfl
                  refine take_ (i := 43) (N := some 71) (v := ?_) (a' := ?_) (rowB 46 17592186044415) rfl rfl (take_ofW HT_.out HW_.out (by kernel_rfl)) (fun _ _ _ h => h) (Or.inl ⟨by rfl, ?_⟩) hHeld ?_ ?_
                  rotate_left
                  ·
                   rintro w' ⟨s0, s1, s2, s3, s4, s5, s6, s7, s8, s9, s10⟩
                   go_simp
                   with_reducible rfl
                  rotate_left
                  ·
                   simp only [Act.put, List.setIfInBounds_toArray, List.set_cons_zero, List.set_cons_succ, i64_w, i32_w]
                   rfl
                  refine pure_ (i := 44) (N := some 72) (v := ?_) (a' := ?_) (rowB 46 35184372088831) rfl rfl (any_of HT_.out (by kernel_rfl)) (fun _ _ _ h => h) (Or.inl ⟨by rfl, ?_⟩) ?_ ?_
                  rotate_left
                  ·
                   intro w'
                   go_simp
                   with_reducible rfl
                  rotate_left
                  ·
                   simp only [Act.put, List.setIfInBounds_toArray, List.set_cons_zero, List.set_cons_succ, i64_w, i32_w]
                   rfl
                  refine pure_ (i := 45) (N := some 73) (v := ?_) (a' := ?_) (rowB 46 70368744177663) rfl rfl (any_of HT_.out (by kernel_rfl)) (fun _ _ _ h => h) (Or.inl ⟨by rfl, ?_⟩) ?_ ?_
                  rotate_left
                  ·
                   intro w'
                   go_simp
                   with_reducible rfl
                  rotate_left
                  ·
                   simp only [Act.put, List.setIfInBounds_toArray, List.set_cons_zero, List.set_cons_succ, i64_w, i32_w]
                   rfl
                  refine done_ (done_of HT_.out (by kernel_rfl)) ?_
                  try go_wp2
                  go_roundg k2
                  case measure => have := HK1.out; have := HK2.out; omega
                  case rel => exact ⟨(wrap64 (x9_2 + 1)), (by first | rfl | (simp; done) | (simp [*]; done)), H', ⟨by have := HK1.out; have := HK2.out; omega⟩, ⟨by (with_reducible repeat (first | apply Kd.R_alloc | apply Kd.R_drewN | apply Kd.R_drew)); exact HO_6.out⟩, ⟨by (with_reducible repeat (first | apply Kd.R_alloc | apply Kd.R_drewN | apply Kd.R_drew)); exact HO_7.out⟩, ⟨by repeat (first | (with_reducible first | exact HB.out | apply below_alloc | apply pw_below_drewN | apply below_drew1) | exact HB.out)⟩⟩
                ·
                 rw [if_neg c30] at H
                 exact absurd H (by simp)
               ·
                rw [if_neg c29] at H
                exact absurd H (by simp)
             ·
              rw [if_neg c25] at H
              exact absurd H (by simp)
            ·
             rw [if_neg c24] at H
             exact absurd H (by simp)
           ·
            replace c22 := Bool.eq_false_iff.mpr c22
            subst c22
            have H1 : (spec_FormulasBest.l1 k2 l0 l1 x6_1 t217 x8_1 (wrap64 (x9_2 + 1))) = some (r1, r2) := by rw [if_neg (show ¬ (false = true) by decide)] at H; exact H
            clear H
            have H := H1
            clear H1
            have H' := Aside0.mk H
            clear H
            try go_wp2
            have n0_ := Aside0.mk (Kd.R_drew HO_6.out)
            have n1_ := Aside0.mk (Kd.R_drew HO_7.out)
            have n2_ := Aside0.mk (below_drew1 HB.out)
            clear HO_6
            clear HO_7
            clear HB
            have HO_6 := n0_
            have HO_7 := n1_
            have HB := n2_
            clear n0_ n1_ n2_
            have p221 : 0 ≤ (x9_2 : Int) := of_decide_eq_true (by first | (with_reducible assumption) | assumption)
            have q221 : x9_2 < (l0.length : Int) := of_decide_eq_true (by first | (with_reducible assumption) | assumption)
            obtain ⟨ad221, A221_0, c221_0, e221, hx221_0, hx221_1, hl221_0, hi221_0⟩ := at_T55 HR0.out x9_2 p221 q221
            have hw221_1 := hx221_1
            have hw221_0 := hx221_0
            cases e221
            replace hx221_0 := (HB.out.cell (World.block_lt_of_cell? w _ hx221_0)).trans hx221_0
            replace hx221_1 := (HB.out.cell (World.block_lt_of_cell? w _ hx221_1)).trans hx221_1
            have HR221_0 := Aside0.mk hi221_0
            have HC221_0 := Aside0.mk hl221_0
            clear hi221_0 hl221_0
            replace p221 := eq_true p221
            replace q221 := eq_true q221
            refine start_ (n := 46) (S := fun w' => w'.cell? (ad221.add ((x9_2).toNat * 2)) = some (.slice A221_0 ((rd_T55 l0 x9_2).f0).length c221_0) ∧ w'.cell? ⟨(ad221.add ((x9_2).toNat * 2)).block, (ad221.add ((x9_2).toNat * 2)).off + 1, none⟩ = some (.int .i64 ((rd_T55 l0 x9_2).f1))) (ds := []) (rowB 46 0) (by kernel_rfl) rfl rfl ⟨((HB.out.cell (World.block_lt_of_cell? w _ hw221_0)).trans hw221_0), ((HB.out.cell (World.block_lt_of_cell? w _ hw221_1)).trans hw221_1)⟩ (fun hHeld => ?_); refine with_tabW spec_FormulasBest.tab10 spec_FormulasBest.bits10 (fun HT_ HW_ => ?_)
            generalize wr.drew = w38 at HO_6 HO_7 HB HR221_0 hx221_0 hx221_1 hHeld ⊢
            refine pure_ (i := 0) (N := some 28) (v := ?_) (a' := ?_) (rowB 46 1) rfl rfl (any_of HT_.out (by kernel_rfl)) (fun _ _ _ h => h) (Or.inl ⟨by rfl, ?_⟩) ?_ ?_
            rotate_left
            ·
             intro w'
             go_simp
             with_reducible rfl
            rotate_left
            ·
             simp only [Act.put, List.setIfInBounds_toArray, List.set_cons_zero, List.set_cons_succ, i64_w, i32_w]
             rfl
            refine pure_ (i := 1) (N := some 29) (v := ?_) (a' := ?_) (rowB 46 3) rfl rfl (any_of HT_.out (by kernel_rfl)) (fun _ _ _ h => h) (Or.inl ⟨by rfl, ?_⟩) ?_ ?_
            rotate_left
            ·
             intro w'
             go_simp
             with_reducible rfl
            rotate_left
            ·
             simp only [Act.put, List.setIfInBounds_toArray, List.set_cons_zero, List.set_cons_succ, i64_w, i32_w]
             rfl
            refine pure_ (i := 2) (N := some 30) (v := ?_) (a' := ?_) (rowB 46 7) rfl rfl (any_of HT_.out (by kernel_rfl)) (fun _ _ _ h => h) (Or.inl ⟨by rfl, ?_⟩) ?_ ?_
            rotate_left
            ·
             intro w'
             go_simp
             with_reducible rfl
            rotate_left
            ·
             simp only [Act.put, List.setIfInBounds_toArray, List.set_cons_zero, List.set_cons_succ, i64_w, i32_w]
             rfl
            refine pure_ (i := 4) (N := some 32) (v := ?_) (a' := ?_) (rowB 46 23) rfl rfl (any_of HT_.out (by kernel_rfl)) (fun _ _ _ h => h) (Or.inl ⟨by rfl, ?_⟩) ?_ ?_
            rotate_left
            ·
             intro w'
             go_simp
             with_reducible rfl
            rotate_left
            ·
             simp only [Act.put, List.setIfInBounds_toArray, List.set_cons_zero, List.set_cons_succ, i64_w, i32_w]
             rfl
            refine pure_ (i := 5) (N := some 33) (v := ?_) (a' := ?_) (rowB 46 55) rfl rfl (any_of HT_.out (by kernel_rfl)) (fun _ _ _ h => h) (Or.inl ⟨by rfl, ?_⟩) ?_ ?_
            rotate_left
            ·
             intro w'
             go_simp
             with_reducible rfl
            rotate_left
            ·
             simp only [Act.put, List.setIfInBounds_toArray, List.set_cons_zero, List.set_cons_succ, i64_w, i32_w]
             rfl
            refine take_ (i := 3) (N := some 31) (v := ?_) (a' := ?_) (rowB 46 63) rfl rfl (take_ofW HT_.out HW_.out (by kernel_rfl)) (fun _ _ _ h => h) (Or.inl ⟨by rfl, ?_⟩) hHeld ?_ ?_
            rotate_left
            ·
             rintro w' ⟨s0, s1⟩
             go_simp
             with_reducible rfl
            rotate_left
            ·
             simp only [Act.put, List.setIfInBounds_toArray, List.set_cons_zero, List.set_cons_succ, i64_w, i32_w]
             rfl
            refine one_ (i := 6) (N := some 34) (rowB 46 127) rfl rfl (one_of HT_.out (by kernel_rfl)) (by decide) (fun K hK => ?_)
            refine goes_ Try.func83 (by kernel_rfl) rfl #[.agg #[.slice A221_0 ((rd_T55 l0 x9_2).f0).length c221_0, .int .i64 ((rd_T55 l0 x9_2).f1)], .slice A1 l1.length c1, .int .i64 x8_1] (by rfl) rfl rfl (by (try simp only [List.map_toArray, List.map_cons, List.map_nil]); first | done | rfl | (simp only [List.length_drop, List.length_take]; rfl)) ?_
            with_reducible refine (spec_l6fAt.calls k2 _ _ ((rd_T55 l0 x9_2).f0) ((rd_T55 l0 x9_2).f1) _ _ l1 x8_1 false _ ?side1 ?side2 ?side3 ?side4 A21.out).mono ?_
            (case side1 => repeat (first | exact (Kd.C_below HR221_0.out HB.out) | (with_reducible refine Kd.C_alloc ?_ _) | (with_reducible refine Kd.C_drewN ?_ _) | (with_reducible refine Kd.C_drew ?_)))
            (case side2 => exact HC221_0.out)
            (case side3 => repeat (first | exact (Kd.C_below HR1.out HB.out) | (with_reducible refine Kd.C_alloc ?_ _) | (with_reducible refine Kd.C_drewN ?_ _) | (with_reducible refine Kd.C_drew ?_)))
            (case side4 => exact HC1.out)
            rintro e w39 ⟨rfl, hb⟩
            refine ⟨_, rfl, ?_⟩
            have n0_ := Aside0.mk (Kd.R_below (by (with_reducible repeat (first | apply Kd.R_alloc | apply Kd.R_drewN | apply Kd.R_drew)); exact HO_6.out) hb)
            have n1_ := Aside0.mk (Kd.R_below (by (with_reducible repeat (first | apply Kd.R_alloc | apply Kd.R_drewN | apply Kd.R_drew)); exact HO_7.out) hb)
            have n2_ := Aside0.mk (below_step (by repeat (first | (with_reducible first | exact HB.out | apply below_alloc | apply pw_below_drewN | apply below_drew1) | exact HB.out)) hb)
            clear HO_6
            clear HO_7
            clear HB
            have HO_6 := n0_
            have HO_7 := n1_
            have HB := n2_
            clear n0_ n1_ n2_
            (try clear hb)
            (try clear hb2)
            (try clear hk)
            (try clear hi)
            refine hK.out _ _ ⟨((HB.out.cell (World.block_lt_of_cell? w _ hw221_0)).trans hw221_0), ((HB.out.cell (World.block_lt_of_cell? w _ hw221_1)).trans hw221_1)⟩ (fun hHeld => ?_)
            clear hK K
            refine norm_ (a' := ?_) ?_ ?_
            rotate_left
            ·
             show Act.put _ (some 34) _ = _
             simp only [Act.put, List.setIfInBounds_toArray, List.set_cons_zero, List.set_cons_succ, i64_w, i32_w]
             rfl
            refine pure_ (i := 7) (N := some 35) (v := ?_) (a' := ?_) (rowB 46 255) rfl rfl (any_of HT_.out (by kernel_rfl)) (fun _ _ _ h => h) (Or.inl ⟨by rfl, ?_⟩) ?_ ?_
            rotate_left
            ·
             intro w'
             go_simp
             with_reducible rfl
            rotate_left
            ·
             simp only [Act.put, List.setIfInBounds_toArray, List.set_cons_zero, List.set_cons_succ, i64_w, i32_w]
             rfl
            refine pure_ (i := 8) (N := some 36) (v := ?_) (a' := ?_) (rowB 46 511) rfl rfl (any_of HT_.out (by kernel_rfl)) (fun _ _ _ h => h) (Or.inl ⟨by rfl, ?_⟩) ?_ ?_
            rotate_left
            ·
             intro w'
             go_simp
             with_reducible rfl
            rotate_left
            ·
             simp only [Act.put, List.setIfInBounds_toArray, List.set_cons_zero, List.set_cons_succ, i64_w, i32_w]
             rfl
            refine pure_ (i := 9) (N := some 37) (v := undef) (a' := ?_) (rowB 46 1023) rfl rfl (any_of HT_.out (by kernel_rfl)) (fun _ _ _ h => h) (Or.inr ⟨by rfl, rfl⟩) ?_ ?_
            rotate_left
            ·
             simp only [Act.put, List.setIfInBounds_toArray, List.set_cons_zero, List.set_cons_succ, i64_w, i32_w]
             rfl
            refine pure_ (i := 10) (N := some 38) (v := undef) (a' := ?_) (rowB 46 2047) rfl rfl (any_of HT_.out (by kernel_rfl)) (fun _ _ _ h => h) (Or.inr ⟨by rfl, rfl⟩) ?_ ?_
            rotate_left
            ·
             simp only [Act.put, List.setIfInBounds_toArray, List.set_cons_zero, List.set_cons_succ, i64_w, i32_w]
             rfl
            refine pure_ (i := 11) (N := some 39) (v := undef) (a' := ?_) (rowB 46 4095) rfl rfl (any_of HT_.out (by kernel_rfl)) (fun _ _ _ h => h) (Or.inr ⟨by rfl, rfl⟩) ?_ ?_
            rotate_left
            ·
             simp only [Act.put, List.setIfInBounds_toArray, List.set_cons_zero, List.set_cons_succ, i64_w, i32_w]
             rfl
            refine pure_ (i := 12) (N := some 40) (v := undef) (a' := ?_) (rowB 46 8191) rfl rfl (any_of HT_.out (by kernel_rfl)) (fun _ _ _ h => h) (Or.inr ⟨by rfl, rfl⟩) ?_ ?_
            rotate_left
            ·
             simp only [Act.put, List.setIfInBounds_toArray, List.set_cons_zero, List.set_cons_succ, i64_w, i32_w]
             rfl
            refine pure_ (i := 13) (N := some 41) (v := undef) (a' := ?_) (rowB 46 16383) rfl rfl (any_of HT_.out (by kernel_rfl)) (fun _ _ _ h => h) (Or.inr ⟨by rfl, rfl⟩) ?_ ?_
            rotate_left
            ·
             simp only [Act.put, List.setIfInBounds_toArray, List.set_cons_zero, List.set_cons_succ, i64_w, i32_w]
             rfl
            refine pure_ (i := 14) (N := some 42) (v := undef) (a' := ?_) (rowB 46 32767) rfl rfl (any_of HT_.out (by kernel_rfl)) (fun _ _ _ h => h) (Or.inr ⟨by rfl, rfl⟩) ?_ ?_
            rotate_left
            ·
             simp only [Act.put, List.setIfInBounds_toArray, List.set_cons_zero, List.set_cons_succ, i64_w, i32_w]
             rfl
            refine pure_ (i := 15) (N := some 43) (v := undef) (a' := ?_) (rowB 46 65535) rfl rfl (any_of HT_.out (by kernel_rfl)) (fun _ _ _ h => h) (Or.inr ⟨by rfl, rfl⟩) ?_ ?_
            rotate_left
            ·
             simp only [Act.put, List.setIfInBounds_toArray, List.set_cons_zero, List.set_cons_succ, i64_w, i32_w]
             rfl
            refine pure_ (i := 16) (N := some 44) (v := undef) (a' := ?_) (rowB 46 131071) rfl rfl (any_of HT_.out (by kernel_rfl)) (fun _ _ _ h => h) (Or.inr ⟨by rfl, rfl⟩) ?_ ?_
            rotate_left
            ·
             simp only [Act.put, List.setIfInBounds_toArray, List.set_cons_zero, List.set_cons_succ, i64_w, i32_w]
             rfl
            refine pure_ (i := 17) (N := some 45) (v := undef) (a' := ?_) (rowB 46 262143) rfl rfl (any_of HT_.out (by kernel_rfl)) (fun _ _ _ h => h) (Or.inr ⟨by rfl, rfl⟩) ?_ ?_
            rotate_left
            ·
             simp only [Act.put, List.setIfInBounds_toArray, List.set_cons_zero, List.set_cons_succ, i64_w, i32_w]
             rfl
            refine pure_ (i := 18) (N := some 46) (v := undef) (a' := ?_) (rowB 46 524287) rfl rfl (any_of HT_.out (by kernel_rfl)) (fun _ _ _ h => h) (Or.inr ⟨by rfl, rfl⟩) ?_ ?_
            rotate_left
            ·
             simp only [Act.put, List.setIfInBounds_toArray, List.set_cons_zero, List.set_cons_succ, i64_w, i32_w]
             rfl
            refine pure_ (i := 19) (N := some 47) (v := undef) (a' := ?_) (rowB 46 1048575) rfl rfl (any_of HT_.out (by kernel_rfl)) (fun _ _ _ h => h) (Or.inr ⟨by rfl, rfl⟩) ?_ ?_
            rotate_left
            ·
             simp only [Act.put, List.setIfInBounds_toArray, List.set_cons_zero, List.set_cons_succ, i64_w, i32_w]
             rfl
            refine pure_ (i := 20) (N := some 48) (v := undef) (a' := ?_) (rowB 46 2097151) rfl rfl (any_of HT_.out (by kernel_rfl)) (fun _ _ _ h => h) (Or.inr ⟨by rfl, rfl⟩) ?_ ?_
            rotate_left
            ·
             simp only [Act.put, List.setIfInBounds_toArray, List.set_cons_zero, List.set_cons_succ, i64_w, i32_w]
             rfl
            refine pure_ (i := 21) (N := some 49) (v := ?_) (a' := ?_) (rowB 46 4194303) rfl rfl (any_of HT_.out (by kernel_rfl)) (fun _ _ _ h => h) (Or.inl ⟨by rfl, ?_⟩) ?_ ?_
            rotate_left
            ·
             intro w'
             go_simp
             with_reducible rfl
            rotate_left
            ·
             simp only [Act.put, List.setIfInBounds_toArray, List.set_cons_zero, List.set_cons_succ, i64_w, i32_w]
             rfl
            refine pure_ (i := 22) (N := some 50) (v := ?_) (a' := ?_) (rowB 46 8388607) rfl rfl (any_of HT_.out (by kernel_rfl)) (fun _ _ _ h => h) (Or.inl ⟨by rfl, ?_⟩) ?_ ?_
            rotate_left
            ·
             intro w'
             go_simp
             with_reducible rfl
            rotate_left
            ·
             simp only [Act.put, List.setIfInBounds_toArray, List.set_cons_zero, List.set_cons_succ, i64_w, i32_w]
             rfl
            refine pure_ (i := 23) (N := some 51) (v := undef) (a' := ?_) (rowB 46 16777215) rfl rfl (any_of HT_.out (by kernel_rfl)) (fun _ _ _ h => h) (Or.inr ⟨by rfl, rfl⟩) ?_ ?_
            rotate_left
            ·
             simp only [Act.put, List.setIfInBounds_toArray, List.set_cons_zero, List.set_cons_succ, i64_w, i32_w]
             rfl
            refine pure_ (i := 24) (N := some 52) (v := undef) (a' := ?_) (rowB 46 33554431) rfl rfl (any_of HT_.out (by kernel_rfl)) (fun _ _ _ h => h) (Or.inr ⟨by rfl, rfl⟩) ?_ ?_
            rotate_left
            ·
             simp only [Act.put, List.setIfInBounds_toArray, List.set_cons_zero, List.set_cons_succ, i64_w, i32_w]
             rfl
            refine pure_ (i := 25) (N := some 53) (v := undef) (a' := ?_) (rowB 46 67108863) rfl rfl (any_of HT_.out (by kernel_rfl)) (fun _ _ _ h => h) (Or.inr ⟨by rfl, rfl⟩) ?_ ?_
            rotate_left
            ·
             simp only [Act.put, List.setIfInBounds_toArray, List.set_cons_zero, List.set_cons_succ, i64_w, i32_w]
             rfl
            refine pure_ (i := 26) (N := some 54) (v := undef) (a' := ?_) (rowB 46 134217727) rfl rfl (any_of HT_.out (by kernel_rfl)) (fun _ _ _ h => h) (Or.inr ⟨by rfl, rfl⟩) ?_ ?_
            rotate_left
            ·
             simp only [Act.put, List.setIfInBounds_toArray, List.set_cons_zero, List.set_cons_succ, i64_w, i32_w]
             rfl
            refine pure_ (i := 27) (N := some 55) (v := undef) (a' := ?_) (rowB 46 268435455) rfl rfl (any_of HT_.out (by kernel_rfl)) (fun _ _ _ h => h) (Or.inr ⟨by rfl, rfl⟩) ?_ ?_
            rotate_left
            ·
             simp only [Act.put, List.setIfInBounds_toArray, List.set_cons_zero, List.set_cons_succ, i64_w, i32_w]
             rfl
            refine pure_ (i := 28) (N := some 56) (v := undef) (a' := ?_) (rowB 46 536870911) rfl rfl (any_of HT_.out (by kernel_rfl)) (fun _ _ _ h => h) (Or.inr ⟨by rfl, rfl⟩) ?_ ?_
            rotate_left
            ·
             simp only [Act.put, List.setIfInBounds_toArray, List.set_cons_zero, List.set_cons_succ, i64_w, i32_w]
             rfl
            refine pure_ (i := 29) (N := some 57) (v := undef) (a' := ?_) (rowB 46 1073741823) rfl rfl (any_of HT_.out (by kernel_rfl)) (fun _ _ _ h => h) (Or.inr ⟨by rfl, rfl⟩) ?_ ?_
            rotate_left
            ·
             simp only [Act.put, List.setIfInBounds_toArray, List.set_cons_zero, List.set_cons_succ, i64_w, i32_w]
             rfl
            refine pure_ (i := 30) (N := some 58) (v := undef) (a' := ?_) (rowB 46 2147483647) rfl rfl (any_of HT_.out (by kernel_rfl)) (fun _ _ _ h => h) (Or.inr ⟨by rfl, rfl⟩) ?_ ?_
            rotate_left
            ·
             simp only [Act.put, List.setIfInBounds_toArray, List.set_cons_zero, List.set_cons_succ, i64_w, i32_w]
             rfl
            refine pure_ (i := 31) (N := some 59) (v := undef) (a' := ?_) (rowB 46 4294967295) rfl rfl (any_of HT_.out (by kernel_rfl)) (fun _ _ _ h => h) (Or.inr ⟨by rfl, rfl⟩) ?_ ?_
            rotate_left
            ·
             simp only [Act.put, List.setIfInBounds_toArray, List.set_cons_zero, List.set_cons_succ, i64_w, i32_w]
             rfl
            refine pure_ (i := 32) (N := some 60) (v := undef) (a' := ?_) (rowB 46 8589934591) rfl rfl (any_of HT_.out (by kernel_rfl)) (fun _ _ _ h => h) (Or.inr ⟨by rfl, rfl⟩) ?_ ?_
            rotate_left
            ·
             simp only [Act.put, List.setIfInBounds_toArray, List.set_cons_zero, List.set_cons_succ, i64_w, i32_w]
             rfl
            refine pure_ (i := 33) (N := some 61) (v := undef) (a' := ?_) (rowB 46 17179869183) rfl rfl (any_of HT_.out (by kernel_rfl)) (fun _ _ _ h => h) (Or.inr ⟨by rfl, rfl⟩) ?_ ?_
            rotate_left
            ·
             simp only [Act.put, List.setIfInBounds_toArray, List.set_cons_zero, List.set_cons_succ, i64_w, i32_w]
             rfl
            refine pure_ (i := 34) (N := some 62) (v := undef) (a' := ?_) (rowB 46 34359738367) rfl rfl (any_of HT_.out (by kernel_rfl)) (fun _ _ _ h => h) (Or.inr ⟨by rfl, rfl⟩) ?_ ?_
            rotate_left
            ·
             simp only [Act.put, List.setIfInBounds_toArray, List.set_cons_zero, List.set_cons_succ, i64_w, i32_w]
             rfl
            refine pure_ (i := 35) (N := some 63) (v := undef) (a' := ?_) (rowB 46 68719476735) rfl rfl (any_of HT_.out (by kernel_rfl)) (fun _ _ _ h => h) (Or.inr ⟨by rfl, rfl⟩) ?_ ?_
            rotate_left
            ·
             simp only [Act.put, List.setIfInBounds_toArray, List.set_cons_zero, List.set_cons_succ, i64_w, i32_w]
             rfl
            refine pure_ (i := 36) (N := some 64) (v := undef) (a' := ?_) (rowB 46 137438953471) rfl rfl (any_of HT_.out (by kernel_rfl)) (fun _ _ _ h => h) (Or.inr ⟨by rfl, rfl⟩) ?_ ?_
            rotate_left
            ·
             simp only [Act.put, List.setIfInBounds_toArray, List.set_cons_zero, List.set_cons_succ, i64_w, i32_w]
             rfl
            refine pure_ (i := 37) (N := some 65) (v := undef) (a' := ?_) (rowB 46 274877906943) rfl rfl (any_of HT_.out (by kernel_rfl)) (fun _ _ _ h => h) (Or.inr ⟨by rfl, rfl⟩) ?_ ?_
            rotate_left
            ·
             simp only [Act.put, List.setIfInBounds_toArray, List.set_cons_zero, List.set_cons_succ, i64_w, i32_w]
             rfl
            refine pure_ (i := 38) (N := some 66) (v := undef) (a' := ?_) (rowB 46 549755813887) rfl rfl (any_of HT_.out (by kernel_rfl)) (fun _ _ _ h => h) (Or.inr ⟨by rfl, rfl⟩) ?_ ?_
            rotate_left
            ·
             simp only [Act.put, List.setIfInBounds_toArray, List.set_cons_zero, List.set_cons_succ, i64_w, i32_w]
             rfl
            refine pure_ (i := 39) (N := some 67) (v := undef) (a' := ?_) (rowB 46 1099511627775) rfl rfl (any_of HT_.out (by kernel_rfl)) (fun _ _ _ h => h) (Or.inr ⟨by rfl, rfl⟩) ?_ ?_
            rotate_left
            ·
             simp only [Act.put, List.setIfInBounds_toArray, List.set_cons_zero, List.set_cons_succ, i64_w, i32_w]
             rfl
            refine pure_ (i := 40) (N := some 68) (v := undef) (a' := ?_) (rowB 46 2199023255551) rfl rfl (any_of HT_.out (by kernel_rfl)) (fun _ _ _ h => h) (Or.inr ⟨by rfl, rfl⟩) ?_ ?_
            rotate_left
            ·
             simp only [Act.put, List.setIfInBounds_toArray, List.set_cons_zero, List.set_cons_succ, i64_w, i32_w]
             rfl
            refine pure_ (i := 41) (N := some 69) (v := undef) (a' := ?_) (rowB 46 4398046511103) rfl rfl (any_of HT_.out (by kernel_rfl)) (fun _ _ _ h => h) (Or.inr ⟨by rfl, rfl⟩) ?_ ?_
            rotate_left
            ·
             simp only [Act.put, List.setIfInBounds_toArray, List.set_cons_zero, List.set_cons_succ, i64_w, i32_w]
             rfl
            refine pure_ (i := 42) (N := some 70) (v := undef) (a' := ?_) (rowB 46 8796093022207) rfl rfl (any_of HT_.out (by kernel_rfl)) (fun _ _ _ h => h) (Or.inr ⟨by rfl, rfl⟩) ?_ ?_
            rotate_left
            ·
             simp only [Act.put, List.setIfInBounds_toArray, List.set_cons_zero, List.set_cons_succ, i64_w, i32_w]
             rfl
            refine pure_ (i := 43) (N := some 71) (v := undef) (a' := ?_) (rowB 46 17592186044415) rfl rfl (any_of HT_.out (by kernel_rfl)) (fun _ _ _ h => h) (Or.inr ⟨by rfl, rfl⟩) ?_ ?_
            rotate_left
            ·
             simp only [Act.put, List.setIfInBounds_toArray, List.set_cons_zero, List.set_cons_succ, i64_w, i32_w]
             rfl
            refine pure_ (i := 44) (N := some 72) (v := undef) (a' := ?_) (rowB 46 35184372088831) rfl rfl (any_of HT_.out (by kernel_rfl)) (fun _ _ _ h => h) (Or.inr ⟨by rfl, rfl⟩) ?_ ?_
            rotate_left
            ·
             simp only [Act.put, List.setIfInBounds_toArray, List.set_cons_zero, List.set_cons_succ, i64_w, i32_w]
             rfl
            refine pure_ (i := 45) (N := some 73) (v := ?_) (a' := ?_) (rowB 46 70368744177663) rfl rfl (any_of HT_.out (by kernel_rfl)) (fun _ _ _ h => h) (Or.inl ⟨by rfl, ?_⟩) ?_ ?_
            rotate_left
            ·
             intro w'
             go_simp
             with_reducible rfl
            rotate_left
            ·
             simp only [Act.put, List.setIfInBounds_toArray, List.set_cons_zero, List.set_cons_succ, i64_w, i32_w]
             rfl
            refine done_ (done_of HT_.out (by kernel_rfl)) ?_
            try go_wp2
            go_roundg k2
            case measure => have := HK1.out; have := HK2.out; omega
            case rel => exact ⟨(wrap64 (x9_2 + 1)), (by first | rfl | (simp; done) | (simp [*]; done)), H', ⟨by have := HK1.out; have := HK2.out; omega⟩, ⟨by (with_reducible repeat (first | apply Kd.R_alloc | apply Kd.R_drewN | apply Kd.R_drew)); exact HO_6.out⟩, ⟨by (with_reducible repeat (first | apply Kd.R_alloc | apply Kd.R_drewN | apply Kd.R_drew)); exact HO_7.out⟩, ⟨by repeat (first | (with_reducible first | exact HB.out | apply below_alloc | apply pw_below_drewN | apply below_drew1) | exact HB.out)⟩⟩
          ·
           rw [if_neg c20] at H
           exact absurd H (by simp)
         ·
          rw [if_neg c19] at H
          exact absurd H (by simp)
      ·
       rw [if_neg c18] at H
       have c18b0 : decide (x8_1 < (l1.length : Int)) = false := decide_eq_false c18
       clear c18
       simp only [Option.some.injEq, Prod.mk.injEq] at H
       obtain ⟨rfl, rfl⟩ := H
       go_wp2
       go_ret2
       exact ⟨_, by first | rfl | (simp [errW_none, errW_some] <;> rfl) | (simp [*, errW_none, errW_some] <;> rfl), by (with_reducible repeat (first | apply Kd.R_alloc | apply Kd.R_drewN | apply Kd.R_drew)); exact Kd.R_mono HO_6.out (fun _ hk => trivial), by repeat (first | (with_reducible first | exact HB.out | apply below_alloc | apply pw_below_drewN | apply below_drew1) | exact HB.out)⟩
  ·
   rw [if_neg c6] at H
   exact absurd H (by simp)
 ·
  replace c4 := Bool.eq_false_iff.mpr c4
  subst c4
  have H1 : (some (y213, false)) = some (r1, r2) := by rw [if_neg (show ¬ (false = true) by decide)] at H; exact H
  clear H
  have H := H1
  clear H1
  simp only [Option.some.injEq, Prod.mk.injEq] at H
  obtain ⟨rfl, rfl⟩ := H
  go_enter Try.func30, Try.ntmps30
  go_wp2_with (first | ((with_reducible refine gate_dst (N := 10) rfl ?_); (try (refine gate_guard (by rfl) ?_; dsimp only)); refine Kd.R_lit (Kd.int .i64) _ 3 ?hg (N := 10) ?hd (xs := ([] : List Int)) (inner := []) (ok := fun _ => True) (okp := fun _ => True) ?hr ?hp (fun _ hk => hk) trivial (Below.refl _ _) (Nat.le_refl _) (by simp) ?_; (case hd => rfl); (case hg => rfl); (case hr => first | (go_simp; done) | (go_simp; rfl)); (case hp => exact (Reps.none _ _)); intro v214 w40 ho41 hb hg_ hnew_; clear hg_ hnew_; (first | rw [← Ny213.out] at ho41 | (simp only [Int.reduceToNat] at ho41; rw [← Ny213.out] at ho41)); have n0_ := Aside0.mk (Kd.R_lower ho41 (below_size (by repeat (first | (with_reducible first | exact HB.out | apply below_alloc | apply pw_below_drewN | apply below_drew1) | exact HB.out)))); have n1_ := Aside0.mk (below_step (by repeat (first | (with_reducible first | exact HB.out | apply below_alloc | apply pw_below_drewN | apply below_drew1) | exact HB.out)) hb); clear HB; have HO215 := n0_; have HB := n1_; clear n0_ n1_; clear hb ho41) | ((with_reducible refine gate_callee (f := 81) rfl ?_); refine goesL_ (some 13) rfl rfl Try.func81 (by kernel_rfl) rfl #[.slice A0 l0.length c0, .slice A1 l1.length c1] rfl (by (try simp only [List.map_toArray, List.map_cons, List.map_nil]); first | done | rfl | (simp only [List.length_drop, List.length_take]; rfl)) ?_; (with_reducible refine (spec_l6fOk.calls k _ _ l0 _ _ l1 false _ ?side1 ?side2 ?side3 ?side4 A3.out).mono ?_); (case side1 => repeat (first | exact (Kd.C_below HR0.out HB.out) | (with_reducible refine Kd.C_alloc ?_ _) | (with_reducible refine Kd.C_drewN ?_ _) | (with_reducible refine Kd.C_drew ?_))); (case side2 => exact HC0.out); (case side3 => repeat (first | exact (Kd.C_below HR1.out HB.out) | (with_reducible refine Kd.C_alloc ?_ _) | (with_reducible refine Kd.C_drewN ?_ _) | (with_reducible refine Kd.C_drew ?_))); (case side4 => exact HC1.out); rintro e w42 ⟨rfl, hb⟩; refine ⟨_, rfl, ?_⟩; have n0_ := Aside0.mk (Kd.R_below (by (with_reducible repeat (first | apply Kd.R_alloc | apply Kd.R_drewN | apply Kd.R_drew)); exact HO215.out) hb); have n1_ := Aside0.mk (below_step (by repeat (first | (with_reducible first | exact HB.out | apply below_alloc | apply pw_below_drewN | apply below_drew1) | exact HB.out)) hb); clear HO215; clear HB; have HO215 := n0_; have HB := n1_; clear n0_ n1_; (try clear hb); (try clear hb2); (try clear hk); (try clear hi)))
  go_ret2
  exact ⟨_, by first | rfl | (simp [errW_none, errW_some] <;> rfl) | (simp [*, errW_none, errW_some] <;> rfl), by (with_reducible repeat (first | apply Kd.R_alloc | apply Kd.R_drewN | apply Kd.R_drew)); exact HO215.out, by repeat (first | (with_reducible first | exact HB.out | apply below_alloc | apply pw_below_drewN | apply below_drew1) | exact HB.out)⟩

theorem oW_nn {o : OutC} : 0 ≤ oW o → o.f0 ≠ 0 := by
 intro h hz
 unfold oW at h
 rw [if_pos hz] at h; omega
def selA (x : Int × Int) : Int := if x.1 < 0 then -1 else x.2
def BInv (L : List S55) (s : List Int) (x : Int × Int) : Prop := x.1 < 0 ∨ (0 ≤ x.2 ∧ 0 ≤ x.1 ∧ x.1 < (L.length : Int) ∧ isPre (rd_T55 L x.1).f0 s = true ∧ (rdO L (s.drop (rd_T55 L x.1).f0.length)).f0 ≠ 0 ∧ x.2 = (rd_T55 L x.1).f1 + oW (rdO L (s.drop (rd_T55 L x.1).f0.length)))
theorem bestF_lA {L : List S55} (hv : FsV L) {s : List Int} (hs : s.length ≤ 23) : ∀ (l : List S55) (q : Nat), l = L.drop q → ∀ (b a : Int), BInv L s (b, a) →
  BInv L s (bestF L (rdC (rdO L) s (q : Int) l) (b, a)) ∧ lA (fun f => f.f1) (fun t => oW (rdO L t)) s l (selA (b, a)) = selA (bestF L (rdC (rdO L) s (q : Int) l) (b, a))
 | [], q, _, b, a, h => ⟨h, rfl⟩
 | f :: fs, q, hq, b, a, h => by
  have hlt : q < L.length := by
   rcases Nat.lt_or_ge q L.length with h | h
   ·
    exact h
   ·
    rw [List.drop_eq_nil_of_le h] at hq; cases hq
  have hf : f = rd_T55 L (q : Int) ∧ fs = L.drop (q + 1) := by
   rw [List.drop_eq_getElem_cons hlt] at hq
   refine ⟨?_, (List.cons.inj hq).2⟩
   unfold rd_T55
   rw [Int.toNat_natCast, List.getD_eq_getElem?_getD, List.getElem?_eq_getElem hlt]
   exact (List.cons.inj hq).1
  have e2 : ((q : Int) + 1) = ((q + 1 : Nat) : Int) := by omega
  have hm : rd_T55 L (q : Int) ∈ L := rd_mem (by omega) (by omega)
  have h1 := hv.one _ hm
  have hw := hv.wt _ hm
  simp only [rdC, lA]
  rw [e2]
  by_cases hp : isPre f.f0 s = true
  ·
   have hl := isPre_len hp
   have hbd := rdO_bd hv (s.length - f.f0.length) (s.drop f.f0.length) (by rw [List.length_drop]) (by omega)
   rw [if_pos hp, if_pos hp]
   by_cases hz : (rdO L (s.drop f.f0.length)).f0 = 0
   ·
    have e1 : oW (rdO L (s.drop f.f0.length)) = -1 := if_pos hz
    rw [if_pos hz, if_pos (by rw [e1]; omega)]
    exact bestF_lA hv hs fs (q + 1) hf.2 b a h
   ·
    have e1 : oW (rdO L (s.drop f.f0.length)) = (rdO L (s.drop f.f0.length)).f1 := if_neg hz
    have w0 := hbd.w0 hz
    have w1 := hbd.w1 hz
    rw [if_neg hz, if_neg (by rw [e1]; omega)]
    simp only [bestF]
    rw [hf.1] at hp hz e1 w0 w1 hl ⊢
    have ew : wrap64 ((rd_T55 L (q : Int)).f1 + (rdO L (s.drop (rd_T55 L (q : Int)).f0.length)).f1) = (rd_T55 L (q : Int)).f1 + oW (rdO L (s.drop (rd_T55 L (q : Int)).f0.length)) := by rw [w64 (by omega) (by omega), e1]
    rw [ew]
    have ec : oW (rdO L (s.drop (rd_T55 L (q : Int)).f0.length)) + (rd_T55 L (q : Int)).f1 = (rd_T55 L (q : Int)).f1 + oW (rdO L (s.drop (rd_T55 L (q : Int)).f0.length)) := by omega
    rw [ec]
    generalize hV : (rd_T55 L (q : Int)).f1 + oW (rdO L (s.drop (rd_T55 L (q : Int)).f0.length)) = V
    have hV0 : 0 ≤ V := by omega
    have sq : selA ((q : Int), V) = V := if_neg (by show ¬ (q : Int) < 0; omega)
    have nxt := bestF_lA hv hs fs (q + 1) hf.2 (q : Int) V (.inr ⟨hV0, by show 0 ≤ (q : Int); omega, by show (q : Int) < _; omega, hp, hz, hV.symm⟩)
    rw [sq] at nxt
    by_cases hb : b < 0
    ·
     have sb : selA (b, a) = -1 := if_pos hb
     rw [sb, if_pos (show (-1 : Int) < 0 ∨ V < -1 from .inl (by omega)), if_pos (show b < 0 ∨ V < a from .inl hb)]
     exact nxt
    ·
     have ha : 0 ≤ a := by rcases h with h | h; exact absurd h hb; exact h.1
     have sb : selA (b, a) = a := if_neg hb
     rw [sb]
     by_cases hc : V < a
     ·
      rw [if_pos (show a < 0 ∨ V < a from .inr hc), if_pos (show b < 0 ∨ V < a from .inr hc)]
      exact nxt
     ·
      rw [if_neg (show ¬ (a < 0 ∨ V < a) by omega), if_neg (show ¬ (b < 0 ∨ V < a) by omega)]
      have := bestF_lA hv hs fs (q + 1) hf.2 b a h
      rw [sb] at this
      exact this
  ·
   rw [if_neg hp, if_neg hp]
   exact bestF_lA hv hs fs (q + 1) hf.2 b a h
theorem bestGo_len (L : List S55) : ∀ (n : Nat) (s : List Int), (bestGo L n s).length ≤ n
 | 0, s => Nat.le_refl _
 | n + 1, s => by
  simp only [bestGo]
  split
  ·
   simp
  ·
   rw [List.length_cons]
   have := bestGo_len L n (s.drop (rd_T55 L (bestF L (rdCalls L s) (-1, 0)).1).f0.length)
   omega

end Go.Proofs.Ytnemcppllfmioaa.Pure
namespace Go.Proofs.Ytnemcppllfmioaa.Pure
set_option linter.unusedVariables false
set_option linter.unusedSimpArgs false
open Go Go.RowKit Go.Proofs.Ytnemcppllfmioaa.PFnExactFormulasRead Go.Proofs.YtnemcppllfmioaaW.PrintWords Go.Proofs.YtnemcppllfmioaaW.PrintLast Go.Proofs.YtnemcppllfmioaaW.PrintMore

theorem rdC_ge {rec : List Int → OutC} {s : List Int} : ∀ (l : List S55) (q : Int) (x : Int × OutC), x ∈ rdC rec s q l → q ≤ x.1
 | [], _, _, h => by cases h
 | f :: fs, q, x, h => by
  simp only [rdC] at h
  have tl : x ∈ rdC rec s (q + 1) fs → q ≤ x.1 := fun h => by have := rdC_ge fs (q + 1) x h; omega
  split at h
  ·
   split at h
   ·
    exact tl h
   ·
    rcases List.mem_cons.1 h with rfl | h
    ·
     exact Int.le_refl _
    ·
     exact tl h
  ·
   exact tl h
theorem rdC_pw {rec : List Int → OutC} {s : List Int} : ∀ (l : List S55) (q : Int), (rdC rec s q l).Pairwise (fun x y => x.1 < y.1)
 | [], _ => List.Pairwise.nil
 | f :: fs, q => by
  simp only [rdC]
  split
  ·
   split
   ·
    exact rdC_pw fs (q + 1)
   ·
    exact List.Pairwise.cons (fun y hy => by have := rdC_ge fs (q + 1) y hy; show q < y.1; omega) (rdC_pw fs (q + 1))
  ·
   exact rdC_pw fs (q + 1)
theorem rdC_has {rec : List Int → OutC} {s : List Int} {L : List S55} (k : Nat) (hk : k < L.length) (hp : isPre (rd_T55 L (k : Int)).f0 s = true) (hz : (rec (s.drop (rd_T55 L (k : Int)).f0.length)).f0 ≠ 0) : ∀ (d q : Nat), q + d = k → ((k : Int), rec (s.drop (rd_T55 L (k : Int)).f0.length)) ∈ rdC rec s (q : Int) (L.drop q)
 | d, q, e => by
  have hq : q < L.length := by omega
  have e1 : L.drop q = rd_T55 L (q : Int) :: L.drop (q + 1) := by
   rw [List.drop_eq_getElem_cons hq]
   unfold rd_T55
   rw [Int.toNat_natCast, List.getD_eq_getElem?_getD, List.getElem?_eq_getElem hq]; rfl
  rw [e1]
  simp only [rdC]
  have e2 : ((q : Int) + 1) = ((q + 1 : Nat) : Int) := by omega
  rw [e2]
  match d, e with
  | 0, e =>
   obtain rfl : q = k := e
   rw [if_pos hp, if_neg hz]
   exact List.mem_cons_self
  | d + 1, e =>
   have := rdC_has k hk hp hz d (q + 1) (by omega)
   split
   ·
    split
    ·
     exact this
    ·
     exact List.mem_cons_of_mem _ this
   ·
    exact this
def valF (L : List S55) (x : Int × OutC) : Int := wrap64 ((rd_T55 L x.1).f1 + x.2.f1)
theorem bestF_first (L : List S55) : ∀ (h : List (Int × OutC)) (b a : Int), (∀ x ∈ h, 0 ≤ x.1) → h.Pairwise (fun x y => x.1 < y.1) → (0 ≤ b → ∀ x ∈ h, b < x.1) →
  (∀ x ∈ h, x.1 < (bestF L h (b, a)).1 → (bestF L h (b, a)).2 < valF L x) ∧ (0 ≤ b → (bestF L h (b, a)).2 ≤ a ∧ (b < (bestF L h (b, a)).1 → (bestF L h (b, a)).2 < a))
 | [], b, a, _, _, _ => ⟨fun x hx => (by cases hx), fun _ => ⟨Int.le_refl _, fun h => absurd h (Int.lt_irrefl _)⟩⟩
 | (i, o) :: r, b, a, h0, hp, hb => by
  obtain ⟨p1, p2⟩ := List.pairwise_cons.1 hp
  have hi : 0 ≤ i := h0 (i, o) List.mem_cons_self
  have hr := fun x hx => h0 x (List.mem_cons_of_mem _ hx)
  simp only [bestF]
  have hv : valF L (i, o) = wrap64 ((rd_T55 L i).f1 + o.f1) := rfl
  rw [← hv]
  by_cases hc : b < 0 ∨ valF L (i, o) < a
  ·
   rw [if_pos hc]
   obtain ⟨q1, q2⟩ := bestF_first L r i (valF L (i, o)) hr p2 (fun _ x hx => p1 x hx)
   obtain ⟨q3, q4⟩ := q2 hi
   refine ⟨fun x hx hlt => ?_, fun h => ⟨by omega, fun _ => by omega⟩⟩
   rcases List.mem_cons.1 hx with rfl | hx
   ·
    exact q4 hlt
   ·
    exact q1 x hx hlt
  ·
   rw [if_neg hc]
   have hb0 : 0 ≤ b := by omega
   have hbi := hb hb0
   obtain ⟨q1, q2⟩ := bestF_first L r b a hr p2 (fun _ x hx => hbi x (List.mem_cons_of_mem _ hx))
   obtain ⟨q3, q4⟩ := q2 hb0
   refine ⟨fun x hx hlt => ?_, fun _ => ⟨q3, q4⟩⟩
   rcases List.mem_cons.1 hx with rfl | hx
   ·
    have h1 := hbi (i, o) List.mem_cons_self
    have h1 : b < i := h1
    have hlt : i < _ := hlt
    have := q4 (by omega)
    omega
   ·
    exact q1 x hx hlt
theorem best_first {L : List S55} (hv : FsV L) {s : List Int} (hs : s.length ≤ 23) (hne : s ≠ []) (hm : (rdO L s).f0 ≠ 0) :
  ∃ b : Nat, (bestF L (rdCalls L s) (-1, 0)).1 = (b : Int) ∧ b < L.length ∧ isPre (rd_T55 L (b : Int)).f0 s = true ∧ 0 ≤ oW (rdO L (s.drop (rd_T55 L (b : Int)).f0.length)) ∧ oW (rdO L (s.drop (rd_T55 L (b : Int)).f0.length)) + (rd_T55 L (b : Int)).f1 = oW (rdO L s) ∧
   ∀ k : Nat, k < b → isPre (rd_T55 L (k : Int)).f0 s = true → 0 ≤ oW (rdO L (s.drop (rd_T55 L (k : Int)).f0.length)) → oW (rdO L s) < oW (rdO L (s.drop (rd_T55 L (k : Int)).f0.length)) + (rd_T55 L (k : Int)).f1 := by
 have hcl : rdCalls L s = rdC (rdO L) s ((0 : Nat) : Int) L := if_neg hne
 obtain ⟨h1, h2⟩ := bestF_lA hv hs L 0 rfl (-1) 0 (.inl (by show (-1 : Int) < 0; omega))
 have hf := bestF_first L (rdCalls L s) (-1) 0 (fun x hx => by rw [hcl] at hx; have := rdC_ge _ _ x hx; omega) (by rw [hcl]; exact rdC_pw _ _) (fun h => absurd h (by decide))
 rw [← hcl] at h1 h2
 have s0 : selA (-1, 0) = -1 := rfl
 rw [s0, ← (rdO_least hv hs hne).1] at h2
 have h0 : 0 ≤ oW (rdO L s) := by
  have := rdO_bd hv s.length s rfl hs
  unfold oW
  rw [if_neg hm]; exact this.w0 hm
 rcases h1 with h1 | ⟨a1, a2, a3, a4, a5, a6⟩
 ·
  have : selA (bestF L (rdCalls L s) (-1, 0)) = -1 := if_pos h1
  omega
 ·
  have hsel : selA (bestF L (rdCalls L s) (-1, 0)) = (bestF L (rdCalls L s) (-1, 0)).2 := if_neg (by omega)
  rw [hsel] at h2
  obtain ⟨b, hb⟩ := Int.eq_ofNat_of_zero_le a2
  rw [hb] at a3 a4 a5 a6
  have hlen := isPre_len a4
  have hmem : rd_T55 L (b : Int) ∈ L := rd_mem (by omega) (by omega)
  have hbd := rdO_bd hv (s.length - (rd_T55 L (b : Int)).f0.length) (s.drop (rd_T55 L (b : Int)).f0.length) (by rw [List.length_drop]) (by omega)
  refine ⟨b, hb, by omega, a4, by unfold oW; rw [if_neg a5]; exact hbd.w0 a5, by omega, fun k hk hp hg => ?_⟩
  have hzk := oW_nn hg
  have hkl := isPre_len hp
  have hmemk : rd_T55 L (k : Int) ∈ L := rd_mem (by omega) (by omega)
  have hwk := hv.wt _ hmemk
  have hbk := rdO_bd hv (s.length - (rd_T55 L (k : Int)).f0.length) (s.drop (rd_T55 L (k : Int)).f0.length) (by rw [List.length_drop]) (by omega)
  have hin := rdC_has (rec := rdO L) k (by omega) hp hzk k 0 (by omega)
  rw [List.drop_zero, ← hcl] at hin
  have hlt := hf.1 _ hin (by rw [hb]; show (k : Int) < _; omega)
  have e1 : oW (rdO L (s.drop (rd_T55 L (k : Int)).f0.length)) = (rdO L (s.drop (rd_T55 L (k : Int)).f0.length)).f1 := if_neg hzk
  have w0 := hbk.w0 hzk
  have w1 := hbk.w1 hzk
  have e2 : valF L ((k : Int), rdO L (s.drop (rd_T55 L (k : Int)).f0.length)) = (rd_T55 L (k : Int)).f1 + (rdO L (s.drop (rd_T55 L (k : Int)).f0.length)).f1 := by
   unfold valF
   exact w64 (by show _ ≤ (rd_T55 L (k : Int)).f1 + (rdO L _).f1; omega) (by show (rd_T55 L (k : Int)).f1 + (rdO L _).f1 ≤ _; omega)
  rw [e2] at hlt
  omega
theorem spec_FormulasBest_find {L : List S55} {S : List Int} (hv : FsV L) (hS : S.length ≤ 23) (out : List Int) (at_ : Nat) (hat : at_ < S.length) (b : Nat) (hb : b < L.length)
  (hbp : isPre (rd_T55 L (b : Int)).f0 (S.drop at_) = true) (hb0 : 0 ≤ oW (rdO L ((S.drop at_).drop (rd_T55 L (b : Int)).f0.length))) (hbe : oW (rdO L ((S.drop at_).drop (rd_T55 L (b : Int)).f0.length)) + (rd_T55 L (b : Int)).f1 = oW (rdO L (S.drop at_)))
  (hk : ∀ k : Nat, k < b → isPre (rd_T55 L (k : Int)).f0 (S.drop at_) = true → 0 ≤ oW (rdO L ((S.drop at_).drop (rd_T55 L (k : Int)).f0.length)) → oW (rdO L (S.drop at_)) < oW (rdO L ((S.drop at_).drop (rd_T55 L (k : Int)).f0.length)) + (rd_T55 L (k : Int)).f1)
  (hol : out.length ≤ 1000) {r : List Int × Bool} (nxt : Ev (fun k => spec_FormulasBest.l0 k L S (out ++ [(b : Int)]) (leastL L S false) ((at_ + (rd_T55 L (b : Int)).f0.length : Nat) : Int)) r) :
  ∀ (d q : Nat), q + d = b → Ev (fun k => spec_FormulasBest.l1 k L S out (leastL L S false) (at_ : Int) (q : Int)) r
 | d, q, e => by
  have hll := hv.len
  refine Ev.succ ?_
  simp only [spec_FormulasBest.l1]
  have hf := hv.one _ (rd_mem (l := L) (k := (q : Int)) (by omega) (by omega))
  have hw := hv.wt _ (rd_mem (l := L) (k := (q : Int)) (by omega) (by omega))
  rw [w64 (x := (q : Int) + 1) (by omega) (by omega), w64 (x := (at_ : Int) + ((rd_T55 L (q : Int)).f0.length : Int)) (by omega) (by omega)]
  refine Ev.pos (by omega) (Ev.pos (by omega) (Ev.bind (spec_l6fAt_ev _ S at_ (by omega) (by omega) (by omega)) ?_))
  have e3 : ((at_ : Int) + ((rd_T55 L (q : Int)).f0.length : Int)) = ((at_ + (rd_T55 L (q : Int)).f0.length : Nat) : Int) := by omega
  have rdl : ∀ j : Nat, j ≤ S.length → rd (leastL L S false) (j : Int) = oW (rdO L (S.drop j)) := by
   intro j hj
   unfold rd
   rw [Int.toNat_natCast, leastL_get hj]; rfl
  have e0 : rd (leastL L S false) (at_ : Int) = oW (rdO L (S.drop at_)) := rdl at_ (by omega)
  have step : q ≠ b → Ev (fun k => spec_FormulasBest.l1 k L S out (leastL L S false) (at_ : Int) ((q : Int) + 1)) r := by
   intro hne
   obtain ⟨d', rfl⟩ : ∃ d', d = d' + 1 := ⟨d - 1, by omega⟩
   have := spec_FormulasBest_find hv hS out at_ hat b hb hbp hb0 hbe hk hol nxt d' (q + 1) (by omega)
   have e4 : ((q + 1 : Nat) : Int) = (q : Int) + 1 := by omega
   rwa [e4] at this
  cases hp : isPre (rd_T55 L (q : Int)).f0 (S.drop at_)
  ·
   exact Ev.neg (by simp) (step (by rintro rfl; rw [hp] at hbp; cases hbp))
  ·
   have hlen := isPre_len hp
   rw [List.length_drop] at hlen
   have e5 : rd (leastL L S false) (((at_ + (rd_T55 L (q : Int)).f0.length : Nat) : Int)) = oW (rdO L ((S.drop at_).drop (rd_T55 L (q : Int)).f0.length)) := by
    rw [rdl _ (by omega), List.drop_drop]
   have hbd := (rdO_bd hv ((S.drop at_).length - (rd_T55 L (q : Int)).f0.length) ((S.drop at_).drop (rd_T55 L (q : Int)).f0.length) (by rw [List.length_drop]) (by rw [List.length_drop]; omega)).oW
   rw [List.length_drop] at hbd
   rw [e3, e5, e0]
   refine Ev.pos rfl (Ev.pos (by omega) (Ev.pos (by rw [leastL_len]; omega) ?_))
   by_cases hg : oW (rdO L ((S.drop at_).drop (rd_T55 L (q : Int)).f0.length)) < 0
   ·
    exact Ev.pos hg (step (by rintro rfl; omega))
   ·
    refine Ev.neg hg (Ev.pos (by omega) (Ev.pos (by rw [leastL_len]; omega) ?_))
    rw [w64 (by omega) (by omega)]
    rcases Nat.lt_or_ge q b with hlt | hge
    ·
     have := hk q hlt hp (by omega)
     exact Ev.neg (by omega) (step (by omega))
    ·
     obtain rfl : q = b := by omega
     exact Ev.pos hbe (Ev.pos (by omega) nxt)
theorem spec_FormulasBest_loop {L : List S55} {S : List Int} (hv : FsV L) (hS : S.length ≤ 23) : ∀ (n at_ : Nat) (out : List Int), at_ + n = S.length → (rdO L (S.drop at_)).f0 ≠ 0 → out.length ≤ at_ → ∀ m, n ≤ m → Ev (fun k => spec_FormulasBest.l0 k L S out (leastL L S false) (at_ : Int)) (out ++ bestGo L m (S.drop at_), true) := by
 intro n
 induction n using Nat.strongRecOn with
 | _ n IH =>
  intro at_ out e hm hol m hnm
  refine Ev.succ ?_
  simp only [spec_FormulasBest.l0]
  by_cases h0 : n = 0
  ·
   have hd : S.drop at_ = [] := List.drop_eq_nil_of_le (by omega)
   rw [hd]
   refine Ev.neg (by omega) (Ev.eqr (Ev.now _) ?_)
   cases m <;> simp [bestGo]
  ·
   have hne : S.drop at_ ≠ [] := fun h => by have := congrArg List.length h; rw [List.length_drop, List.length_nil] at this; omega
   obtain ⟨b, h1, h2, h3, h4, h5, h6⟩ := best_first hv (by rw [List.length_drop]; omega) hne hm
   have hf := hv.one _ (rd_mem (l := L) (k := (b : Int)) (by omega) (by omega))
   have hlen := isPre_len h3
   rw [List.length_drop] at hlen
   obtain ⟨m', rfl⟩ : ∃ m', m = m' + 1 := ⟨m - 1, by omega⟩
   refine Ev.pos (by omega) ?_
   have hz := oW_nn h4
   have nxt := IH (n - (rd_T55 L (b : Int)).f0.length) (by omega) (at_ + (rd_T55 L (b : Int)).f0.length) (out ++ [(b : Int)]) (by omega) (by rw [← List.drop_drop]; exact hz) (by rw [List.length_append, List.length_singleton]; omega) m' (by omega)
   have := spec_FormulasBest_find hv hS out at_ (by omega) b h2 h3 h4 h5 h6 (by omega) nxt b 0 (by omega)
   refine Ev.eqr this ?_
   simp only [bestGo]
   rw [if_neg hne, h1, List.append_assoc, List.singleton_append, List.drop_drop]
theorem spec_FormulasBest_ev (L : List S55) (S : List Int) (hll : L.length ≤ 1000000000000) (hl : ∀ x ∈ L, x.f0.length ≤ 1000000000000) (hS : S.length ≤ 1000000000000) : Ev (fun k => spec_FormulasBest.f k L S) (fBest L S) := by
 unfold spec_FormulasBest.f fBest
 refine Ev.someb (Ev.bind (spec_l6fOk_ev L S hll hl hS) ?_)
 cases hok : okR L S
 ·
  exact Ev.neg (by simp) (Ev.eqr (Ev.now _) (by simp))
 ·
  refine Ev.pos rfl ?_
  rw [if_pos rfl]
  have hv := FsV.of (okR_of hok).1
  have hS23 := (okR_of hok).2
  refine Ev.bind (spec_l6fLeast_ev hv hS23 false) (Ev.pos (by rw [leastL_len]; omega) ?_)
  have e0 : rd (leastL L S false) 0 = oW (rdO L S) := by
   show (leastL L S false).getD 0 0 = _
   rw [leastL_get (Nat.zero_le _), List.drop_zero]; rfl
  rw [e0]
  by_cases hz : (rdO L S).f0 = 0
  ·
   rw [if_pos hz]
   exact Ev.pos (by unfold oW; rw [if_pos hz]; decide) (Ev.now _)
  ·
   rw [if_neg hz]
   have hbd := rdO_bd hv S.length S rfl hS23
   have h0 : 0 ≤ oW (rdO L S) := by unfold oW; rw [if_neg hz]; exact hbd.w0 hz
   have := spec_FormulasBest_loop hv hS23 S.length 0 [] (by omega) (by rw [List.drop_zero]; exact hz) (by simp) S.length (Nat.le_refl _)
   rw [List.drop_zero, List.nil_append] at this
   exact Ev.neg (by omega) this

theorem fBest_len (L : List S55) (S : List Int) : (fBest L S).1.length ≤ 24 := by
 unfold fBest
 split
 ·
  rename_i h
  split
  ·
   exact Nat.zero_le _
  ·
   have := bestGo_len L S.length S
   have := (okR_of h).2
   show (bestGo L S.length S).length ≤ 24
   omega
 ·
  exact Nat.zero_le _

def spec_FormulasRead.f (k : Nat) (l0 : List (S55)) (l1 : List (S64)) : Option (List Int × Bool) := (spec_MelodyValid.f k l1).bind fun t247 => (if t247 = true then ((spec_MelodySteps.f k l1).bind fun t248 => ((spec_FormulasBest.f k l0 t248).bind fun bt251 => (some (bt251.1, bt251.2)))) else (some ((([] : List Int)), false)))
set_option maxHeartbeats 8000000 in
set_option maxRecDepth 100000 in
theorem spec_FormulasRead.calls (k : Nat) (A0 : Option Addr) (c0 : Nat) (l0 : List (S55)) (A1 : Option Addr) (c1 : Nat) (l1 : List (S64)) (r1 : List Int) (r2 : Bool) (w : World) (hr0 : Kd.C k55 w A0 l0.length l0) (hc0 : l0.length ≤ c0) (hr1 : Kd.C k64 w A1 l1.length l1) (hc1 : l1.length ≤ c1) (h : spec_FormulasRead.f k l0 l1 = some (r1, r2)) :
  Calls Try.prog 54 #[.slice A0 l0.length c0, .slice A1 l1.length c1] w fun e w' => ∃ v0_ : Value, e = .returned (.tuple #[v0_, .bool r2]) ∧ Kd.R (Kd.int .i64) 3 w' w.heap.size (fun _ => True) v0_ r1 ∧ Below w.heap.size w w' := by
 have HR0 := Aside0.mk hr0
 have HC0 := Aside0.mk hc0
 clear hr0 hc0
 have HR1 := Aside0.mk hr1
 have HC1 := Aside0.mk hc1
 clear hr1 hc1
 have HB := Aside0.mk (Below.refl w.heap.size w)
 have H : ((spec_MelodyValid.f k l1).bind fun t247 => (if t247 = true then ((spec_MelodySteps.f k l1).bind fun t248 => ((spec_FormulasBest.f k l0 t248).bind fun bt251 => (some (bt251.1, bt251.2)))) else (some ((([] : List Int)), false)))) = some (r1, r2) := h
 clear h
 replace H := Option.bind_eq_some_iff.mp H
 obtain ⟨t247, A30, H⟩ := H
 replace H : (if t247 = true then ((spec_MelodySteps.f k l1).bind fun t248 => ((spec_FormulasBest.f k l0 t248).bind fun bt251 => (some (bt251.1, bt251.2)))) else (some ((([] : List Int)), false))) = some (r1, r2) := H
 have A3 := Aside0.mk A30
 clear A30
 by_cases c4 : t247 = true
 ·
  subst c4
  have H1 : ((spec_MelodySteps.f k l1).bind fun t248 => ((spec_FormulasBest.f k l0 t248).bind fun bt251 => (some (bt251.1, bt251.2)))) = some (r1, r2) := by rw [if_pos rfl] at H; exact H
  clear H
  have H := H1
  clear H1
  replace H := Option.bind_eq_some_iff.mp H
  obtain ⟨t248, A50, H⟩ := H
  replace H : ((spec_FormulasBest.f k l0 t248).bind fun bt251 => (some (bt251.1, bt251.2))) = some (r1, r2) := H
  have A5 := Aside0.mk A50
  clear A50
  replace H := Option.bind_eq_some_iff.mp H
  obtain ⟨⟨t251, t252⟩, A60, H⟩ := H
  replace H : (some (t251, t252)) = some (r1, r2) := H
  have A6 := Aside0.mk A60
  clear A60
  simp only [Option.some.injEq, Prod.mk.injEq] at H
  obtain ⟨rfl, rfl⟩ := H
  go_enter Try.func54, Try.ntmps54
  go_wp2_with (first | ((with_reducible refine gate_callee (f := 88) rfl ?_); refine goesL_ (some 7) rfl rfl Try.func88 (by kernel_rfl) rfl #[.slice A1 l1.length c1] rfl (by (try simp only [List.map_toArray, List.map_cons, List.map_nil]); first | done | rfl | (simp only [List.length_drop, List.length_take]; rfl)) ?_; (with_reducible refine (spec_MelodyValid.calls k _ _ l1 true _ ?side1 ?side2 A3.out).mono ?_); (case side1 => repeat (first | exact HR1.out | (with_reducible refine Kd.C_alloc ?_ _) | (with_reducible refine Kd.C_drewN ?_ _) | (with_reducible refine Kd.C_drew ?_))); (case side2 => exact HC1.out); rintro e w7 ⟨rfl, hb⟩; refine ⟨_, rfl, ?_⟩; have n0_ := Aside0.mk (below_step (by repeat (first | (with_reducible first | exact HB.out | apply below_alloc | apply pw_below_drewN | apply below_drew1) | exact HB.out)) hb); clear HB; have HB := n0_; clear n0_; (try clear hb); (try clear hb2); (try clear hk); (try clear hi)) | ((with_reducible refine gate_callee (f := 97) rfl ?_); refine goesL_ (some 12) rfl rfl Try.func97 (by kernel_rfl) rfl #[.slice A1 l1.length c1] rfl (by (try simp only [List.map_toArray, List.map_cons, List.map_nil]); first | done | rfl | (simp only [List.length_drop, List.length_take]; rfl)) ?_; (with_reducible refine (spec_MelodySteps.calls k _ _ l1 t248 _ ?side1 ?side2 A5.out).mono ?_); (case side1 => repeat (first | exact (Kd.C_below HR1.out HB.out) | (with_reducible refine Kd.C_alloc ?_ _) | (with_reducible refine Kd.C_drewN ?_ _) | (with_reducible refine Kd.C_drew ?_))); (case side2 => exact HC1.out); rintro e w8 ⟨v249, rfl, ho0, hb⟩; refine ⟨_, rfl, ?_⟩; have n0_ := Aside0.mk (Kd.R_lower ho0 (below_size (by repeat (first | (with_reducible first | exact HB.out | apply below_alloc | apply pw_below_drewN | apply below_drew1) | exact HB.out)))); have n1_ := Aside0.mk (below_step (by repeat (first | (with_reducible first | exact HB.out | apply below_alloc | apply pw_below_drewN | apply below_drew1) | exact HB.out)) hb); clear HB; have HO250 := n0_; have HB := n1_; clear n0_ n1_; (try clear hb); (try clear hb2); (try clear hk); (try clear hi); (try clear ho0); obtain ⟨Ao9, co9, eo9⟩ := Kd.R_slice HO250.out; subst eo9) | ((with_reducible refine gate_callee (f := 30) rfl ?_); refine goesL_ (some 13) rfl rfl Try.func30 (by kernel_rfl) rfl #[.slice A0 l0.length c0, .slice Ao9 t248.length co9] rfl (by (try simp only [List.map_toArray, List.map_cons, List.map_nil]); first | done | rfl | (simp only [List.length_drop, List.length_take]; rfl)) ?_; (with_reducible refine (spec_FormulasBest.calls k _ _ l0 _ _ t248 t251 t252 _ ?side1 ?side2 ?side3 ?side4 A6.out).mono ?_); (case side1 => repeat (first | exact (Kd.C_below HR0.out HB.out) | (with_reducible refine Kd.C_alloc ?_ _) | (with_reducible refine Kd.C_drewN ?_ _) | (with_reducible refine Kd.C_drew ?_))); (case side2 => exact HC0.out); (case side3 => repeat (first | exact (Kd.R_reads' HO250.out).2.2 | (with_reducible refine Kd.C_alloc ?_ _) | (with_reducible refine Kd.C_drewN ?_ _) | (with_reducible refine Kd.C_drew ?_))); (case side4 => exact (Kd.R_reads' HO250.out).2.1); rintro e w10 ⟨v253, rfl, ho0, hb⟩; refine ⟨_, rfl, ?_⟩; have n0_ := Aside0.mk (Kd.R_elder' (by (with_reducible repeat (first | apply Kd.R_alloc | apply Kd.R_drewN | apply Kd.R_drew)); exact HO250.out) (Kd.R_base ho0) hb); have n1_ := Aside0.mk (Kd.R_lower (Kd.R_new' ho0 (Kd.R_lt (by (with_reducible repeat (first | apply Kd.R_alloc | apply Kd.R_drewN | apply Kd.R_drew)); exact HO250.out))) (below_size (by repeat (first | (with_reducible first | exact HB.out | apply below_alloc | apply pw_below_drewN | apply below_drew1) | exact HB.out)))); have n2_ := Aside0.mk (below_step (by repeat (first | (with_reducible first | exact HB.out | apply below_alloc | apply pw_below_drewN | apply below_drew1) | exact HB.out)) hb); clear HO250; clear HB; have HO250 := n0_; have HO254 := n1_; have HB := n2_; clear n0_ n1_ n2_; (try clear hb); (try clear hb2); (try clear hk); (try clear hi); (try clear ho0)))
  go_ret2
  exact ⟨_, by first | rfl | (simp [errW_none, errW_some] <;> rfl) | (simp [*, errW_none, errW_some] <;> rfl), by (with_reducible repeat (first | apply Kd.R_alloc | apply Kd.R_drewN | apply Kd.R_drew)); exact Kd.R_mono HO254.out (fun _ hk => trivial), by repeat (first | (with_reducible first | exact HB.out | apply below_alloc | apply pw_below_drewN | apply below_drew1) | exact HB.out)⟩
 ·
  replace c4 := Bool.eq_false_iff.mpr c4
  subst c4
  have H1 : (some ((([] : List Int)), false)) = some (r1, r2) := by rw [if_neg (show ¬ (false = true) by decide)] at H; exact H
  clear H
  have H := H1
  clear H1
  obtain ⟨y255, hy255⟩ : ∃ y_ : List Int, y_ = (([] : List Int)) := ⟨_, rfl⟩
  replace H : (some (y255, false)) = some (r1, r2) := by first | (rw [hy255]; with_reducible exact H) | (have H2_ := (Option.bind_some _ _).symm.trans H; rw [hy255]; with_reducible exact H2_) | (have H2_ := (Option.bind_some _ _).symm.trans H; with_reducible exact H2_) | with_reducible exact H | (rw [hy255]; exact H) | exact H
  have Ny255 := Aside0.mk hy255
  clear hy255
  simp only [Option.some.injEq, Prod.mk.injEq] at H
  obtain ⟨rfl, rfl⟩ := H
  go_enter Try.func54, Try.ntmps54
  go_wp2_with (first | ((with_reducible refine gate_callee (f := 88) rfl ?_); refine goesL_ (some 7) rfl rfl Try.func88 (by kernel_rfl) rfl #[.slice A1 l1.length c1] rfl (by (try simp only [List.map_toArray, List.map_cons, List.map_nil]); first | done | rfl | (simp only [List.length_drop, List.length_take]; rfl)) ?_; (with_reducible refine (spec_MelodyValid.calls k _ _ l1 false _ ?side1 ?side2 A3.out).mono ?_); (case side1 => repeat (first | exact HR1.out | (with_reducible refine Kd.C_alloc ?_ _) | (with_reducible refine Kd.C_drewN ?_ _) | (with_reducible refine Kd.C_drew ?_))); (case side2 => exact HC1.out); rintro e w11 ⟨rfl, hb⟩; refine ⟨_, rfl, ?_⟩; have n0_ := Aside0.mk (below_step (by repeat (first | (with_reducible first | exact HB.out | apply below_alloc | apply pw_below_drewN | apply below_drew1) | exact HB.out)) hb); clear HB; have HB := n0_; clear n0_; (try clear hb); (try clear hb2); (try clear hk); (try clear hi)) | ((with_reducible refine gate_dst (N := 9) rfl ?_); refine Kd.R_lit (Kd.int .i64) _ 3 ?hg (N := 9) ?hd (xs := ([] : List Int)) (inner := []) (ok := fun _ => True) (okp := fun _ => True) ?hr ?hp (fun _ hk => hk) trivial (Below.refl _ _) (Nat.le_refl _) (by simp) ?_; (case hd => rfl); (case hg => rfl); (case hr => first | (go_simp; done) | (go_simp; rfl)); (case hp => exact (Reps.none _ _)); intro v256 w12 ho13 hb hg_ hnew_; clear hg_ hnew_; (first | rw [← Ny255.out] at ho13 | (simp only [Int.reduceToNat] at ho13; rw [← Ny255.out] at ho13)); have n0_ := Aside0.mk (Kd.R_lower ho13 (below_size (by repeat (first | (with_reducible first | exact HB.out | apply below_alloc | apply pw_below_drewN | apply below_drew1) | exact HB.out)))); have n1_ := Aside0.mk (below_step (by repeat (first | (with_reducible first | exact HB.out | apply below_alloc | apply pw_below_drewN | apply below_drew1) | exact HB.out)) hb); clear HB; have HO257 := n0_; have HB := n1_; clear n0_ n1_; clear hb ho13))
  go_ret2
  exact ⟨_, by first | rfl | (simp [errW_none, errW_some] <;> rfl) | (simp [*, errW_none, errW_some] <;> rfl), by (with_reducible repeat (first | apply Kd.R_alloc | apply Kd.R_drewN | apply Kd.R_drew)); exact HO257.out, by repeat (first | (with_reducible first | exact HB.out | apply below_alloc | apply pw_below_drewN | apply below_drew1) | exact HB.out)⟩

def fread (l : List S55) (m : List S64) : List Int × Bool := if melOk m = true then fBest l (mdiffs stepD m) else ([], false)
theorem fread_len (l : List S55) (m : List S64) : (fread l m).1.length ≤ 24 := by
 unfold fread
 split
 ·
  exact fBest_len _ _
 ·
  exact Nat.zero_le _
theorem spec_FormulasRead_ev (l : List S55) (m : List S64) (hll : l.length ≤ 1000000000000) (hl : ∀ x ∈ l, x.f0.length ≤ 1000000000000) (hm : m.length ≤ 1000000000000) : Ev (fun k => spec_FormulasRead.f k l m) (fread l m) := by
 unfold spec_FormulasRead.f fread
 refine Ev.bind (spec_MelodyValid_ev m hm) ?_
 cases hok : melOk m
 ·
  exact Ev.neg (by simp) (Ev.eqr (Ev.now _) (by simp))
 ·
  refine Ev.pos rfl (Ev.bind (spec_MelodySteps_ev m hm) (Ev.bind (spec_FormulasBest_ev l _ hll hl (by have := mdiffs_len stepD m; omega)) (Ev.eqr (Ev.now _) (by simp))))

set_option maxHeartbeats 4000000 in
set_option maxRecDepth 100000 in
theorem impl_FormulasRead_calls (l : List S55) (m : List S64) (A0 : Option Addr) (c0 : Nat) (A1 : Option Addr) (c1 : Nat) (w : World) (hr0 : Kd.C k55 w A0 l.length l) (hc0 : l.length ≤ c0) (hr1 : Kd.C k64 w A1 m.length m) (hc1 : m.length ≤ c1) (hl : ∀ x ∈ l, x.f0.length ≤ 1000000000000) (hm : m.length ≤ 1000000000000) :
  Calls Try.prog 51 #[.slice A0 l.length c0, .slice A1 m.length c1] w fun e w' => ∃ v, e = .returned (.tuple #[v, .bool (fread l m).2]) ∧ Kd.R (Kd.int .i64) 3 w' w.heap.size (fun _ => True) v (fread l m).1 ∧ Below w.heap.size w w' := by
 obtain ⟨kk, hv⟩ := Ev.rounds (impl_MelodyValid_ev m)
 have HR0 := Aside0.mk hr0
 have HC0 := Aside0.mk hc0
 have HR1 := Aside0.mk hr1
 have HC1 := Aside0.mk hc1
 have HV := Aside0.mk hv
 have HL := Aside0.mk hl
 clear hr0 hc0 hr1 hc1 hv hl
 cases hok : melOk m
 ·
  have e : fread l m = ([], false) := by unfold fread; rw [hok]; rfl
  rw [e]
  rw [hok] at HV
  clear hok e
  go_enter Try.func51, Try.ntmps51
  go_wp2_with (go_at_call 65; refine (impl_MelodyValid.calls kk _ _ m false _ HR1.out HC1.out HV.out).mono ?_; rintro e w1 ⟨rfl, hb1⟩)
  go_ret2
  exact ⟨_, rfl, Kd.R_nil _ _ _ _ _, hb1⟩
 ·
  rw [hok] at HV
  have e : fread l m = fBest l (mdiffs stepD m) := by unfold fread; rw [hok]; rfl
  rw [e]
  have hd := mdiffs_len stepD m
  obtain ⟨D, hD⟩ : ∃ D, D = mdiffs stepD m := ⟨_, rfl⟩
  rw [← hD] at hd ⊢
  have HD := Aside0.mk hD
  clear hok e hD
  go_enter Try.func51, Try.ntmps51
  go_wp2_with (first
   | (go_at_call 65; refine (impl_MelodyValid.calls kk _ _ m true _ HR1.out HC1.out HV.out).mono ?_; rintro e w1 ⟨rfl, hb1⟩; have HB1 := Aside0.mk hb1; clear hb1)
   | (go_at_call 52; refine (impl_MelodySteps_calls m A1 c1 w1 (Kd.C_below HR1.out HB1.out) HC1.out hm).mono ?_; rintro e w2 ⟨v2, rfl, ho2, hb2⟩; rw [← HD.out] at ho2; obtain ⟨A2, c2, rfl, hc2, hr2⟩ := Kd.R_reads ho2; have HS2 := Aside0.mk (And.intro hc2 hr2); have HB2 := Aside0.mk (below_step HB1.out hb2); clear hc2 hr2 ho2 hb2)
   | (go_at_call 29; refine (impl_FormulasBest_calls l D A0 c0 A2 c2 w2 (Kd.C_below HR0.out HB2.out) HC0.out HS2.out.2 HS2.out.1 HL.out (by omega)).mono ?_; rintro e w3 ⟨v3, rfl, ho3, hb3⟩; have HO3 := Aside0.mk (Kd.R_lower ho3 HB2.out.size); have HB3 := Aside0.mk (below_step HB2.out hb3); clear ho3 hb3))
  go_ret2
  exact ⟨_, rfl, HO3.out, HB3.out⟩
theorem impl_FormulasRead_x (l : List S55) (m : List S64) (A0 : Option Addr) (c0 : Nat) (A1 : Option Addr) (c1 : Nat) (w : World) (hr0 : Kd.C k55 w A0 l.length l) (hc0 : l.length ≤ c0) (hr1 : Kd.C k64 w A1 m.length m) (hc1 : m.length ≤ c1) (hl : FormulaSz l ≤ 1000000000000) (hm : m.length ≤ 1000000000000) :
  Calls Try.prog 51 #[.slice A0 l.length c0, .slice A1 m.length c1] w fun e w' => ∃ v, e = .returned (.tuple #[v, .bool (fread l m).2]) ∧ Kd.R (Kd.int .i64) 3 w' w.heap.size (fun _ => True) v (fread l m).1 ∧ Below w.heap.size w w' :=
 impl_FormulasRead_calls l m A0 c0 A1 c1 w hr0 hc0 hr1 hc1 (fun x hx => by have := FormulaSz_get hx; omega) hm
theorem spec_FormulasRead_x (l : List S55) (m : List S64) (A0 : Option Addr) (c0 : Nat) (A1 : Option Addr) (c1 : Nat) (w : World) (hr0 : Kd.C k55 w A0 l.length l) (hc0 : l.length ≤ c0) (hr1 : Kd.C k64 w A1 m.length m) (hc1 : m.length ≤ c1) (hl : FormulaSz l ≤ 1000000000000) (hm : m.length ≤ 1000000000000) :
  Calls Try.prog 54 #[.slice A0 l.length c0, .slice A1 m.length c1] w fun e w' => ∃ v, e = .returned (.tuple #[v, .bool (fread l m).2]) ∧ Kd.R (Kd.int .i64) 3 w' w.heap.size (fun _ => True) v (fread l m).1 ∧ Below w.heap.size w w' := by
 obtain ⟨kk, h⟩ := Ev.rounds (spec_FormulasRead_ev l m (by have := FormulaSz_len l; omega) (fun x hx => by have := FormulaSz_get hx; omega) hm)
 exact spec_FormulasRead.calls kk _ _ l _ _ m _ _ w hr0 hc0 hr1 hc1 h

def Opn {α : Type} (P : Program) (t : TypeId) (d : Kd α) (ok : α → Prop) : Prop :=
 P.cellsOf t = d.sz ∧ ∀ {H : Type} (enc : TypeId × Value → H) (w : World) (base : Nat) (held : Bool) (fuel : Nat) (cs : List Value) (x : DataW H × List MemPlace), DataW.trod enc P w base (fun _ => true) held fuel t cs = some x → ∃ p, d.K w p cs ∧ ok p
theorem opn_int {P : Program} {t : TypeId} (k : IntKind) (ht : P.underlying t = some (.int k)) (hc : P.cellsOf t = 1) : Opn P t (Kd.int k) (fun n => (Lit.int k n).wf = true) :=
 ⟨hc, fun enc w base held fuel cs x h => by obtain ⟨n, rfl, _, hw⟩ := DataW.trod_int ht h; exact ⟨n, rfl, hw⟩⟩
theorem opn_bool {P : Program} {t : TypeId} (ht : P.underlying t = some .bool) (hc : P.cellsOf t = 1) : Opn P t Kd.bool (fun _ => True) :=
 ⟨hc, fun enc w base held fuel cs x h => by obtain ⟨n, rfl, _⟩ := DataW.trod_bool ht h; exact ⟨n, rfl, trivial⟩⟩
theorem opn_slice {α : Type} {P : Program} {t e : TypeId} {d : Kd α} {ok : α → Prop} (ht : P.underlying t = some (.slice e)) (hc : P.cellsOf t = 1) (he : Opn P e d ok) : Opn P t (Kd.slice e d) (fun l => (∀ x ∈ l, ok x) ∧ l.length ≤ maxLen) := by
 refine ⟨hc, fun enc w base held fuel cs x h => ?_⟩
 rcases Go.Deep.open_slice ht h with ⟨rfl, _⟩ | ⟨a, len, cap, m, n, D, Pl, rfl, _, hl, hm, hmm, _, hi⟩
 ·
  exact ⟨[], ⟨none, 0, rfl, Nat.le_refl _, rfl, by simp, fun h => by simp at h⟩, by simp, by simp⟩
 ·
  have hmc : m = cap := by simpa using hmm
  clear hmm
  have key : ∀ k, k ≤ len → ∃ l : List α, l.length = k ∧ (∀ x ∈ l, ok x) ∧ ∀ j p, l[j]? = some p → ∃ c, c.length = d.sz ∧ d.K w p c ∧ ∀ i u, c[i]? = some u → w.cell? (a.add (j * d.sz + i)) = some u := by
   intro k
   induction k with
   | zero => intro _; exact ⟨[], rfl, by simp, by simp⟩
   | succ k ih =>
    intro hk
    obtain ⟨l, hll, hlo, hlc⟩ := ih (by omega)
    obtain ⟨cs', hcs, ht'⟩ := hi k (by omega)
    rw [he.1] at hcs
    obtain ⟨p, hp, hop⟩ := he.2 enc w base held n cs' _ ht'
    obtain ⟨_, hcl, hat⟩ := World.cells?_some hcs
    refine ⟨l ++ [p], by simp [hll], ?_, ?_⟩
    ·
     intro x hx
     rcases List.mem_append.1 hx with hx | hx
     ·
      exact hlo x hx
     ·
      rw [List.mem_singleton.1 hx]; exact hop
    ·
     intro j q hq
     by_cases hj : j < l.length
     ·
      rw [List.getElem?_append_left hj] at hq
      exact hlc j q hq
     ·
      have hj2 : j = l.length := by
       have := (List.getElem?_eq_some_iff.1 hq).1
       simp at this; omega
      subst hj2
      rw [List.getElem?_append_right (Nat.le_refl _)] at hq
      simp at hq
      subst hq
      refine ⟨cs', hcl, hp, fun i u hu => ?_⟩
      have hil : i < d.sz := by rw [← hcl]; exact (List.getElem?_eq_some_iff.1 hu).1
      rw [hll, ← Go.Deep.add_add, hat i hil, hu]
  obtain ⟨l, hll, hlo, hlc⟩ := key len (Nat.le_refl _)
  subst hll
  exact ⟨l, ⟨some a, cap, rfl, hl, rfl, by unfold maxLen at hm; omega, fun _ => ⟨a, rfl, hlc⟩⟩, hlo, by omega⟩
theorem opn_iso {α β : Type} {P : Program} {t : TypeId} {d : Kd α} {ok : α → Prop} (h : Opn P t d ok) (f : β → α) (g : α → β) (hfg : ∀ x, f (g x) = x) : Opn P t (Kd.iso d f) (fun y => ok (f y)) :=
 ⟨h.1, fun enc w base held fuel cs x hx => by
  obtain ⟨p, hp, ho⟩ := h.2 enc w base held fuel cs x hx
  exact ⟨g p, by show d.K w (f (g p)) cs; rw [hfg]; exact hp, by show ok (f (g p)); rw [hfg]; exact ho⟩⟩
theorem opn_struct2 {α β : Type} {P : Program} {t : TypeId} {f0 f1 : Field} {a : Kd α} {b : Kd β} {oka : α → Prop} {okb : β → Prop} (ht : P.underlying t = some (.struct #[f0, f1])) (h0 : Opn P f0.type a oka) (h1 : Opn P f1.type b okb)
  (o0 : f0.offset = 0) (o1 : f1.offset = a.sz) (hc : P.cellsOf t = a.sz + b.sz) : Opn P t (Kd.pair a b) (fun p => oka p.1 ∧ okb p.2) := by
 refine ⟨hc, fun enc w base held fuel cs x h => ?_⟩
 obtain ⟨xs, n, _, _, hl, hxl, hg⟩ := DataW.trod_struct ht h
 have g0 := hg 0 f0 rfl
 have g1 := hg 1 f1 rfl
 rw [o0, h0.1, List.drop_zero] at g0
 rw [o1, h1.1] at g1
 rw [List.getElem?_eq_getElem (by rw [hxl]; simp)] at g0 g1
 obtain ⟨p, hp, hop⟩ := h0.2 enc w base held n _ _ g0
 obtain ⟨q, hq, hoq⟩ := h1.2 enc w base held n _ _ g1
 refine ⟨(p, q), ⟨cs.take a.sz, (cs.drop a.sz).take b.sz, ?_, hp, hq⟩, hop, hoq⟩
 rw [List.take_of_length_le (l := cs.drop a.sz) (by rw [List.length_drop, hl, hc]; omega), List.take_append_drop]
/-- A slice argument. -/
theorem opn_arg {α : Type} {P : Program} {t e : TypeId} {d : Kd α} {ok : List α → Prop} (h : Opn P t (Kd.slice e d) ok) {H : Type} {enc : TypeId × Value → H} {w : World} {base : Nat} {held : Bool} {a : Option Addr} {len cap : Nat} {x : DataW H} {p : List MemPlace} (hr : DataW.Trod enc P w base (fun _ => true) held t (.slice a len cap) x p) :
  ∃ l : List α, len = l.length ∧ l.length ≤ cap ∧ d.C w a l.length l ∧ ok l := by
 obtain ⟨fuel, hf⟩ := hr
 obtain ⟨l, ⟨A, c, he, hc, hC⟩, ho⟩ := h.2 enc w base held fuel _ _ hf
 simp [Value.cells] at he
 obtain ⟨rfl, rfl, rfl⟩ := he
 exact ⟨l, rfl, hc, hC, ho⟩

set_option maxHeartbeats 8000000 in
set_option maxRecDepth 100000 in
theorem FnExactFormulasRead_walk (l : List S98) (m : List S62) (Al : Option Addr) (cl : Nat) (Am : Option Addr) (cm : Nat) (w : World) (hrl : Kd.C k98 w Al l.length l) (hcl : l.length ≤ cl) (hwl : ∀ x ∈ l, ((∀ y ∈ x.f0, (Lit.int .i64 y).wf = true) ∧ x.f0.length ≤ maxLen) ∧ (Lit.int .i64 x.f1).wf = true) (hml : l.length ≤ maxLen) (hrm : Kd.C k62 w Am m.length m) (hcm : m.length ≤ cm) (hmm : m.length ≤ maxLen) :
  Calls Try.prog 11 #[.slice Al l.length cl, .slice Am m.length cm] w fun e w' => e = .returned (.bool true) ∧ Below w.heap.size w w' := by
 have HRl := Aside0.mk hrl
 have HCl := Aside0.mk hcl
 unfold maxLen at hml
 clear hrl hcl
 have HWl := Aside0.mk hwl
 clear hwl
 have HRm := Aside0.mk hrm
 have HCm := Aside0.mk hcm
 unfold maxLen at hmm
 clear hrm hcm
 by_cases z0 : (1048576 : Int) - FormulaSz (l.map convFormula) < 0
 ·
  go_enter Try.func11, Try.ntmps11
  go_wp2_with fail
  refine (FormulaS_sz l _ _ _ _ (by omega) (by omega) (by omega) (fun x hx => by have := (HWl.out x hx).1.2; unfold maxLen at this; omega) HRl.out HCl.out).mono ?_
  rintro _ ws0 ⟨e0', rfl, he0', hb⟩
  have hb0 := hb
  have u0 : decide (e0' < 0) = true := by rw [he0', if_pos z0]; rfl
  clear he0' z0
  go_wp2
  go_ret
  exact ⟨rfl, hb0⟩
 obtain ⟨e0, he0⟩ : ∃ e : Int, e = (1048576 : Int) - FormulaSz (l.map convFormula) := ⟨_, rfl⟩
 have n0 := FormulaSz_len (l.map convFormula)
 rw [List.length_map] at n0
 have t0 : decide (e0 < 0) = false := decide_eq_false (by omega)
 have y0 : l.length ≤ 1048576 := by omega
 have y0' : 0 ≤ e0 ∧ e0 ≤ 1048576 := by omega
 have q0 : FormulaSz (l.map convFormula) ≤ 1048576 := by omega
 clear n0
 replace he0 := Aside0.mk he0
 by_cases z1 : e0 - (m.length : Int) < 0
 ·
  go_enter Try.func11, Try.ntmps11
  go_wp2_with fail
  refine (FormulaS_sz l _ _ _ _ (by omega) (by omega) (by omega) (fun x hx => by have := (HWl.out x hx).1.2; unfold maxLen at this; omega) HRl.out HCl.out).mono ?_
  rintro _ ws0 ⟨e0', rfl, he0', hb⟩
  have hb0 := hb
  obtain rfl : e0' = e0 := by rw [he0', if_neg (by omega), he0.out]
  clear he0'
  go_wp2_with fail
  refine (ToneS_sz m _ _ _ _ (by omega) (by omega) (by omega) (Kd.C_below HRm.out hb0) HCm.out).mono ?_
  rintro _ ws1 ⟨e1', rfl, he1', hb⟩
  have hb1 := below_step hb0 hb
  have u1 : decide (e1' < 0) = true := by rw [he1', if_pos z1]; rfl
  clear he1' z1
  go_wp2
  go_ret
  exact ⟨rfl, hb1⟩
 obtain ⟨e1, he1⟩ : ∃ e : Int, e = e0 - (m.length : Int) := ⟨_, rfl⟩
 have t1 : decide (e1 < 0) = false := decide_eq_false (by omega)
 have y1 : m.length ≤ 1048576 := by omega
 have y1' : 0 ≤ e1 ∧ e1 ≤ 1048576 := by omega
 replace he1 := Aside0.mk he1
 obtain ⟨xl, hxl⟩ : ∃ x, x = l.map convFormula := ⟨_, rfl⟩
 have lxl : xl.length ≤ 1048576 := by rw [hxl, List.length_map]; omega
 have lzl : FormulaSz xl ≤ 1048576 := by rw [hxl]; omega
 have lyl : 0 ≤ FormulaSz xl := FormulaSz_nn xl
 have Xl := Aside0.mk hxl
 clear hxl
 obtain ⟨xm, hxm⟩ : ∃ x, x = m.map convTone := ⟨_, rfl⟩
 have lxm : xm.length ≤ 1048576 := by rw [hxm, List.length_map]; omega
 have Xm := Aside0.mk hxm
 clear hxm
 skip
 obtain ⟨r0, r1, hres⟩ : ∃ r0 r1, fread xl xm = (r0, r1) := ⟨_, _, rfl⟩
 have lr : r0.length ≤ 2000000 := by have := fread_len xl xm; rw [hres] at this; simp only [] at this; omega
 have RES := Aside0.mk hres
 clear hres
 go_enter Try.func11, Try.ntmps11
 go_wp2_with fail
 refine (FormulaS_sz l _ _ _ _ (by omega) (by omega) (by omega) (fun x hx => by have := (HWl.out x hx).1.2; unfold maxLen at this; omega) HRl.out HCl.out).mono ?_
 rintro _ w1 ⟨e', rfl, he', hb⟩
 obtain rfl : e' = e0 := by have := he0.out; rw [he', if_neg (by omega), this]
 clear he'
 have HB := Aside0.mk hb
 have S1 := Aside0.mk hb.size
 go_wp2_with fail
 refine (ToneS_sz m _ _ _ _ (by omega) (by omega) (by omega) (Kd.C_below HRm.out HB.out) HCm.out).mono ?_
 rintro _ w2 ⟨e', rfl, he', hb⟩
 obtain rfl : e' = e1 := by have := he1.out; rw [he', if_neg (by omega), this]
 clear he'
 replace HB := Aside0.mk (below_step HB.out hb)
 have S2 := Aside0.mk hb.size
 go_wp2_with fail
 refine (FormulaS_to l _ _ _ (by omega) (Kd.C_below HRl.out HB.out) HCl.out).mono ?_
 rintro _ w3 ⟨vsl, rfl, ho, hb⟩
 rw [← Xl.out] at ho
 obtain ⟨Asl, csl, rfl, _, _⟩ := Kd.S_reads ho
 have Osl := Aside0.mk (OwnS.make ho HB.out.size)
 clear ho
 replace HB := Aside0.mk (below_step HB.out hb)
 have S3 := Aside0.mk hb.size
 go_wp2_with fail
 refine (ToneS_to m _ _ _ (by omega) (Kd.C_below HRm.out HB.out) HCm.out).mono ?_
 rintro _ w4 ⟨vsm, rfl, ho, hb⟩
 rw [← Xm.out] at ho
 obtain ⟨Asm, csm, rfl, _, _⟩ := Kd.R_reads ho
 replace Osl := Aside0.mk (Osl.out.below hb)
 have Osm := Aside0.mk (Own.make ho HB.out.size)
 clear ho
 replace HB := Aside0.mk (below_step HB.out hb)
 have S4 := Aside0.mk hb.size
 go_wp2_with fail
 refine (spec_FormulasRead_x xl xm _ _ _ _ _ Osl.out.C Osl.out.cap Osm.out.C Osm.out.cap (by omega) (by omega)).mono ?_
 rintro _ w5 ⟨v, rfl, ho, hb⟩
 simp only [RES.out] at ho ⊢
 obtain ⟨AW, cW, rfl, _, _⟩ := Kd.R_reads ho
 replace Osl := Aside0.mk (Osl.out.below hb)
 replace Osm := Aside0.mk (Osm.out.below hb)
 have OW := Aside0.mk (Own.make ho HB.out.size)
 clear ho
 replace HB := Aside0.mk (below_step HB.out hb)
 have S5 := Aside0.mk hb.size
 clear Osl
 clear Osm
 go_wp2_with fail
 refine (FormulaS_to l _ _ _ (by omega) (Kd.C_below HRl.out HB.out) HCl.out).mono ?_
 rintro _ w6 ⟨vpl, rfl, ho, hb⟩
 rw [← Xl.out] at ho
 obtain ⟨Apl, cpl, rfl, _, _⟩ := Kd.S_reads ho
 replace OW := Aside0.mk (OW.out.below hb)
 have Opl := Aside0.mk (OwnS.make ho HB.out.size)
 clear ho
 replace HB := Aside0.mk (below_step HB.out hb)
 have S6 := Aside0.mk hb.size
 go_wp2_with fail
 refine (ToneS_to m _ _ _ (by omega) (Kd.C_below HRm.out HB.out) HCm.out).mono ?_
 rintro _ w7 ⟨vpm, rfl, ho, hb⟩
 rw [← Xm.out] at ho
 obtain ⟨Apm, cpm, rfl, _, _⟩ := Kd.R_reads ho
 replace OW := Aside0.mk (OW.out.below hb)
 replace Opl := Aside0.mk (Opl.out.below hb)
 have Opm := Aside0.mk (Own.make ho HB.out.size)
 clear ho
 replace HB := Aside0.mk (below_step HB.out hb)
 have S7 := Aside0.mk hb.size
 go_wp2_with fail
 refine (impl_FormulasRead_x xl xm _ _ _ _ _ Opl.out.C Opl.out.cap Opm.out.C Opm.out.cap (by omega) (by omega)).mono ?_
 rintro _ w8 ⟨v, rfl, ho, hb⟩
 simp only [RES.out] at ho ⊢
 obtain ⟨AG, cG, rfl, _, _⟩ := Kd.R_reads ho
 replace OW := Aside0.mk (OW.out.below hb)
 replace Opl := Aside0.mk (Opl.out.below hb)
 replace Opm := Aside0.mk (Opm.out.below hb)
 have OG := Aside0.mk (Own.make ho HB.out.size)
 clear ho
 replace HB := Aside0.mk (below_step HB.out hb)
 have S8 := Aside0.mk hb.size
 go_wp2_with fail
 refine (IntS_eq r0 _ _ _ _ _ (by omega) OG.out.C OG.out.cap OW.out.C OW.out.cap).mono ?_
 rintro _ w9 ⟨rfl, hb⟩
 replace OW := Aside0.mk (OW.out.below hb)
 replace Opl := Aside0.mk (Opl.out.below hb)
 replace Opm := Aside0.mk (Opm.out.below hb)
 replace OG := Aside0.mk (OG.out.below hb)
 replace HB := Aside0.mk (below_step HB.out hb)
 have S9 := Aside0.mk hb.size
 go_wp2_with fail
 refine (FormulaS_to l _ _ _ (by omega) (Kd.C_below HRl.out HB.out) HCl.out).mono ?_
 rintro _ w10 ⟨vtl, rfl, ho, hb⟩
 rw [← Xl.out] at ho
 obtain ⟨Atl, ctl, rfl, _, _⟩ := Kd.S_reads ho
 replace OW := Aside0.mk (OW.out.below hb)
 replace Opl := Aside0.mk (Opl.out.below hb)
 replace Opm := Aside0.mk (Opm.out.below hb)
 replace OG := Aside0.mk (OG.out.below hb)
 have Otl := Aside0.mk (OwnS.make ho HB.out.size)
 clear ho
 replace HB := Aside0.mk (below_step HB.out hb)
 have S10 := Aside0.mk hb.size
 go_wp2_with fail
 refine (FormulaS_eq xl _ _ _ _ _ (by omega) Opl.out.C Opl.out.cap Otl.out.C Otl.out.cap).mono ?_
 rintro _ w11 ⟨rfl, hb⟩
 replace OW := Aside0.mk (OW.out.below hb)
 replace Opl := Aside0.mk (Opl.out.below hb)
 replace Opm := Aside0.mk (Opm.out.below hb)
 replace OG := Aside0.mk (OG.out.below hb)
 replace Otl := Aside0.mk (Otl.out.below hb)
 replace HB := Aside0.mk (below_step HB.out hb)
 have S11 := Aside0.mk hb.size
 clear Otl
 go_wp2_with fail
 refine (ToneS_to m _ _ _ (by omega) (Kd.C_below HRm.out HB.out) HCm.out).mono ?_
 rintro _ w12 ⟨vtm, rfl, ho, hb⟩
 rw [← Xm.out] at ho
 obtain ⟨Atm, ctm, rfl, _, _⟩ := Kd.R_reads ho
 replace OW := Aside0.mk (OW.out.below hb)
 replace Opl := Aside0.mk (Opl.out.below hb)
 replace Opm := Aside0.mk (Opm.out.below hb)
 replace OG := Aside0.mk (OG.out.below hb)
 have Otm := Aside0.mk (Own.make ho HB.out.size)
 clear ho
 replace HB := Aside0.mk (below_step HB.out hb)
 have S12 := Aside0.mk hb.size
 go_wp2_with fail
 refine (ToneS_eq xm _ _ _ _ _ (by omega) Opm.out.C Opm.out.cap Otm.out.C Otm.out.cap).mono ?_
 rintro _ w13 ⟨rfl, hb⟩
 replace OW := Aside0.mk (OW.out.below hb)
 replace Opl := Aside0.mk (Opl.out.below hb)
 replace Opm := Aside0.mk (Opm.out.below hb)
 replace OG := Aside0.mk (OG.out.below hb)
 replace Otm := Aside0.mk (Otm.out.below hb)
 replace HB := Aside0.mk (below_step HB.out hb)
 have S13 := Aside0.mk hb.size
 clear Otm
 go_wp2_with fail
 refine (FormulaS_mark xl _ _ _ _ w _ (by omega) (by omega) (by omega) HB.out Opl.out).mono ?_
 rintro _ w14 ⟨k0, rfl, hk0, ho, hb, hkept⟩
 clear Opl
 replace OW := Aside0.mk (OW.out.kept hkept (by intro k h1 h2 h3; have := S1.out; have := S2.out; have := S3.out; have := S4.out; have := S5.out; have := S6.out; have := S7.out; have := S8.out; have := S9.out; have := S10.out; have := S11.out; have := S12.out; have := S13.out; omega))
 replace Opm := Aside0.mk (Opm.out.kept hkept (by intro k h1 h2 h3; have := S1.out; have := S2.out; have := S3.out; have := S4.out; have := S5.out; have := S6.out; have := S7.out; have := S8.out; have := S9.out; have := S10.out; have := S11.out; have := S12.out; have := S13.out; omega))
 replace OG := Aside0.mk (OG.out.kept hkept (by intro k h1 h2 h3; have := S1.out; have := S2.out; have := S3.out; have := S4.out; have := S5.out; have := S6.out; have := S7.out; have := S8.out; have := S9.out; have := S10.out; have := S11.out; have := S12.out; have := S13.out; omega))
 replace HB := Aside0.mk hb
 have S14 := Aside0.mk hkept.1
 have b0 : 0 ≤ k0 ∧ k0 ≤ 2097153 := by omega
 clear hk0 ho hkept
 go_wp2_with fail
 refine (ToneS_mark xm _ _ _ _ w _ (by omega) (by omega) (by omega) HB.out Opm.out).mono ?_
 rintro _ w15 ⟨k1, rfl, hk1, ho, hb, hkept⟩
 clear Opm
 replace OW := Aside0.mk (OW.out.kept hkept (by intro k h1 h2 h3; have := S1.out; have := S2.out; have := S3.out; have := S4.out; have := S5.out; have := S6.out; have := S7.out; have := S8.out; have := S9.out; have := S10.out; have := S11.out; have := S12.out; have := S13.out; have := S14.out; omega))
 replace OG := Aside0.mk (OG.out.kept hkept (by intro k h1 h2 h3; have := S1.out; have := S2.out; have := S3.out; have := S4.out; have := S5.out; have := S6.out; have := S7.out; have := S8.out; have := S9.out; have := S10.out; have := S11.out; have := S12.out; have := S13.out; have := S14.out; omega))
 replace HB := Aside0.mk hb
 have S15 := Aside0.mk hkept.1
 have b1 : 0 ≤ k1 ∧ k1 ≤ 4194305 := by omega
 clear hk1 ho hkept
 have u : decide (k1 < 0) = false := decide_eq_false (by omega)
 go_wp2_with fail
 refine (IntS_eq r0 _ _ _ _ _ (by omega) OG.out.C OG.out.cap OW.out.C OW.out.cap).mono ?_
 rintro _ w16 ⟨rfl, hb⟩
 replace OW := Aside0.mk (OW.out.below hb)
 replace OG := Aside0.mk (OG.out.below hb)
 replace HB := Aside0.mk (below_step HB.out hb)
 have S16 := Aside0.mk hb.size
 go_wp2_with fail
 refine (IntS_mark r0 _ _ _ _ w _ (by omega) (by omega) (by omega) HB.out OG.out).mono ?_
 rintro _ w17 ⟨mk_, rfl, hm_, ho, hb, hkept⟩
 replace OW := Aside0.mk (OW.out.kept hkept (by intro k h1 h2 h3; have := S1.out; have := S2.out; have := S3.out; have := S4.out; have := S5.out; have := S6.out; have := S7.out; have := S8.out; have := S9.out; have := S10.out; have := S11.out; have := S12.out; have := S13.out; have := S14.out; have := S15.out; have := S16.out; omega))
 replace OG := Aside0.mk ho
 replace HB := Aside0.mk hb
 have S17 := Aside0.mk hkept.1
 clear ho hkept
 have um : decide (mk_ < 0) = false := decide_eq_false (by omega)
 have HM_ := Aside0.mk hm_
 clear hm_
 go_wp2_with fail
 refine (IntS_held r0.length 1 _ _ _ (by omega) (by omega) (by omega) (by have h := (Kd.R_reads' OG.out).2.2; rw [markInt_len] at h; exact h) OG.out.cap).mono ?_
 rintro _ w18 ⟨q, rfl, hq, hb⟩
 obtain rfl : mk_ = q := by rw [hq, HM_.out]
 clear hq
 replace OW := Aside0.mk (OW.out.below hb)
 replace OG := Aside0.mk (OG.out.below hb)
 replace HB := Aside0.mk (below_step HB.out hb)
 have S18 := Aside0.mk hb.size
 go_wp2_with fail
 refine (FormulaS_to l _ _ _ (by omega) (Kd.C_below HRl.out HB.out) HCl.out).mono ?_
 rintro _ w19 ⟨vhl, rfl, ho, hb⟩
 rw [← Xl.out] at ho
 obtain ⟨Ahl, chl, rfl, _, _⟩ := Kd.S_reads ho
 replace OW := Aside0.mk (OW.out.below hb)
 replace OG := Aside0.mk (OG.out.below hb)
 have Ohl := Aside0.mk (OwnS.make ho HB.out.size)
 clear ho
 replace HB := Aside0.mk (below_step HB.out hb)
 have S19 := Aside0.mk hb.size
 go_wp2_with fail
 refine (ToneS_to m _ _ _ (by omega) (Kd.C_below HRm.out HB.out) HCm.out).mono ?_
 rintro _ w20 ⟨vhm, rfl, ho, hb⟩
 rw [← Xm.out] at ho
 obtain ⟨Ahm, chm, rfl, _, _⟩ := Kd.R_reads ho
 replace OW := Aside0.mk (OW.out.below hb)
 replace OG := Aside0.mk (OG.out.below hb)
 replace Ohl := Aside0.mk (Ohl.out.below hb)
 have Ohm := Aside0.mk (Own.make ho HB.out.size)
 clear ho
 replace HB := Aside0.mk (below_step HB.out hb)
 have S20 := Aside0.mk hb.size
 go_wp2_with fail
 refine (impl_FormulasRead_x xl xm _ _ _ _ _ Ohl.out.C Ohl.out.cap Ohm.out.C Ohm.out.cap (by omega) (by omega)).mono ?_
 rintro _ w21 ⟨v, rfl, ho, hb⟩
 simp only [RES.out] at ho ⊢
 obtain ⟨AH, cH, rfl, _, _⟩ := Kd.R_reads ho
 replace OW := Aside0.mk (OW.out.below hb)
 replace OG := Aside0.mk (OG.out.below hb)
 replace Ohl := Aside0.mk (Ohl.out.below hb)
 replace Ohm := Aside0.mk (Ohm.out.below hb)
 have OH := Aside0.mk (Own.make ho HB.out.size)
 clear ho
 replace HB := Aside0.mk (below_step HB.out hb)
 have S21 := Aside0.mk hb.size
 clear Ohl
 clear Ohm
 go_wp2_with fail
 refine (IntS_eq r0 _ _ _ _ _ (by omega) OH.out.C OH.out.cap OW.out.C OW.out.cap).mono ?_
 rintro _ w22 ⟨rfl, hb⟩
 replace OW := Aside0.mk (OW.out.below hb)
 replace OG := Aside0.mk (OG.out.below hb)
 replace OH := Aside0.mk (OH.out.below hb)
 replace HB := Aside0.mk (below_step HB.out hb)
 have S22 := Aside0.mk hb.size
 go_wp2_with fail
 refine (IntS_held r0.length 1 _ _ _ (by omega) (by omega) (by omega) (by have h := (Kd.R_reads' OG.out).2.2; rw [markInt_len] at h; exact h) OG.out.cap).mono ?_
 rintro _ w23 ⟨q, rfl, hq, hb⟩
 obtain rfl : mk_ = q := by rw [hq, HM_.out]
 clear hq
 replace OW := Aside0.mk (OW.out.below hb)
 replace OG := Aside0.mk (OG.out.below hb)
 replace OH := Aside0.mk (OH.out.below hb)
 replace HB := Aside0.mk (below_step HB.out hb)
 have S23 := Aside0.mk hb.size
 go_wp2
 go_ret
 exact ⟨rfl, HB.out⟩

end Go.Proofs.Ytnemcppllfmioaa.Pure
