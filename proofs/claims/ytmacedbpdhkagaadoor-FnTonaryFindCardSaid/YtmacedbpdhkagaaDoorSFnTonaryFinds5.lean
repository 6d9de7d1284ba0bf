/- Lemmas for the law FnTonaryFind. -/
import Derived.Test.YtmacedbpdhkagaaDoorSFnTonaryFinds4
namespace Go.Proofs.YtmacedbpdhkagaaDoor.PFnTonaryFind
open Go.RowKit Go.Proofs.YtmacedbpdhkagaaDoorW.PrintWords Go.Proofs.YtmacedbpdhkagaaDoorW.PrintLast Go.Proofs.YtmacedbpdhkagaaDoorW.PrintMore
attribute [local go_sem] max2_int min2_int max_two min_two max_three min_three max_four min_four   -- for this text's walks alone
set_option linter.unusedVariables false
set_option linter.unusedSimpArgs false

mutual
def spec_MelodyMove.j0 : Nat → List (S90) → Int → Bool → Option ((List (S90)) × Bool)
 | 0, _, _, _ => none
 | k + 1, x0, x1, x21 => if x21 = true then (some ((([] : List (S90))), false)) else (spec_MelodyMove.l0 k x0 x1 0)
def spec_MelodyMove.l0 : Nat → List (S90) → Int → Int → Option ((List (S90)) × Bool)
 | 0, _, _, _ => none
 | k + 1, x0, x1, x6 => if x6 < 2 then (if 0 < (x0.length : Int) then ((spec_ToneValid.f (wrap64 (((rd_T90 x0 0).f0) + x1)) (x6 == 1)).bind fun t400 => (if t400 = true then ((spec_l1Height.f (wrap64 (((rd_T90 x0 0).f0) + x1)) (x6 == 1)).bind fun t401 => ((spec_l1Height.f ((rd_T90 x0 0).f0) ((rd_T90 x0 0).f1)).bind fun t403 => ((spec_l2Moved.f k x0 x1 (wrap64 (t401 - t403))).bind fun bt404 => (if bt404.2 = true then (some (bt404.1, true)) else (spec_MelodyMove.l0 k x0 x1 (wrap64 (x6 + 1))))))) else (spec_MelodyMove.l0 k x0 x1 (wrap64 (x6 + 1))))) else (none)) else (some ((([] : List (S90))), false))
end
def spec_MelodyMove.f (k : Nat) (l0 : List (S90)) (a1 : Int) : Option ((List (S90)) × Bool) := if (l0.length : Int) = 0 then (some ((([] : List (S90))), true)) else ((spec_MelodyValid.f k l0).bind fun t390 => (if t390 = true then ((spec_l6In.f a1 (-20) 20).bind fun t391 => (spec_MelodyMove.j0 k l0 a1 (!t391))) else (spec_MelodyMove.j0 k l0 a1 true)))
def spec_MelodyMove.T10 : Bool × List (List Nat × List Nat) := (true, [([], []), ([], []), ([], []), ([2], [2]), ([], []), ([4], [4]), ([5], [5]), ([6, 3], [6]), ([3, 7], [3, 7]), ([0, 1, 8, 7], [0, 1, 8]), ([9], [9]), ([10], [10]), ([10], [10]), ([11, 9, 0, 1, 2, 3, 4, 5, 6, 7, 8, 9, 10, 11], [11]), ([12, 13, 0, 1, 2, 3, 4, 5, 6, 7, 8, 9, 10, 11, 12, 13], [12])])
def spec_MelodyMove.B10 : List Nat := [0, 0, 0, 4, 0, 16, 48, 124, 252, 511, 1023, 2047, 2047, 4095, 16383]
theorem spec_MelodyMove.tab10 : rtab .any (opsOf Tryd.f75 10) = spec_MelodyMove.T10 := by kernel_rfl
theorem spec_MelodyMove.bits10 : waitsOk spec_MelodyMove.T10.2 spec_MelodyMove.B10 = true := by kernel_rfl
set_option maxHeartbeats 8000000 in
set_option maxRecDepth 100000 in
theorem spec_MelodyMove.calls (k : Nat) (A0 : Option Addr) (c0 : Nat) (l0 : List (S90)) (a1 : Int) (r1 : List (S90)) (r2 : Bool) (w : World) (hr0 : Kd.C k90 w A0 l0.length l0) (hc0 : l0.length ≤ c0) (h : spec_MelodyMove.f k l0 a1 = some (r1, r2)) :
 Calls Tryd.prog 75 #[.slice A0 l0.length c0, .int .i64 a1] w fun e w' => ∃ v0_ : Value, e = .returned (.tuple #[v0_, .bool r2]) ∧ Kd.R k90 90 w' w.heap.size (fun _ => True) v0_ r1 ∧ Below w.heap.size w w' := by
 have hu90 := Tryd.underlying90; have HR0 := Z_.mk hr0; have HC0 := Z_.mk hc0; clear hr0 hc0; have HB := Z_.mk (Below.refl w.heap.size w); have H : (if (l0.length : Int) = 0 then (some ((([] : List (S90))), true)) else ((spec_MelodyValid.f k l0).bind fun t390 => (if t390 = true then ((spec_l6In.f a1 (-20) 20).bind fun t391 => (spec_MelodyMove.j0 k l0 a1 (!t391))) else (spec_MelodyMove.j0 k l0 a1 true)))) = some (r1, r2) := h; clear h; by_cases c3 : (l0.length : Int) = 0
 ·
  rw [if_pos c3] at H; have c3b0 : ((l0.length : Int) == 0) = true := beq_iff_eq.mpr c3; have c3b1 : ((l0.length : Int) != 0) = false := bne_eq_false_iff_eq.mpr c3; clear c3; obtain ⟨y387, hy387⟩ : ∃ y_ : List (S90), y_ = (([] : List (S90))) := ⟨_, rfl⟩
  replace H : (some (y387, true)) = some (r1, r2) := by first | (rw [hy387]; with_reducible exact H) | (have H2_ := (Option.bind_some _ _).symm.trans H; rw [hy387]; with_reducible exact H2_) | (have H2_ := (Option.bind_some _ _).symm.trans H; with_reducible exact H2_) | with_reducible exact H | (rw [hy387]; exact H) | exact H
  have Ny387 := Z_.mk hy387; clear hy387; simp only [Option.some.injEq, Prod.mk.injEq] at H; obtain ⟨rfl, rfl⟩ := H; go_enter Tryd.func75, Tryd.ntmps75
  go_wp2_with (first | ((with_reducible refine zr_ (N := 13) rfl ?_); refine Kd.R_lit k90 _ 90 ?hg (N := 13) ?hd (xs := ([] : List (S90))) (inner := []) (ok := fun _ => True) (okp := fun _ => True) ?hr ?hp (fun _ hk => hk) trivial (Below.refl _ _) (Nat.le_refl _) (by simp) ?_; (case hd => rfl); (case hg => rfl); (case hr => first | (go_simp; done) | (go_simp; rfl)); (case hp => exact (Reps.none _ _)); intro v388 w4 ho5 hb hg_ hnew_; clear hg_ hnew_; (first | rw [← Ny387.out] at ho5 | (simp only [Int.reduceToNat] at ho5; rw [← Ny387.out] at ho5)); have n0_ := Z_.mk (Kd.R_lower ho5 (zj_ (by repeat (first | (with_reducible first | exact HB.out | apply zc_ | apply za_ | apply zb_) | exact HB.out)))); have n1_ := Z_.mk (ze_ (by repeat (first | (with_reducible first | exact HB.out | apply zc_ | apply za_ | apply zb_) | exact HB.out)) hb); clear HB; have HO389 := n0_; have HB := n1_; clear n0_ n1_; clear hb ho5))
  go_ret2
  exact ⟨_, by first | rfl | (simp [zn_, zm_] <;> rfl) | (simp [*, zn_, zm_] <;> rfl), by (with_reducible repeat (first | apply Kd.R_alloc | apply Kd.R_drewN | apply Kd.R_drew)); exact HO389.out, by repeat (first | (with_reducible first | exact HB.out | apply zc_ | apply za_ | apply zb_) | exact HB.out)⟩
 ·
  rw [if_neg c3] at H; have c3b0 : ((l0.length : Int) == 0) = false := beq_eq_false_iff_ne.mpr c3; have c3b1 : ((l0.length : Int) != 0) = true := bne_iff_ne.mpr c3; have c3b2 : ¬ (l0 = []) := fun h_ => c3 (by rw [h_]; rfl)
  have HC6 := Z_.mk H; clear H; go_enter Tryd.func75, Tryd.ntmps75
  go_upto_region 3 with (fail)
  go_cut [21] (fun v21 wc => ∃ (kq : Nat) (x21_5 : Bool), v21 = .bool x21_5 ∧ Z_ (spec_MelodyMove.j0 kq l0 a1 x21_5 = some (r1, r2)) ∧ Z_ (kq ≤ k) ∧ Z_ (Below w.heap.size w wc))
  case first =>
   have H := HC6.out; clear HC6; replace H := Option.bind_eq_some_iff.mp H; obtain ⟨t390, A70, H⟩ := H; replace H : (if t390 = true then ((spec_l6In.f a1 (-20) 20).bind fun t391 => (spec_MelodyMove.j0 k l0 a1 (!t391))) else (spec_MelodyMove.j0 k l0 a1 true)) = some (r1, r2) := H; have A7 := Z_.mk A70; clear A70; by_cases c8 : t390 = true
   ·
    subst c8; have H1 : ((spec_l6In.f a1 (-20) 20).bind fun t391 => (spec_MelodyMove.j0 k l0 a1 (!t391))) = some (r1, r2) := by rw [if_pos rfl] at H; exact H
    clear H; have H := H1; clear H1; replace H := Option.bind_eq_some_iff.mp H; obtain ⟨t391, A90, H⟩ := H; replace H : (spec_MelodyMove.j0 k l0 a1 (!t391)) = some (r1, r2) := H; have A9 := Z_.mk A90; clear A90; have H' := Z_.mk H; clear H; go_wp2_with (first | ((with_reducible refine zp_ (f := 67) rfl ?_); refine goesL_ (some 15) rfl rfl Tryd.func67 (by kernel_rfl) rfl #[.slice A0 l0.length c0] rfl (by (try simp only [List.map_toArray, List.map_cons, List.map_nil]); first | done | rfl | (simp only [List.length_drop, List.length_take]; rfl)) ?_; (with_reducible refine (spec_MelodyValid.calls k _ _ l0 true _ ?side1 ?side2 A7.out).mono ?_); (case side1 => repeat (first | exact (Kd.C_below HR0.out HB.out) | (with_reducible refine Kd.C_alloc ?_ _) | (with_reducible refine Kd.C_drewN ?_ _) | (with_reducible refine Kd.C_drew ?_))); (case side2 => exact HC0.out); rintro e w10 ⟨rfl, hb⟩; refine ⟨_, rfl, ?_⟩; have n0_ := Z_.mk (ze_ (by repeat (first | (with_reducible first | exact HB.out | apply zc_ | apply za_ | apply zb_) | exact HB.out)) hb); clear HB; have HB := n0_; clear n0_) | (go_at_call 89; (with_reducible refine (spec_l6In.calls a1 (-20) 20 t391 _ A9.out).mono ?_); rintro e w' ⟨rfl, ⟨nd, rfl⟩⟩))
    go_meet
    case rel => exact ⟨_, (!t391), (by first | rfl | (simp; done) | (simp [*]; done)), H', ⟨by first | omega | exact Nat.le_refl _⟩, ⟨by repeat (first | (with_reducible first | exact HB.out | apply zc_ | apply za_ | apply zb_) | exact HB.out)⟩⟩
   ·
    replace c8 := Bool.eq_false_iff.mpr c8; subst c8; have H1 : (spec_MelodyMove.j0 k l0 a1 true) = some (r1, r2) := by rw [if_neg (show ¬ (false = true) by decide)] at H; exact H
    clear H; have H := H1; clear H1; have H' := Z_.mk H; clear H; go_wp2_with (first | ((with_reducible refine zp_ (f := 67) rfl ?_); refine goesL_ (some 15) rfl rfl Tryd.func67 (by kernel_rfl) rfl #[.slice A0 l0.length c0] rfl (by (try simp only [List.map_toArray, List.map_cons, List.map_nil]); first | done | rfl | (simp only [List.length_drop, List.length_take]; rfl)) ?_; (with_reducible refine (spec_MelodyValid.calls k _ _ l0 false _ ?side1 ?side2 A7.out).mono ?_); (case side1 => repeat (first | exact (Kd.C_below HR0.out HB.out) | (with_reducible refine Kd.C_alloc ?_ _) | (with_reducible refine Kd.C_drewN ?_ _) | (with_reducible refine Kd.C_drew ?_))); (case side2 => exact HC0.out); rintro e w11 ⟨rfl, hb⟩; refine ⟨_, rfl, ?_⟩; have n0_ := Z_.mk (ze_ (by repeat (first | (with_reducible first | exact HB.out | apply zc_ | apply za_ | apply zb_) | exact HB.out)) hb); clear HB; have HB := n0_; clear n0_))
    go_meet
    case rel => exact ⟨_, (true), (by first | rfl | (simp; done) | (simp [*]; done)), H', ⟨by first | omega | exact Nat.le_refl _⟩, ⟨by repeat (first | (with_reducible first | exact HB.out | apply zc_ | apply za_ | apply zb_) | exact HB.out)⟩⟩
  case rest =>
   clear HC6; try clear p2
   try clear c3
   try clear c3b0
   try clear c3b1
   try clear c3b2
   try clear c6
   try clear c7
   try clear c8
   obtain ⟨kq, x21_5, rfl, HA, HJ5, HB⟩ := hcut; cases kq with
   | zero => exact absurd HA.out (by simp [spec_MelodyMove.j0])
   | succ kj5 =>
    have H := HA.out; clear HA; simp only [spec_MelodyMove.j0] at H; by_cases c12 : x21_5 = true
    ·
     subst c12; have H1 : (some ((([] : List (S90))), false)) = some (r1, r2) := by rw [if_pos rfl] at H; exact H
     clear H; have H := H1; clear H1; obtain ⟨y392, hy392⟩ : ∃ y_ : List (S90), y_ = (([] : List (S90))) := ⟨_, rfl⟩
     replace H : (some (y392, false)) = some (r1, r2) := by first | (rw [hy392]; with_reducible exact H) | (have H2_ := (Option.bind_some _ _).symm.trans H; rw [hy392]; with_reducible exact H2_) | (have H2_ := (Option.bind_some _ _).symm.trans H; with_reducible exact H2_) | with_reducible exact H | (rw [hy392]; exact H) | exact H
     have Ny392 := Z_.mk hy392; clear hy392; simp only [Option.some.injEq, Prod.mk.injEq] at H; obtain ⟨rfl, rfl⟩ := H; go_wp2_with (first | ((with_reducible refine zr_ (N := 22) rfl ?_); refine Kd.R_lit k90 _ 90 ?hg (N := 22) ?hd (xs := ([] : List (S90))) (inner := []) (ok := fun _ => True) (okp := fun _ => True) ?hr ?hp (fun _ hk => hk) trivial (Below.refl _ _) (Nat.le_refl _) (by simp) ?_; (case hd => rfl); (case hg => rfl); (case hr => first | (go_simp; done) | (go_simp; rfl)); (case hp => exact (Reps.none _ _)); intro v393 w13 ho14 hb hg_ hnew_; clear hg_ hnew_; (first | rw [← Ny392.out] at ho14 | (simp only [Int.reduceToNat] at ho14; rw [← Ny392.out] at ho14)); have n0_ := Z_.mk (Kd.R_lower ho14 (zj_ (by repeat (first | (with_reducible first | exact HB.out | apply zc_ | apply za_ | apply zb_) | exact HB.out)))); have n1_ := Z_.mk (ze_ (by repeat (first | (with_reducible first | exact HB.out | apply zc_ | apply za_ | apply zb_) | exact HB.out)) hb); clear HB; have HO394 := n0_; have HB := n1_; clear n0_ n1_; clear hb ho14))
     go_ret2
     exact ⟨_, by first | rfl | (simp [zn_, zm_] <;> rfl) | (simp [*, zn_, zm_] <;> rfl), by (with_reducible repeat (first | apply Kd.R_alloc | apply Kd.R_drewN | apply Kd.R_drew)); exact HO394.out, by repeat (first | (with_reducible first | exact HB.out | apply zc_ | apply za_ | apply zb_) | exact HB.out)⟩
    ·
     replace c12 := Bool.eq_false_iff.mpr c12; subst c12; have H1 : (spec_MelodyMove.l0 kj5 l0 a1 0) = some (r1, r2) := by rw [if_neg (show ¬ (false = true) by decide)] at H; exact H
     clear H; have H := H1; clear H1; have H' := Z_.mk H; clear H; go_wp2; go_loopg [6] kj5 (fun kq v6 w' => ∃ (x6_2 : Int), v6 = .int .i64 x6_2 ∧ Z_ (spec_MelodyMove.l0 kq l0 a1 x6_2 = some (r1, r2)) ∧ Z_ (kq ≤ kj5) ∧ Z_ (Below w.heap.size w w'))
     case atStart => exact ⟨(0), (by first | rfl | (simp; done) | (simp [*]; done)), H', ⟨Nat.le_refl _⟩, ⟨by repeat (first | (with_reducible first | exact HB.out | apply zc_ | apply za_ | apply zb_) | exact HB.out)⟩⟩
     case round =>
      clear H'; try clear c1
      try clear p2
      try clear c3
      try clear c3b0
      try clear c3b1
      try clear c3b2
      try clear c6
      try clear c7
      try clear c8
      try clear c12
      try clear p2
      obtain ⟨x6_2, rfl, HA, HK2, HB⟩ := hrel; cases gk with
      | zero => exact absurd HA.out (by simp [spec_MelodyMove.l0])
      | succ k2 =>
       have H := HA.out; clear HA; simp only [spec_MelodyMove.l0] at H; by_cases c15 : x6_2 < 2
       ·
        rw [if_pos c15] at H; have c15b0 : decide (x6_2 < 2) = true := decide_eq_true c15; clear c15; by_cases c16 : 0 < (l0.length : Int)
        ·
         rw [if_pos c16] at H; have c16b0 : decide (0 < (l0.length : Int)) = true := decide_eq_true c16; have c16b1 : decide (0 < l0.length) = true := decide_eq_true (by omega); clear c16; replace H := Option.bind_eq_some_iff.mp H; obtain ⟨t400, A170, H⟩ := H; replace H : (if t400 = true then ((spec_l1Height.f (wrap64 (((rd_T90 l0 0).f0) + a1)) (x6_2 == 1)).bind fun t401 => ((spec_l1Height.f ((rd_T90 l0 0).f0) ((rd_T90 l0 0).f1)).bind fun t403 => ((spec_l2Moved.f k2 l0 a1 (wrap64 (t401 - t403))).bind fun bt404 => (if bt404.2 = true then (some (bt404.1, true)) else (spec_MelodyMove.l0 k2 l0 a1 (wrap64 (x6_2 + 1))))))) else (spec_MelodyMove.l0 k2 l0 a1 (wrap64 (x6_2 + 1)))) = some (r1, r2) := H; have A17 := Z_.mk A170; clear A170; by_cases c18 : t400 = true
         ·
          subst c18; have H1 : ((spec_l1Height.f (wrap64 (((rd_T90 l0 0).f0) + a1)) (x6_2 == 1)).bind fun t401 => ((spec_l1Height.f ((rd_T90 l0 0).f0) ((rd_T90 l0 0).f1)).bind fun t403 => ((spec_l2Moved.f k2 l0 a1 (wrap64 (t401 - t403))).bind fun bt404 => (if bt404.2 = true then (some (bt404.1, true)) else (spec_MelodyMove.l0 k2 l0 a1 (wrap64 (x6_2 + 1))))))) = some (r1, r2) := by rw [if_pos rfl] at H; exact H
          clear H; have H := H1; clear H1; replace H := Option.bind_eq_some_iff.mp H; obtain ⟨t401, A190, H⟩ := H; replace H : ((spec_l1Height.f ((rd_T90 l0 0).f0) ((rd_T90 l0 0).f1)).bind fun t403 => ((spec_l2Moved.f k2 l0 a1 (wrap64 (t401 - t403))).bind fun bt404 => (if bt404.2 = true then (some (bt404.1, true)) else (spec_MelodyMove.l0 k2 l0 a1 (wrap64 (x6_2 + 1)))))) = some (r1, r2) := H; have A19 := Z_.mk A190; clear A190; replace H := Option.bind_eq_some_iff.mp H; obtain ⟨t403, A200, H⟩ := H; replace H : ((spec_l2Moved.f k2 l0 a1 (wrap64 (t401 - t403))).bind fun bt404 => (if bt404.2 = true then (some (bt404.1, true)) else (spec_MelodyMove.l0 k2 l0 a1 (wrap64 (x6_2 + 1))))) = some (r1, r2) := H; have A20 := Z_.mk A200; clear A200; replace H := Option.bind_eq_some_iff.mp H; obtain ⟨⟨t404, t405⟩, A210, H⟩ := H; replace H : (if t405 = true then (some (t404, true)) else (spec_MelodyMove.l0 k2 l0 a1 (wrap64 (x6_2 + 1)))) = some (r1, r2) := H; have A21 := Z_.mk A210; clear A210; by_cases c22 : t405 = true
          ·
           subst c22; have H1 : (some (t404, true)) = some (r1, r2) := by rw [if_pos rfl] at H; exact H
           clear H; have H := H1; clear H1; simp only [Option.some.injEq, Prod.mk.injEq] at H; obtain ⟨rfl, rfl⟩ := H; have p398 : 0 ≤ (0 : Int) := (by omega)
           have q398 : 0 < (l0.length : Int) := of_decide_eq_true (by first | (with_reducible assumption) | assumption); obtain ⟨ad398, e398, hx398_0, hx398_1⟩ := at_T90 HR0.out 0 p398 q398; cases e398; have qi398 : (0 < l0.length) = True := eq_true (by omega); (try rw [show ((0 : Int)).toNat = 0 from rfl] at hx398_0)
           (try rw [show 0 * 2 = 0 from rfl] at hx398_0)
           (try rw [Addr.add_zero'] at hx398_0)
           (try rw [show ((0 : Int)).toNat = 0 from rfl] at hx398_1)
           (try rw [show 0 * 2 = 0 from rfl] at hx398_1)
           (try rw [Addr.add_zero'] at hx398_1)
           replace hx398_0 := (HB.out.cell (bl_ w _ hx398_0)).trans hx398_0; replace hx398_1 := (HB.out.cell (bl_ w _ hx398_1)).trans hx398_1; replace p398 := eq_true p398; replace q398 := eq_true q398; try go_wp2_with (first | ((with_reducible refine zr_ (N := 7) rfl ?_); refine box_event ?hg (N := 7) ?hd (cs := #[.int .i64 0, .bool false]) (t := 90) ?hr ?_; (case hd => rfl); (case hg => rfl); (case hr => first | (go_simp; done) | (go_simp; rfl)); intro gb399 hg w23 hbox hb; have n0_ := Z_.mk (ze_ (by repeat (first | (with_reducible first | exact HB.out | apply zc_ | apply za_ | apply zb_) | exact HB.out)) hb); have n1_ := Z_.mk (hbox); have n2_ := Z_.mk ((by rw [hg]; exact (zj_ (by repeat (first | (with_reducible first | exact HB.out | apply zc_ | apply za_ | apply zb_) | exact HB.out))) : w.heap.size ≤ gb399)); have n3_ := Z_.mk ((by rw [hg]; exact (zj_ (by repeat (first | (with_reducible first | exact HB.out | apply zc_ | apply za_ | apply zb_) | exact HB.out))) : w.heap.size ≤ gb399)); clear HB; have HB := n0_; have BK399 := n1_; have GW399 := n2_; have GE399 := n3_; clear n0_ n1_ n2_ n3_; clear hb hbox hg; have hcz24_0 : w23.cell? ⟨gb399, 0, none⟩ = some (.int .i64 0) := (zg_ BK399.out 0).trans rfl; have hcz24_1 : w23.cell? ⟨gb399, 1, none⟩ = some (.bool false) := (zg_ BK399.out 1).trans rfl; have hfz24_0 := zi_ BK399.out 0; have hfz24_1 := zi_ BK399.out 1) | ((with_reducible refine zp_ (f := 92) rfl ?_); refine goesL_ (some 37) rfl rfl Tryd.func92 (by kernel_rfl) rfl #[.agg #[.int .i64 (wrap64 (((rd_T90 l0 0).f0) + a1)), .bool (x6_2 == 1)]] rfl (by (try simp only [List.map_toArray, List.map_cons, List.map_nil]); first | done | rfl | (simp only [List.length_drop, List.length_take]; rfl)) ?_; (with_reducible refine (spec_ToneValid.calls (wrap64 (((rd_T90 l0 0).f0) + a1)) (x6_2 == 1) true _ A17.out).mono ?_); rintro e w25 ⟨rfl, hb⟩; refine ⟨_, rfl, ?_⟩; have n0_ := Z_.mk (zq_ (g := gb399) (o := .cells #[.int .i64 (wrap64 (((rd_T90 l0 0).f0) + a1)), .bool (x6_2 == 1)] 90 (0, 0)) (by (with_reducible repeat (first | refine zf_ ?_ _ | refine zh_ ?_ | refine blk_alloc ?_ _)); refine blk_put (cs := #[.int .i64 (wrap64 (((rd_T90 l0 0).f0) + a1)), .bool false]) ?_ 1 _ rfl; (with_reducible repeat (first | refine zf_ ?_ _ | refine zh_ ?_ | refine blk_alloc ?_ _)); refine blk_put (cs := #[.int .i64 0, .bool false]) ?_ 0 _ rfl; (with_reducible repeat (first | refine zf_ ?_ _ | refine zh_ ?_ | refine blk_alloc ?_ _)); exact BK399.out) hb); have n1_ := Z_.mk (ze_ (by repeat (first | (with_reducible first | exact HB.out | apply zc_ | apply za_ | apply zb_ | refine zd_ ?_ GE399.out) | exact HB.out)) hb); clear BK399; clear HB; have BK399 := n0_; have HB := n1_; clear n0_ n1_))
           have n0_ := Z_.mk (zh_ BK399.out); have n1_ := Z_.mk (zb_ HB.out); clear BK399; clear HB; have BK399 := n0_; have HB := n1_; clear n0_ n1_; have p402 : 0 ≤ (0 : Int) := (by omega)
           have q402 : 0 < (l0.length : Int) := of_decide_eq_true (by first | (with_reducible assumption) | assumption); obtain ⟨ad402, e402, hx402_0, hx402_1⟩ := at_T90 HR0.out 0 p402 q402; have hw402_1 := hx402_1; (try rw [show ((0 : Int)).toNat = 0 from rfl] at hw402_1)
           (try rw [show 0 * 2 = 0 from rfl] at hw402_1)
           (try rw [Addr.add_zero'] at hw402_1)
           have hw402_0 := hx402_0; (try rw [show ((0 : Int)).toNat = 0 from rfl] at hw402_0)
           (try rw [show 0 * 2 = 0 from rfl] at hw402_0)
           (try rw [Addr.add_zero'] at hw402_0)
           obtain rfl : ad398 = ad402 := (by injection e402)
           have qi402 : (0 < l0.length) = True := eq_true (by omega); (try rw [show ((0 : Int)).toNat = 0 from rfl] at hx402_0)
           (try rw [show 0 * 2 = 0 from rfl] at hx402_0)
           (try rw [Addr.add_zero'] at hx402_0)
           (try rw [show ((0 : Int)).toNat = 0 from rfl] at hx402_1)
           (try rw [show 0 * 2 = 0 from rfl] at hx402_1)
           (try rw [Addr.add_zero'] at hx402_1)
           replace hx402_0 := (HB.out.cell (bl_ w _ hx402_0)).trans hx402_0; replace hx402_1 := (HB.out.cell (bl_ w _ hx402_1)).trans hx402_1; replace p402 := eq_true p402; replace q402 := eq_true q402; refine start_ (n := 15) (S := fun w' => w'.cell? ⟨gb399, 0, none⟩ = some (.int .i64 (wrap64 (((rd_T90 l0 0).f0) + a1))) ∧ w'.cell? ⟨gb399, 1, none⟩ = some (.bool (x6_2 == 1)) ∧ w'.cell? ad398 = some (.int .i64 ((rd_T90 l0 0).f0)) ∧ w'.cell? ⟨ad398.block, ad398.off + 1, none⟩ = some (.bool ((rd_T90 l0 0).f1))) (ds := []) (rowB 15 0) (by kernel_rfl) rfl rfl ⟨(zg_ BK399.out 0).trans rfl, (zg_ BK399.out 1).trans rfl, ((HB.out.cell (bl_ w _ hw402_0)).trans hw402_0), ((HB.out.cell (bl_ w _ hw402_1)).trans hw402_1)⟩ (fun hHeld => ?_); refine with_tabW spec_MelodyMove.tab10 spec_MelodyMove.bits10 (fun HT_ HW_ => ?_); generalize w25.drew = w26 at BK399 HB hx402_0 hx402_1 hHeld ⊢; refine pure_ (i := 0) (N := some 40) (v := ?_) (a' := ?_) (rowB 15 1) rfl rfl (any_of HT_.out (by kernel_rfl)) (fun _ _ _ h => h) (Or.inl ⟨by rfl, ?_⟩) ?_ ?_; rotate_left; (· intro w'; go_simp; with_reducible rfl); rotate_left; (· simp only [Act.put, y1_, y2_, y3_, i64_w, i32_w]; rfl); refine pure_ (i := 1) (N := some 41) (v := ?_) (a' := ?_) (rowB 15 3) rfl rfl (any_of HT_.out (by kernel_rfl)) (fun _ _ _ h => h) (Or.inl ⟨by rfl, ?_⟩) ?_ ?_; rotate_left; (· intro w'; go_simp; with_reducible rfl); rotate_left; (· simp only [Act.put, y1_, y2_, y3_, i64_w, i32_w]; rfl); refine pure_ (i := 4) (N := some 44) (v := ?_) (a' := ?_) (rowB 15 19) rfl rfl (any_of HT_.out (by kernel_rfl)) (fun _ _ _ h => h) (Or.inl ⟨by rfl, ?_⟩) ?_ ?_; rotate_left; (· intro w'; go_simp; with_reducible rfl); rotate_left; (· simp only [Act.put, y1_, y2_, y3_, i64_w, i32_w]; rfl); refine pure_ (i := 5) (N := some 45) (v := ?_) (a' := ?_) (rowB 15 51) rfl rfl (any_of HT_.out (by kernel_rfl)) (fun _ _ _ h => h) (Or.inl ⟨by rfl, ?_⟩) ?_ ?_; rotate_left; (· intro w'; go_simp; with_reducible rfl); rotate_left; (· simp only [Act.put, y1_, y2_, y3_, i64_w, i32_w]; rfl); refine take_ (i := 2) (N := some 42) (v := ?_) (a' := ?_) (rowB 15 55) rfl rfl (take_ofW HT_.out HW_.out (by kernel_rfl)) (fun _ _ _ h => h) (Or.inl ⟨by rfl, ?_⟩) hHeld ?_ ?_; rotate_left; (· rintro w' ⟨s0, s1, s2, s3⟩; go_simp; with_reducible rfl); rotate_left; (· simp only [Act.put, y1_, y2_, y3_, i64_w, i32_w]; rfl); refine take_ (i := 6) (N := some 46) (v := ?_) (a' := ?_) (rowB 15 119) rfl rfl (take_ofW HT_.out HW_.out (by kernel_rfl)) (fun _ _ _ h => h) (Or.inl ⟨by rfl, ?_⟩) hHeld ?_ ?_; rotate_left; (· rintro w' ⟨s0, s1, s2, s3⟩; go_simp; with_reducible rfl); rotate_left; (· simp only [Act.put, y1_, y2_, y3_, i64_w, i32_w]; rfl); refine one_ (i := 3) (N := some 43) (rowB 15 127) rfl rfl (one_of HT_.out (by kernel_rfl)) (by decide) (fun K hK => ?_); refine goes_ Tryd.func101 (by kernel_rfl) rfl #[.agg #[.int .i64 (wrap64 (((rd_T90 l0 0).f0) + a1)), .bool (x6_2 == 1)]] (by rfl) rfl rfl (by (try simp only [List.map_toArray, List.map_cons, List.map_nil]); first | done | rfl | (simp only [List.length_drop, List.length_take]; rfl)) ?_; with_reducible refine (spec_l1Height.calls (wrap64 (((rd_T90 l0 0).f0) + a1)) (x6_2 == 1) t401 _ A19.out).mono ?_
           rintro e w27 ⟨rfl, hb⟩; refine ⟨_, rfl, ?_⟩; have n0_ := Z_.mk (zq_ (g := gb399) (o := .cells #[.int .i64 (wrap64 (((rd_T90 l0 0).f0) + a1)), .bool (x6_2 == 1)] 90 (0, 0)) (by (with_reducible repeat (first | refine zf_ ?_ _ | refine zh_ ?_ | refine blk_alloc ?_ _)); exact BK399.out) hb); have n1_ := Z_.mk (ze_ (by repeat (first | (with_reducible first | exact HB.out | apply zc_ | apply za_ | apply zb_ | refine zd_ ?_ GE399.out) | exact HB.out)) hb); clear BK399; clear HB; have BK399 := n0_; have HB := n1_; clear n0_ n1_; (try clear hb)
           (try clear hb2)
           (try clear hk)
           (try clear hi)
           refine hK.out _ _ ⟨(zg_ BK399.out 0).trans rfl, (zg_ BK399.out 1).trans rfl, ((HB.out.cell (bl_ w _ hw402_0)).trans hw402_0), ((HB.out.cell (bl_ w _ hw402_1)).trans hw402_1)⟩ (fun hHeld => ?_); clear hK K; refine norm_ (a' := ?_) ?_ ?_; rotate_left; (· show Act.put _ (some 43) _ = _; simp only [Act.put, y1_, y2_, y3_, i64_w, i32_w]; rfl); refine one_ (i := 7) (N := some 47) (rowB 15 255) rfl rfl (one_of HT_.out (by kernel_rfl)) (by decide) (fun K hK => ?_); refine goes_ Tryd.func101 (by kernel_rfl) rfl #[.agg #[.int .i64 ((rd_T90 l0 0).f0), .bool ((rd_T90 l0 0).f1)]] (by rfl) rfl rfl (by (try simp only [List.map_toArray, List.map_cons, List.map_nil]); first | done | rfl | (simp only [List.length_drop, List.length_take]; rfl)) ?_; with_reducible refine (spec_l1Height.calls ((rd_T90 l0 0).f0) ((rd_T90 l0 0).f1) t403 _ A20.out).mono ?_
           rintro e w28 ⟨rfl, hb⟩; refine ⟨_, rfl, ?_⟩; have n0_ := Z_.mk (zq_ (g := gb399) (o := .cells #[.int .i64 (wrap64 (((rd_T90 l0 0).f0) + a1)), .bool (x6_2 == 1)] 90 (0, 0)) (by (with_reducible repeat (first | refine zf_ ?_ _ | refine zh_ ?_ | refine blk_alloc ?_ _)); exact BK399.out) hb); have n1_ := Z_.mk (ze_ (by repeat (first | (with_reducible first | exact HB.out | apply zc_ | apply za_ | apply zb_ | refine zd_ ?_ GE399.out) | exact HB.out)) hb); clear BK399; clear HB; have BK399 := n0_; have HB := n1_; clear n0_ n1_; (try clear hb)
           (try clear hb2)
           (try clear hk)
           (try clear hi)
           refine hK.out _ _ ⟨(zg_ BK399.out 0).trans rfl, (zg_ BK399.out 1).trans rfl, ((HB.out.cell (bl_ w _ hw402_0)).trans hw402_0), ((HB.out.cell (bl_ w _ hw402_1)).trans hw402_1)⟩ (fun hHeld => ?_); clear hK K; refine norm_ (a' := ?_) ?_ ?_; rotate_left; (· show Act.put _ (some 47) _ = _; simp only [Act.put, y1_, y2_, y3_, i64_w, i32_w]; rfl); refine pure_ (i := 8) (N := some 48) (v := ?_) (a' := ?_) (rowB 15 511) rfl rfl (any_of HT_.out (by kernel_rfl)) (fun _ _ _ h => h) (Or.inl ⟨by rfl, ?_⟩) ?_ ?_; rotate_left; (· intro w'; go_simp; with_reducible rfl); rotate_left; (· simp only [Act.put, y1_, y2_, y3_, i64_w, i32_w]; rfl); refine one_ (i := 9) (N := some 49) (rowB 15 1023) rfl rfl (one_of HT_.out (by kernel_rfl)) (by decide) (fun K hK => ?_); refine goes_ Tryd.func100 (by kernel_rfl) rfl #[.slice (some ad398) l0.length c0, .int .i64 a1, .int .i64 (wrap64 (t401 - t403))] (by rfl) rfl rfl (by (try simp only [List.map_toArray, List.map_cons, List.map_nil]); first | done | rfl | (simp only [List.length_drop, List.length_take]; rfl)) ?_; with_reducible refine (spec_l2Moved.calls k2 _ _ l0 a1 (wrap64 (t401 - t403)) t404 true _ ?side1 ?side2 A21.out).mono ?_
           (case side1 => repeat (first | exact (Kd.C_below HR0.out HB.out) | (with_reducible refine Kd.C_alloc ?_ _) | (with_reducible refine Kd.C_drewN ?_ _) | (with_reducible refine Kd.C_drew ?_)))
           (case side2 => exact HC0.out)
           rintro e w29 ⟨v406, rfl, ho0, hb⟩; refine ⟨_, rfl, ?_⟩; have n0_ := Z_.mk (Kd.R_lower (Kd.R_newB ho0 (g := gb399) (o := .cells #[.int .i64 (wrap64 (((rd_T90 l0 0).f0) + a1)), .bool (x6_2 == 1)] 90 (0, 0)) (by (with_reducible repeat (first | refine zf_ ?_ _ | refine zh_ ?_ | refine blk_alloc ?_ _)); exact BK399.out)) (zj_ (by repeat (first | (with_reducible first | exact HB.out | apply zc_ | apply za_ | apply zb_ | refine zd_ ?_ GE399.out) | exact HB.out)))); have n1_ := Z_.mk (zq_ (g := gb399) (o := .cells #[.int .i64 (wrap64 (((rd_T90 l0 0).f0) + a1)), .bool (x6_2 == 1)] 90 (0, 0)) (by (with_reducible repeat (first | refine zf_ ?_ _ | refine zh_ ?_ | refine blk_alloc ?_ _)); exact BK399.out) hb); have n2_ := Z_.mk (ze_ (by repeat (first | (with_reducible first | exact HB.out | apply zc_ | apply za_ | apply zb_ | refine zd_ ?_ GE399.out) | exact HB.out)) hb); clear BK399; clear HB; have HO407 := n0_; have BK399 := n1_; have HB := n2_; clear n0_ n1_ n2_; (try clear hb)
           (try clear hb2)
           (try clear hk)
           (try clear hi)
           (try clear ho0)
           refine hK.out _ _ ⟨(zg_ BK399.out 0).trans rfl, (zg_ BK399.out 1).trans rfl, ((HB.out.cell (bl_ w _ hw402_0)).trans hw402_0), ((HB.out.cell (bl_ w _ hw402_1)).trans hw402_1)⟩ (fun hHeld => ?_); clear hK K; refine norm_ (a' := ?_) ?_ ?_; rotate_left; (· show Act.put _ (some 49) _ = _; simp only [Act.put, y1_, y2_, y3_, i64_w, i32_w]; rfl); refine pure_ (i := 10) (N := some 39) (v := ?_) (a' := ?_) (rowB 15 2047) rfl rfl (any_of HT_.out (by kernel_rfl)) (fun _ _ _ h => h) (Or.inl ⟨by rfl, ?_⟩) ?_ ?_; rotate_left; (· intro w'; go_simp; with_reducible rfl); rotate_left; (· simp only [Act.put, y1_, y2_, y3_, i64_w, i32_w]; rfl); refine pure_ (i := 11) (N := some 50) (v := ?_) (a' := ?_) (rowB 15 4095) rfl rfl (any_of HT_.out (by kernel_rfl)) (fun _ _ _ h => h) (Or.inl ⟨by rfl, ?_⟩) ?_ ?_; rotate_left; (· intro w'; go_simp; with_reducible rfl); rotate_left; (· simp only [Act.put, y1_, y2_, y3_, i64_w, i32_w]; rfl); refine pure_ (i := 12) (N := some 51) (v := ?_) (a' := ?_) (rowB 15 8191) rfl rfl (any_of HT_.out (by kernel_rfl)) (fun _ _ _ h => h) (Or.inl ⟨by rfl, ?_⟩) ?_ ?_; rotate_left; (· intro w'; go_simp; with_reducible rfl); rotate_left; (· simp only [Act.put, y1_, y2_, y3_, i64_w, i32_w]; rfl); refine pure_ (i := 13) (N := some 8) (v := ?_) (a' := ?_) (rowB 15 16383) rfl rfl (any_of HT_.out (by kernel_rfl)) (fun _ _ _ h => h) (Or.inl ⟨by rfl, ?_⟩) ?_ ?_; rotate_left; (· intro w'; go_simp; with_reducible rfl); rotate_left; (· simp only [Act.put, y1_, y2_, y3_, i64_w, i32_w]; rfl); refine pure_ (i := 14) (N := some 9) (v := ?_) (a' := ?_) (rowB 15 32767) rfl rfl (any_of HT_.out (by kernel_rfl)) (fun _ _ _ h => h) (Or.inl ⟨by rfl, ?_⟩) ?_ ?_; rotate_left; (· intro w'; go_simp; with_reducible rfl); rotate_left; (· simp only [Act.put, y1_, y2_, y3_, i64_w, i32_w]; rfl); refine done_ (done_of HT_.out (by kernel_rfl)) ?_; try go_wp2
           go_ret2
           exact ⟨_, by first | rfl | (simp [zn_, zm_] <;> rfl) | (simp [*, zn_, zm_] <;> rfl), by (with_reducible repeat (first | apply Kd.R_alloc | apply Kd.R_drewN | apply Kd.R_drew)); exact Kd.R_mono HO407.out (fun _ hk => trivial), by repeat (first | (with_reducible first | exact HB.out | apply zc_ | apply za_ | apply zb_ | refine zd_ ?_ GE399.out) | exact HB.out)⟩
          ·
           replace c22 := Bool.eq_false_iff.mpr c22; subst c22; have H1 : (spec_MelodyMove.l0 k2 l0 a1 (wrap64 (x6_2 + 1))) = some (r1, r2) := by rw [if_neg (show ¬ (false = true) by decide)] at H; exact H
           clear H; have H := H1; clear H1; have H' := Z_.mk H; clear H; have p398 : 0 ≤ (0 : Int) := (by omega)
           have q398 : 0 < (l0.length : Int) := of_decide_eq_true (by first | (with_reducible assumption) | assumption); obtain ⟨ad398, e398, hx398_0, hx398_1⟩ := at_T90 HR0.out 0 p398 q398; cases e398; have qi398 : (0 < l0.length) = True := eq_true (by omega); (try rw [show ((0 : Int)).toNat = 0 from rfl] at hx398_0)
           (try rw [show 0 * 2 = 0 from rfl] at hx398_0)
           (try rw [Addr.add_zero'] at hx398_0)
           (try rw [show ((0 : Int)).toNat = 0 from rfl] at hx398_1)
           (try rw [show 0 * 2 = 0 from rfl] at hx398_1)
           (try rw [Addr.add_zero'] at hx398_1)
           replace hx398_0 := (HB.out.cell (bl_ w _ hx398_0)).trans hx398_0; replace hx398_1 := (HB.out.cell (bl_ w _ hx398_1)).trans hx398_1; replace p398 := eq_true p398; replace q398 := eq_true q398; try go_wp2_with (first | ((with_reducible refine zr_ (N := 7) rfl ?_); refine box_event ?hg (N := 7) ?hd (cs := #[.int .i64 0, .bool false]) (t := 90) ?hr ?_; (case hd => rfl); (case hg => rfl); (case hr => first | (go_simp; done) | (go_simp; rfl)); intro gb399 hg w30 hbox hb; have n0_ := Z_.mk (ze_ (by repeat (first | (with_reducible first | exact HB.out | apply zc_ | apply za_ | apply zb_) | exact HB.out)) hb); have n1_ := Z_.mk (hbox); have n2_ := Z_.mk ((by rw [hg]; exact (zj_ (by repeat (first | (with_reducible first | exact HB.out | apply zc_ | apply za_ | apply zb_) | exact HB.out))) : w.heap.size ≤ gb399)); have n3_ := Z_.mk ((by rw [hg]; exact (zj_ (by repeat (first | (with_reducible first | exact HB.out | apply zc_ | apply za_ | apply zb_) | exact HB.out))) : w.heap.size ≤ gb399)); clear HB; have HB := n0_; have BK399 := n1_; have GW399 := n2_; have GE399 := n3_; clear n0_ n1_ n2_ n3_; clear hb hbox hg; have hcz31_0 : w30.cell? ⟨gb399, 0, none⟩ = some (.int .i64 0) := (zg_ BK399.out 0).trans rfl; have hcz31_1 : w30.cell? ⟨gb399, 1, none⟩ = some (.bool false) := (zg_ BK399.out 1).trans rfl; have hfz31_0 := zi_ BK399.out 0; have hfz31_1 := zi_ BK399.out 1) | ((with_reducible refine zp_ (f := 92) rfl ?_); refine goesL_ (some 37) rfl rfl Tryd.func92 (by kernel_rfl) rfl #[.agg #[.int .i64 (wrap64 (((rd_T90 l0 0).f0) + a1)), .bool (x6_2 == 1)]] rfl (by (try simp only [List.map_toArray, List.map_cons, List.map_nil]); first | done | rfl | (simp only [List.length_drop, List.length_take]; rfl)) ?_; (with_reducible refine (spec_ToneValid.calls (wrap64 (((rd_T90 l0 0).f0) + a1)) (x6_2 == 1) true _ A17.out).mono ?_); rintro e w32 ⟨rfl, hb⟩; refine ⟨_, rfl, ?_⟩; have n0_ := Z_.mk (zq_ (g := gb399) (o := .cells #[.int .i64 (wrap64 (((rd_T90 l0 0).f0) + a1)), .bool (x6_2 == 1)] 90 (0, 0)) (by (with_reducible repeat (first | refine zf_ ?_ _ | refine zh_ ?_ | refine blk_alloc ?_ _)); refine blk_put (cs := #[.int .i64 (wrap64 (((rd_T90 l0 0).f0) + a1)), .bool false]) ?_ 1 _ rfl; (with_reducible repeat (first | refine zf_ ?_ _ | refine zh_ ?_ | refine blk_alloc ?_ _)); refine blk_put (cs := #[.int .i64 0, .bool false]) ?_ 0 _ rfl; (with_reducible repeat (first | refine zf_ ?_ _ | refine zh_ ?_ | refine blk_alloc ?_ _)); exact BK399.out) hb); have n1_ := Z_.mk (ze_ (by repeat (first | (with_reducible first | exact HB.out | apply zc_ | apply za_ | apply zb_ | refine zd_ ?_ GE399.out) | exact HB.out)) hb); clear BK399; clear HB; have BK399 := n0_; have HB := n1_; clear n0_ n1_))
           have n0_ := Z_.mk (zh_ BK399.out); have n1_ := Z_.mk (zb_ HB.out); clear BK399; clear HB; have BK399 := n0_; have HB := n1_; clear n0_ n1_; have p402 : 0 ≤ (0 : Int) := (by omega)
           have q402 : 0 < (l0.length : Int) := of_decide_eq_true (by first | (with_reducible assumption) | assumption); obtain ⟨ad402, e402, hx402_0, hx402_1⟩ := at_T90 HR0.out 0 p402 q402; have hw402_1 := hx402_1; (try rw [show ((0 : Int)).toNat = 0 from rfl] at hw402_1)
           (try rw [show 0 * 2 = 0 from rfl] at hw402_1)
           (try rw [Addr.add_zero'] at hw402_1)
           have hw402_0 := hx402_0; (try rw [show ((0 : Int)).toNat = 0 from rfl] at hw402_0)
           (try rw [show 0 * 2 = 0 from rfl] at hw402_0)
           (try rw [Addr.add_zero'] at hw402_0)
           obtain rfl : ad398 = ad402 := (by injection e402)
           have qi402 : (0 < l0.length) = True := eq_true (by omega); (try rw [show ((0 : Int)).toNat = 0 from rfl] at hx402_0)
           (try rw [show 0 * 2 = 0 from rfl] at hx402_0)
           (try rw [Addr.add_zero'] at hx402_0)
           (try rw [show ((0 : Int)).toNat = 0 from rfl] at hx402_1)
           (try rw [show 0 * 2 = 0 from rfl] at hx402_1)
           (try rw [Addr.add_zero'] at hx402_1)
           replace hx402_0 := (HB.out.cell (bl_ w _ hx402_0)).trans hx402_0; replace hx402_1 := (HB.out.cell (bl_ w _ hx402_1)).trans hx402_1; replace p402 := eq_true p402; replace q402 := eq_true q402; refine start_ (n := 15) (S := fun w' => w'.cell? ⟨gb399, 0, none⟩ = some (.int .i64 (wrap64 (((rd_T90 l0 0).f0) + a1))) ∧ w'.cell? ⟨gb399, 1, none⟩ = some (.bool (x6_2 == 1)) ∧ w'.cell? ad398 = some (.int .i64 ((rd_T90 l0 0).f0)) ∧ w'.cell? ⟨ad398.block, ad398.off + 1, none⟩ = some (.bool ((rd_T90 l0 0).f1))) (ds := []) (rowB 15 0) (by kernel_rfl) rfl rfl ⟨(zg_ BK399.out 0).trans rfl, (zg_ BK399.out 1).trans rfl, ((HB.out.cell (bl_ w _ hw402_0)).trans hw402_0), ((HB.out.cell (bl_ w _ hw402_1)).trans hw402_1)⟩ (fun hHeld => ?_); refine with_tabW spec_MelodyMove.tab10 spec_MelodyMove.bits10 (fun HT_ HW_ => ?_); generalize w32.drew = w33 at BK399 HB hx402_0 hx402_1 hHeld ⊢; refine pure_ (i := 0) (N := some 40) (v := ?_) (a' := ?_) (rowB 15 1) rfl rfl (any_of HT_.out (by kernel_rfl)) (fun _ _ _ h => h) (Or.inl ⟨by rfl, ?_⟩) ?_ ?_; rotate_left; (· intro w'; go_simp; with_reducible rfl); rotate_left; (· simp only [Act.put, y1_, y2_, y3_, i64_w, i32_w]; rfl); refine pure_ (i := 1) (N := some 41) (v := ?_) (a' := ?_) (rowB 15 3) rfl rfl (any_of HT_.out (by kernel_rfl)) (fun _ _ _ h => h) (Or.inl ⟨by rfl, ?_⟩) ?_ ?_; rotate_left; (· intro w'; go_simp; with_reducible rfl); rotate_left; (· simp only [Act.put, y1_, y2_, y3_, i64_w, i32_w]; rfl); refine pure_ (i := 4) (N := some 44) (v := ?_) (a' := ?_) (rowB 15 19) rfl rfl (any_of HT_.out (by kernel_rfl)) (fun _ _ _ h => h) (Or.inl ⟨by rfl, ?_⟩) ?_ ?_; rotate_left; (· intro w'; go_simp; with_reducible rfl); rotate_left; (· simp only [Act.put, y1_, y2_, y3_, i64_w, i32_w]; rfl); refine pure_ (i := 5) (N := some 45) (v := ?_) (a' := ?_) (rowB 15 51) rfl rfl (any_of HT_.out (by kernel_rfl)) (fun _ _ _ h => h) (Or.inl ⟨by rfl, ?_⟩) ?_ ?_; rotate_left; (· intro w'; go_simp; with_reducible rfl); rotate_left; (· simp only [Act.put, y1_, y2_, y3_, i64_w, i32_w]; rfl); refine take_ (i := 2) (N := some 42) (v := ?_) (a' := ?_) (rowB 15 55) rfl rfl (take_ofW HT_.out HW_.out (by kernel_rfl)) (fun _ _ _ h => h) (Or.inl ⟨by rfl, ?_⟩) hHeld ?_ ?_; rotate_left; (· rintro w' ⟨s0, s1, s2, s3⟩; go_simp; with_reducible rfl); rotate_left; (· simp only [Act.put, y1_, y2_, y3_, i64_w, i32_w]; rfl); refine take_ (i := 6) (N := some 46) (v := ?_) (a' := ?_) (rowB 15 119) rfl rfl (take_ofW HT_.out HW_.out (by kernel_rfl)) (fun _ _ _ h => h) (Or.inl ⟨by rfl, ?_⟩) hHeld ?_ ?_; rotate_left; (· rintro w' ⟨s0, s1, s2, s3⟩; go_simp; with_reducible rfl); rotate_left; (· simp only [Act.put, y1_, y2_, y3_, i64_w, i32_w]; rfl); refine one_ (i := 3) (N := some 43) (rowB 15 127) rfl rfl (one_of HT_.out (by kernel_rfl)) (by decide) (fun K hK => ?_); refine goes_ Tryd.func101 (by kernel_rfl) rfl #[.agg #[.int .i64 (wrap64 (((rd_T90 l0 0).f0) + a1)), .bool (x6_2 == 1)]] (by rfl) rfl rfl (by (try simp only [List.map_toArray, List.map_cons, List.map_nil]); first | done | rfl | (simp only [List.length_drop, List.length_take]; rfl)) ?_; with_reducible refine (spec_l1Height.calls (wrap64 (((rd_T90 l0 0).f0) + a1)) (x6_2 == 1) t401 _ A19.out).mono ?_
           rintro e w34 ⟨rfl, hb⟩; refine ⟨_, rfl, ?_⟩; have n0_ := Z_.mk (zq_ (g := gb399) (o := .cells #[.int .i64 (wrap64 (((rd_T90 l0 0).f0) + a1)), .bool (x6_2 == 1)] 90 (0, 0)) (by (with_reducible repeat (first | refine zf_ ?_ _ | refine zh_ ?_ | refine blk_alloc ?_ _)); exact BK399.out) hb); have n1_ := Z_.mk (ze_ (by repeat (first | (with_reducible first | exact HB.out | apply zc_ | apply za_ | apply zb_ | refine zd_ ?_ GE399.out) | exact HB.out)) hb); clear BK399; clear HB; have BK399 := n0_; have HB := n1_; clear n0_ n1_; (try clear hb)
           (try clear hb2)
           (try clear hk)
           (try clear hi)
           refine hK.out _ _ ⟨(zg_ BK399.out 0).trans rfl, (zg_ BK399.out 1).trans rfl, ((HB.out.cell (bl_ w _ hw402_0)).trans hw402_0), ((HB.out.cell (bl_ w _ hw402_1)).trans hw402_1)⟩ (fun hHeld => ?_); clear hK K; refine norm_ (a' := ?_) ?_ ?_; rotate_left; (· show Act.put _ (some 43) _ = _; simp only [Act.put, y1_, y2_, y3_, i64_w, i32_w]; rfl); refine one_ (i := 7) (N := some 47) (rowB 15 255) rfl rfl (one_of HT_.out (by kernel_rfl)) (by decide) (fun K hK => ?_); refine goes_ Tryd.func101 (by kernel_rfl) rfl #[.agg #[.int .i64 ((rd_T90 l0 0).f0), .bool ((rd_T90 l0 0).f1)]] (by rfl) rfl rfl (by (try simp only [List.map_toArray, List.map_cons, List.map_nil]); first | done | rfl | (simp only [List.length_drop, List.length_take]; rfl)) ?_; with_reducible refine (spec_l1Height.calls ((rd_T90 l0 0).f0) ((rd_T90 l0 0).f1) t403 _ A20.out).mono ?_
           rintro e w35 ⟨rfl, hb⟩; refine ⟨_, rfl, ?_⟩; have n0_ := Z_.mk (zq_ (g := gb399) (o := .cells #[.int .i64 (wrap64 (((rd_T90 l0 0).f0) + a1)), .bool (x6_2 == 1)] 90 (0, 0)) (by (with_reducible repeat (first | refine zf_ ?_ _ | refine zh_ ?_ | refine blk_alloc ?_ _)); exact BK399.out) hb); have n1_ := Z_.mk (ze_ (by repeat (first | (with_reducible first | exact HB.out | apply zc_ | apply za_ | apply zb_ | refine zd_ ?_ GE399.out) | exact HB.out)) hb); clear BK399; clear HB; have BK399 := n0_; have HB := n1_; clear n0_ n1_; (try clear hb)
           (try clear hb2)
           (try clear hk)
           (try clear hi)
           refine hK.out _ _ ⟨(zg_ BK399.out 0).trans rfl, (zg_ BK399.out 1).trans rfl, ((HB.out.cell (bl_ w _ hw402_0)).trans hw402_0), ((HB.out.cell (bl_ w _ hw402_1)).trans hw402_1)⟩ (fun hHeld => ?_); clear hK K; refine norm_ (a' := ?_) ?_ ?_; rotate_left; (· show Act.put _ (some 47) _ = _; simp only [Act.put, y1_, y2_, y3_, i64_w, i32_w]; rfl); refine pure_ (i := 8) (N := some 48) (v := ?_) (a' := ?_) (rowB 15 511) rfl rfl (any_of HT_.out (by kernel_rfl)) (fun _ _ _ h => h) (Or.inl ⟨by rfl, ?_⟩) ?_ ?_; rotate_left; (· intro w'; go_simp; with_reducible rfl); rotate_left; (· simp only [Act.put, y1_, y2_, y3_, i64_w, i32_w]; rfl); refine one_ (i := 9) (N := some 49) (rowB 15 1023) rfl rfl (one_of HT_.out (by kernel_rfl)) (by decide) (fun K hK => ?_); refine goes_ Tryd.func100 (by kernel_rfl) rfl #[.slice (some ad398) l0.length c0, .int .i64 a1, .int .i64 (wrap64 (t401 - t403))] (by rfl) rfl rfl (by (try simp only [List.map_toArray, List.map_cons, List.map_nil]); first | done | rfl | (simp only [List.length_drop, List.length_take]; rfl)) ?_; with_reducible refine (spec_l2Moved.calls k2 _ _ l0 a1 (wrap64 (t401 - t403)) t404 false _ ?side1 ?side2 A21.out).mono ?_
           (case side1 => repeat (first | exact (Kd.C_below HR0.out HB.out) | (with_reducible refine Kd.C_alloc ?_ _) | (with_reducible refine Kd.C_drewN ?_ _) | (with_reducible refine Kd.C_drew ?_)))
           (case side2 => exact HC0.out)
           rintro e w36 ⟨v406, rfl, ho0, hb⟩; refine ⟨_, rfl, ?_⟩; have n0_ := Z_.mk (Kd.R_lower (Kd.R_newB ho0 (g := gb399) (o := .cells #[.int .i64 (wrap64 (((rd_T90 l0 0).f0) + a1)), .bool (x6_2 == 1)] 90 (0, 0)) (by (with_reducible repeat (first | refine zf_ ?_ _ | refine zh_ ?_ | refine blk_alloc ?_ _)); exact BK399.out)) (zj_ (by repeat (first | (with_reducible first | exact HB.out | apply zc_ | apply za_ | apply zb_ | refine zd_ ?_ GE399.out) | exact HB.out)))); have n1_ := Z_.mk (zq_ (g := gb399) (o := .cells #[.int .i64 (wrap64 (((rd_T90 l0 0).f0) + a1)), .bool (x6_2 == 1)] 90 (0, 0)) (by (with_reducible repeat (first | refine zf_ ?_ _ | refine zh_ ?_ | refine blk_alloc ?_ _)); exact BK399.out) hb); have n2_ := Z_.mk (ze_ (by repeat (first | (with_reducible first | exact HB.out | apply zc_ | apply za_ | apply zb_ | refine zd_ ?_ GE399.out) | exact HB.out)) hb); clear BK399; clear HB; have HO407 := n0_; have BK399 := n1_; have HB := n2_; clear n0_ n1_ n2_; (try clear hb)
           (try clear hb2)
           (try clear hk)
           (try clear hi)
           (try clear ho0)
           refine hK.out _ _ ⟨(zg_ BK399.out 0).trans rfl, (zg_ BK399.out 1).trans rfl, ((HB.out.cell (bl_ w _ hw402_0)).trans hw402_0), ((HB.out.cell (bl_ w _ hw402_1)).trans hw402_1)⟩ (fun hHeld => ?_); clear hK K; refine norm_ (a' := ?_) ?_ ?_; rotate_left; (· show Act.put _ (some 49) _ = _; simp only [Act.put, y1_, y2_, y3_, i64_w, i32_w]; rfl); refine pure_ (i := 10) (N := some 39) (v := ?_) (a' := ?_) (rowB 15 2047) rfl rfl (any_of HT_.out (by kernel_rfl)) (fun _ _ _ h => h) (Or.inl ⟨by rfl, ?_⟩) ?_ ?_; rotate_left; (· intro w'; go_simp; with_reducible rfl); rotate_left; (· simp only [Act.put, y1_, y2_, y3_, i64_w, i32_w]; rfl); refine pure_ (i := 11) (N := some 50) (v := ?_) (a' := ?_) (rowB 15 4095) rfl rfl (any_of HT_.out (by kernel_rfl)) (fun _ _ _ h => h) (Or.inl ⟨by rfl, ?_⟩) ?_ ?_; rotate_left; (· intro w'; go_simp; with_reducible rfl); rotate_left; (· simp only [Act.put, y1_, y2_, y3_, i64_w, i32_w]; rfl); refine pure_ (i := 12) (N := some 51) (v := ?_) (a' := ?_) (rowB 15 8191) rfl rfl (any_of HT_.out (by kernel_rfl)) (fun _ _ _ h => h) (Or.inl ⟨by rfl, ?_⟩) ?_ ?_; rotate_left; (· intro w'; go_simp; with_reducible rfl); rotate_left; (· simp only [Act.put, y1_, y2_, y3_, i64_w, i32_w]; rfl); refine pure_ (i := 13) (N := some 8) (v := ?_) (a' := ?_) (rowB 15 16383) rfl rfl (any_of HT_.out (by kernel_rfl)) (fun _ _ _ h => h) (Or.inl ⟨by rfl, ?_⟩) ?_ ?_; rotate_left; (· intro w'; go_simp; with_reducible rfl); rotate_left; (· simp only [Act.put, y1_, y2_, y3_, i64_w, i32_w]; rfl); refine pure_ (i := 14) (N := some 9) (v := ?_) (a' := ?_) (rowB 15 32767) rfl rfl (any_of HT_.out (by kernel_rfl)) (fun _ _ _ h => h) (Or.inl ⟨by rfl, ?_⟩) ?_ ?_; rotate_left; (· intro w'; go_simp; with_reducible rfl); rotate_left; (· simp only [Act.put, y1_, y2_, y3_, i64_w, i32_w]; rfl); refine done_ (done_of HT_.out (by kernel_rfl)) ?_; try go_wp2
           go_roundg k2
           case measure => have := HJ5.out; have := HK2.out; omega
           case rel => exact ⟨(wrap64 (x6_2 + 1)), (by first | rfl | (simp; done) | (simp [*]; done)), H', ⟨by have := HJ5.out; have := HK2.out; omega⟩, ⟨by repeat (first | (with_reducible first | exact HB.out | apply zc_ | apply za_ | apply zb_ | refine zd_ ?_ GE399.out) | exact HB.out)⟩⟩
         ·
          replace c18 := Bool.eq_false_iff.mpr c18; subst c18; have H1 : (spec_MelodyMove.l0 k2 l0 a1 (wrap64 (x6_2 + 1))) = some (r1, r2) := by rw [if_neg (show ¬ (false = true) by decide)] at H; exact H
          clear H; have H := H1; clear H1; have H' := Z_.mk H; clear H; have p398 : 0 ≤ (0 : Int) := (by omega)
          have q398 : 0 < (l0.length : Int) := of_decide_eq_true (by first | (with_reducible assumption) | assumption); obtain ⟨ad398, e398, hx398_0, hx398_1⟩ := at_T90 HR0.out 0 p398 q398; cases e398; have qi398 : (0 < l0.length) = True := eq_true (by omega); (try rw [show ((0 : Int)).toNat = 0 from rfl] at hx398_0)
          (try rw [show 0 * 2 = 0 from rfl] at hx398_0)
          (try rw [Addr.add_zero'] at hx398_0)
          (try rw [show ((0 : Int)).toNat = 0 from rfl] at hx398_1)
          (try rw [show 0 * 2 = 0 from rfl] at hx398_1)
          (try rw [Addr.add_zero'] at hx398_1)
          replace hx398_0 := (HB.out.cell (bl_ w _ hx398_0)).trans hx398_0; replace hx398_1 := (HB.out.cell (bl_ w _ hx398_1)).trans hx398_1; replace p398 := eq_true p398; replace q398 := eq_true q398; go_wp2_with (first | ((with_reducible refine zr_ (N := 7) rfl ?_); refine box_event ?hg (N := 7) ?hd (cs := #[.int .i64 0, .bool false]) (t := 90) ?hr ?_; (case hd => rfl); (case hg => rfl); (case hr => first | (go_simp; done) | (go_simp; rfl)); intro gb399 hg w37 hbox hb; have n0_ := Z_.mk (ze_ (by repeat (first | (with_reducible first | exact HB.out | apply zc_ | apply za_ | apply zb_) | exact HB.out)) hb); have n1_ := Z_.mk (hbox); have n2_ := Z_.mk ((by rw [hg]; exact (zj_ (by repeat (first | (with_reducible first | exact HB.out | apply zc_ | apply za_ | apply zb_) | exact HB.out))) : w.heap.size ≤ gb399)); have n3_ := Z_.mk ((by rw [hg]; exact (zj_ (by repeat (first | (with_reducible first | exact HB.out | apply zc_ | apply za_ | apply zb_) | exact HB.out))) : w.heap.size ≤ gb399)); clear HB; have HB := n0_; have BK399 := n1_; have GW399 := n2_; have GE399 := n3_; clear n0_ n1_ n2_ n3_; clear hb hbox hg; have hcz38_0 : w37.cell? ⟨gb399, 0, none⟩ = some (.int .i64 0) := (zg_ BK399.out 0).trans rfl; have hcz38_1 : w37.cell? ⟨gb399, 1, none⟩ = some (.bool false) := (zg_ BK399.out 1).trans rfl; have hfz38_0 := zi_ BK399.out 0; have hfz38_1 := zi_ BK399.out 1) | ((with_reducible refine zp_ (f := 92) rfl ?_); refine goesL_ (some 37) rfl rfl Tryd.func92 (by kernel_rfl) rfl #[.agg #[.int .i64 (wrap64 (((rd_T90 l0 0).f0) + a1)), .bool (x6_2 == 1)]] rfl (by (try simp only [List.map_toArray, List.map_cons, List.map_nil]); first | done | rfl | (simp only [List.length_drop, List.length_take]; rfl)) ?_; (with_reducible refine (spec_ToneValid.calls (wrap64 (((rd_T90 l0 0).f0) + a1)) (x6_2 == 1) false _ A17.out).mono ?_); rintro e w39 ⟨rfl, hb⟩; refine ⟨_, rfl, ?_⟩; have n0_ := Z_.mk (zq_ (g := gb399) (o := .cells #[.int .i64 (wrap64 (((rd_T90 l0 0).f0) + a1)), .bool (x6_2 == 1)] 90 (0, 0)) (by (with_reducible repeat (first | refine zf_ ?_ _ | refine zh_ ?_ | refine blk_alloc ?_ _)); refine blk_put (cs := #[.int .i64 (wrap64 (((rd_T90 l0 0).f0) + a1)), .bool false]) ?_ 1 _ rfl; (with_reducible repeat (first | refine zf_ ?_ _ | refine zh_ ?_ | refine blk_alloc ?_ _)); refine blk_put (cs := #[.int .i64 0, .bool false]) ?_ 0 _ rfl; (with_reducible repeat (first | refine zf_ ?_ _ | refine zh_ ?_ | refine blk_alloc ?_ _)); exact BK399.out) hb); have n1_ := Z_.mk (ze_ (by repeat (first | (with_reducible first | exact HB.out | apply zc_ | apply za_ | apply zb_ | refine zd_ ?_ GE399.out) | exact HB.out)) hb); clear BK399; clear HB; have BK399 := n0_; have HB := n1_; clear n0_ n1_))
          go_roundg k2
          case measure => have := HJ5.out; have := HK2.out; omega
          case rel => exact ⟨(wrap64 (x6_2 + 1)), (by first | rfl | (simp; done) | (simp [*]; done)), H', ⟨by have := HJ5.out; have := HK2.out; omega⟩, ⟨by repeat (first | (with_reducible first | exact HB.out | apply zc_ | apply za_ | apply zb_ | refine zd_ ?_ GE399.out) | exact HB.out)⟩⟩
        ·
         rw [if_neg c16] at H; exact absurd H (by simp)
       ·
        rw [if_neg c15] at H; have c15b0 : decide (x6_2 < 2) = false := decide_eq_false c15; clear c15; obtain ⟨y395, hy395⟩ : ∃ y_ : List (S90), y_ = (([] : List (S90))) := ⟨_, rfl⟩
        replace H : (some (y395, false)) = some (r1, r2) := by first | (rw [hy395]; with_reducible exact H) | (have H2_ := (Option.bind_some _ _).symm.trans H; rw [hy395]; with_reducible exact H2_) | (have H2_ := (Option.bind_some _ _).symm.trans H; with_reducible exact H2_) | with_reducible exact H | (rw [hy395]; exact H) | exact H
        have Ny395 := Z_.mk hy395; clear hy395; simp only [Option.some.injEq, Prod.mk.injEq] at H; obtain ⟨rfl, rfl⟩ := H; go_wp2_with (first | ((with_reducible refine zr_ (N := 54) rfl ?_); refine Kd.R_lit k90 _ 90 ?hg (N := 54) ?hd (xs := ([] : List (S90))) (inner := []) (ok := fun _ => True) (okp := fun _ => True) ?hr ?hp (fun _ hk => hk) trivial (Below.refl _ _) (Nat.le_refl _) (by simp) ?_; (case hd => rfl); (case hg => rfl); (case hr => first | (go_simp; done) | (go_simp; rfl)); (case hp => exact (Reps.none _ _)); intro v396 w40 ho41 hb hg_ hnew_; clear hg_ hnew_; (first | rw [← Ny395.out] at ho41 | (simp only [Int.reduceToNat] at ho41; rw [← Ny395.out] at ho41)); have n0_ := Z_.mk (Kd.R_lower ho41 (zj_ (by repeat (first | (with_reducible first | exact HB.out | apply zc_ | apply za_ | apply zb_) | exact HB.out)))); have n1_ := Z_.mk (ze_ (by repeat (first | (with_reducible first | exact HB.out | apply zc_ | apply za_ | apply zb_) | exact HB.out)) hb); clear HB; have HO397 := n0_; have HB := n1_; clear n0_ n1_; clear hb ho41))
        go_ret2
        exact ⟨_, by first | rfl | (simp [zn_, zm_] <;> rfl) | (simp [*, zn_, zm_] <;> rfl), by (with_reducible repeat (first | apply Kd.R_alloc | apply Kd.R_drewN | apply Kd.R_drew)); exact HO397.out, by repeat (first | (with_reducible first | exact HB.out | apply zc_ | apply za_ | apply zb_) | exact HB.out)⟩

end Go.Proofs.YtmacedbpdhkagaaDoor.PFnTonaryFind
namespace Go.Proofs.YtmacedbpdhkagaaDoor.PFnTonaryFind
open Go.RowKit Go.Proofs.YtmacedbpdhkagaaDoorW.PrintWords Go.Proofs.YtmacedbpdhkagaaDoorW.PrintLast Go.Proofs.YtmacedbpdhkagaaDoorW.PrintMore
attribute [local go_sem] max2_int min2_int max_two min_two max_three min_three max_four min_four   -- for this text's walks alone
set_option linter.unusedVariables false
set_option linter.unusedSimpArgs false

def spec_DrawTonaryFind.j0 : Nat → List (S38) → Bool → List Int → Int → Option ((List (S38)) × (List (S90)))
 | 0, _, _, _, _ => none
 | k + 1, x5, x21, x411000, x411001 => if x21 = true then ((spec_l6Rd_pick.f k x411000 x411001 4).bind fun bt417 => ((spec_l91Some.f k x411000 bt417.2 bt417.1).bind fun bt419 => (some (x5, bt419.1)))) else ((spec_l6Rd_pick.f k x411000 x411001 (x5.length : Int)).bind fun bt423 => (if 0 ≤ bt423.1 then (if bt423.1 < (x5.length : Int) then ((spec_l6Rd_pick.f k x411000 bt423.2 (wrap64 ((((rd_T38 x5 bt423.1).f2).length : Int) + 1))).bind fun bt426 => (if 0 ≤ bt426.1 then (if bt426.1 ≤ (((rd_T38 x5 bt423.1).f2).length : Int) then ((some (((rd_T38 x5 bt423.1).f2).take (bt426.1 : Int).toNat : List (S90))).bind fun y428 => ((some (([0, 3, 4, (-3), (-4), 7] : List Int) : List Int)).bind fun y433 => ((spec_l6Rd_pick.f k x411000 bt426.2 6).bind fun bt436 => (if 0 ≤ bt436.1 then (if bt436.1 < (y433.length : Int) then ((spec_MelodyMove.f k y428 (rd y433 bt436.1)).bind fun bt439 => (if bt439.2 = true then (some (x5, bt439.1)) else (some (x5, y428)))) else (none)) else (none))))) else (none)) else (none))) else (none)) else (none)))
def spec_DrawTonaryFind.f (k : Nat) (l0 : List Int) : Option ((List (S38)) × (List (S90))) := (spec_l6Open.f l0).bind fun bt408 => ((spec_l92Tonary.f k bt408.1 bt408.2).bind fun bt411 => (if (bt411.1.length : Int) = 0 then (spec_DrawTonaryFind.j0 k bt411.1 true bt408.1 bt411.2) else ((spec_l6Rd_pick.f k bt408.1 bt411.2 5).bind fun bt415 => (spec_DrawTonaryFind.j0 k bt411.1 (bt415.1 == 0) bt408.1 bt415.2))))
set_option maxHeartbeats 8000000 in
set_option maxRecDepth 100000 in
theorem spec_DrawTonaryFind.calls (k : Nat) (A0 : Option Addr) (c0 : Nat) (l0 : List Int) (r1 : List (S38)) (r2 : List (S90)) (w : World) (hr0 : Kd.C (Kd.int .u8) w A0 l0.length l0) (hc0 : l0.length ≤ c0) (h : spec_DrawTonaryFind.f k l0 = some (r1, r2)) :
 Calls Tryd.prog 39 #[.slice A0 l0.length c0] w fun e w' => ∃ v0_ v1_ : Value, e = .returned (.tuple #[v0_, v1_]) ∧ Kd.N k38 38 w' w.heap.size (fun k_ => (w.heap.size ≤ k_)) v0_ r1 ∧ Kd.V k90 90 w' w.heap.size (fun k_ => (w.heap.size ≤ k_) ∧ some k_ ≠ (v0_ : Value).ownBlock) v1_ r2 ∧ Below w.heap.size w w' := by
 have HR0 := Z_.mk hr0; have HC0 := Z_.mk hc0; clear hr0 hc0; have HB := Z_.mk (Below.refl w.heap.size w); have H : ((spec_l6Open.f l0).bind fun bt408 => ((spec_l92Tonary.f k bt408.1 bt408.2).bind fun bt411 => (if (bt411.1.length : Int) = 0 then (spec_DrawTonaryFind.j0 k bt411.1 true bt408.1 bt411.2) else ((spec_l6Rd_pick.f k bt408.1 bt411.2 5).bind fun bt415 => (spec_DrawTonaryFind.j0 k bt411.1 (bt415.1 == 0) bt408.1 bt415.2))))) = some (r1, r2) := h; clear h; replace H := Option.bind_eq_some_iff.mp H; obtain ⟨⟨t408, t409⟩, A20, H⟩ := H; replace H : ((spec_l92Tonary.f k t408 t409).bind fun bt411 => (if (bt411.1.length : Int) = 0 then (spec_DrawTonaryFind.j0 k bt411.1 true t408 bt411.2) else ((spec_l6Rd_pick.f k t408 bt411.2 5).bind fun bt415 => (spec_DrawTonaryFind.j0 k bt411.1 (bt415.1 == 0) t408 bt415.2)))) = some (r1, r2) := H; have A2 := Z_.mk A20; clear A20; replace H := Option.bind_eq_some_iff.mp H; obtain ⟨⟨t411, t414⟩, A30, H⟩ := H; replace H : (if (t411.length : Int) = 0 then (spec_DrawTonaryFind.j0 k t411 true t408 t414) else ((spec_l6Rd_pick.f k t408 t414 5).bind fun bt415 => (spec_DrawTonaryFind.j0 k t411 (bt415.1 == 0) t408 bt415.2))) = some (r1, r2) := H; have A3 := Z_.mk A30; clear A30; have HC4 := Z_.mk H; clear H; go_enter Tryd.func39, Tryd.ntmps39
 go_upto_region 3 with (first | ((with_reducible refine zp_ (f := 61) rfl ?_); refine goesL_ (some 11) rfl rfl Tryd.func61 (by kernel_rfl) rfl #[.slice A0 l0.length c0] rfl (by (try simp only [List.map_toArray, List.map_cons, List.map_nil]); first | done | rfl | (simp only [List.length_drop, List.length_take]; rfl)) ?_; (with_reducible refine (spec_l6Open.calls _ _ l0 t408 t409 w _ ?side1 ?side2 ?side3 A2.out).mono ?_); (case side1 => repeat (first | (with_reducible first | exact HB.out | apply zc_ | apply za_ | apply zb_) | exact HB.out)); (case side2 => exact HR0.out); (case side3 => exact HC0.out); rintro e w5 ⟨g410, rfl, hi, hb, hb2⟩; refine ⟨_, rfl, ?_⟩; have n0_ := Z_.mk (hb); have n1_ := Z_.mk (hi); clear HB; have HB := n0_; have HI410 := n1_; clear n0_ n1_) | ((with_reducible refine zp_ (f := 62) rfl ?_); refine goesL_ (some 13) rfl rfl Tryd.func62 (by kernel_rfl) rfl #[.pointer (some ⟨g410, 0, none⟩)] rfl (by (try simp only [List.map_toArray, List.map_cons, List.map_nil]); first | done | rfl | (simp only [List.length_drop, List.length_take]; rfl)) ?_; (with_reducible refine (spec_l92Tonary.calls k g410 t408 t409 t411 t414 w _ ?side1 ?side2 A3.out).mono ?_); (case side1 => repeat (first | (with_reducible first | exact HI410.out | apply I_.alloc | apply I_.drewN | apply I_.drew | apply I_.set_1) | exact HI410.out)); (case side2 => repeat (first | (with_reducible first | exact HB.out | apply zc_ | apply za_ | apply zb_ | refine zd_ ?_ (I_.ge HI410.out)) | exact HB.out)); rintro e w6 ⟨v412, rfl, ho0, hi, hb, hk⟩; refine ⟨_, rfl, ?_⟩; have n0_ := Z_.mk (Kd.N_lower (Kd.N_mono (ok' := fun k_ => (w.heap.size ≤ k_) ∧ k_ ≠ g410) ho0 (fun k_ hk_ => ⟨(Nat.le_trans (zj_ (by repeat (first | (with_reducible first | exact HB.out | apply zc_ | apply za_ | apply zb_ | refine zd_ ?_ (I_.ge HI410.out)) | exact HB.out))) hk_), (I_.fresh (by repeat (first | (with_reducible first | exact HI410.out | apply I_.alloc | apply I_.drewN | apply I_.drew | apply I_.set_1) | exact HI410.out)) k_ hk_)⟩)) (zj_ (by repeat (first | (with_reducible first | exact HB.out | apply zc_ | apply za_ | apply zb_ | refine zd_ ?_ (I_.ge HI410.out)) | exact HB.out)))); have n1_ := Z_.mk (hb); have n2_ := Z_.mk (hi); clear HB; clear HI410; have HO413 := n0_; have HB := n1_; have HI410 := n2_; clear n0_ n1_ n2_))
 (try simp only [Act.put, y1_, y2_, y3_])
 go_cut [21] (fun v21 wc => ∃ (kq : Nat) (x21_3 : Bool) (x411001_3 : Int), v21 = .bool x21_3 ∧ Z_ (spec_DrawTonaryFind.j0 kq t411 x21_3 t408 x411001_3 = some (r1, r2)) ∧ Z_ (kq ≤ k) ∧ Z_ (Kd.N k38 38 wc w.heap.size (fun k_ => (w.heap.size ≤ k_) ∧ k_ ≠ g410) v412 t411) ∧ Z_ (I_ w wc g410 t408 x411001_3) ∧ Z_ (Below w.heap.size w wc))
 case first =>
  have H := HC4.out; clear HC4; by_cases c7 : (t411.length : Int) = 0
  ·
   rw [if_pos c7] at H; have c7b0 : ((t411.length : Int) == 0) = true := beq_iff_eq.mpr c7; have c7b1 : ((t411.length : Int) != 0) = false := bne_eq_false_iff_eq.mpr c7; clear c7; (first | rw [c7b0] | (simp only [i64_w, i32_w]; rw [c7b0]) | skip)
   have H' := Z_.mk H; clear H; obtain ⟨Ao8, co8, eo8⟩ := Kd.N_slice HO413.out; subst eo8; go_wp2; go_meet
   case rel => exact ⟨_, (true), (t414), (by first | rfl | (simp; done) | (simp [*]; done)), H', ⟨by first | omega | exact Nat.le_refl _⟩, ⟨by (with_reducible repeat (first | apply Kd.N_alloc | apply Kd.N_drewN | apply Kd.N_drew)); exact HO413.out⟩, ⟨by repeat (first | (with_reducible first | exact HI410.out | apply I_.alloc | apply I_.drewN | apply I_.drew | apply I_.set_1) | exact HI410.out)⟩, ⟨by repeat (first | (with_reducible first | exact HB.out | apply zc_ | apply za_ | apply zb_ | refine zd_ ?_ (I_.ge HI410.out)) | exact HB.out)⟩⟩
  ·
   rw [if_neg c7] at H; have c7b0 : ((t411.length : Int) == 0) = false := beq_eq_false_iff_ne.mpr c7; have c7b1 : ((t411.length : Int) != 0) = true := bne_iff_ne.mpr c7; have c7b2 : ¬ (t411 = []) := fun h_ => c7 (by rw [h_]; rfl)
   (first | rw [c7b0] | (simp only [i64_w, i32_w]; rw [c7b0]) | skip)
   replace H := Option.bind_eq_some_iff.mp H; obtain ⟨⟨t415, t416⟩, A90, H⟩ := H; replace H : (spec_DrawTonaryFind.j0 k t411 (t415 == 0) t408 t416) = some (r1, r2) := H; have A9 := Z_.mk A90; clear A90; have H' := Z_.mk H; clear H; obtain ⟨Ao10, co10, eo10⟩ := Kd.N_slice HO413.out; subst eo10; go_wp2_with (first | (go_at_call 63; (with_reducible refine (spec_l6Rd_pick.calls k g410 t408 t414 5 t415 t416 w _ ?side1 ?side2 A9.out).mono ?_); (case side1 => repeat (first | (with_reducible first | exact HI410.out | apply I_.alloc | apply I_.drewN | apply I_.drew | apply I_.set_1) | exact HI410.out)); (case side2 => repeat (first | (with_reducible first | exact HB.out | apply zc_ | apply za_ | apply zb_ | refine zd_ ?_ (I_.ge HI410.out)) | exact HB.out)); rintro e w11 ⟨rfl, hi, hb, hk⟩; have n0_ := Z_.mk (Kd.N_mono (Kd.N_keep (Kd.N_mono (ok := fun k_ => (((w.heap.size ≤ k_)) ∧ k_ ≠ g410)) (by (with_reducible repeat (first | apply Kd.N_alloc | apply Kd.N_drewN | apply Kd.N_drew)); exact HO413.out) (fun k_ hk_ => (⟨hk_, hk_.2⟩ : _ ∧ k_ ≠ g410))) hk (fun _ h => h.2)) (fun _ h => h.1)); have n1_ := Z_.mk (hb); have n2_ := Z_.mk (hi); clear HO413; clear HB; clear HI410; have HO413 := n0_; have HB := n1_; have HI410 := n2_; clear n0_ n1_ n2_))
   go_meet
   case rel => exact ⟨_, ((t415 == 0)), (t416), (by first | rfl | (simp; done) | (simp [*]; done)), H', ⟨by first | omega | exact Nat.le_refl _⟩, ⟨by (with_reducible repeat (first | apply Kd.N_alloc | apply Kd.N_drewN | apply Kd.N_drew)); exact HO413.out⟩, ⟨by repeat (first | (with_reducible first | exact HI410.out | apply I_.alloc | apply I_.drewN | apply I_.drew | apply I_.set_1) | exact HI410.out)⟩, ⟨by repeat (first | (with_reducible first | exact HB.out | apply zc_ | apply za_ | apply zb_ | refine zd_ ?_ (I_.ge HI410.out)) | exact HB.out)⟩⟩
 case rest =>
  clear HC4; try clear p2
  try clear c3
  try clear c6
  try clear c7
  try clear c7b0
  try clear c7b1
  try clear c7b2
  obtain ⟨kq, x21_3, x411001_3, rfl, HA, HJ3, HO_5, HI410, HB⟩ := hcut; cases kq with
  | zero => exact absurd HA.out (by simp [spec_DrawTonaryFind.j0])
  | succ kj3 =>
   have H := HA.out; clear HA; simp only [spec_DrawTonaryFind.j0] at H; by_cases c12 : x21_3 = true
   ·
    subst c12; have H1 : ((spec_l6Rd_pick.f kj3 t408 x411001_3 4).bind fun bt417 => ((spec_l91Some.f kj3 t408 bt417.2 bt417.1).bind fun bt419 => (some (t411, bt419.1)))) = some (r1, r2) := by rw [if_pos rfl] at H; exact H
    clear H; have H := H1; clear H1; replace H := Option.bind_eq_some_iff.mp H; obtain ⟨⟨t417, t418⟩, A130, H⟩ := H; replace H : ((spec_l91Some.f kj3 t408 t418 t417).bind fun bt419 => (some (t411, bt419.1))) = some (r1, r2) := H; have A13 := Z_.mk A130; clear A130; replace H := Option.bind_eq_some_iff.mp H; obtain ⟨⟨t419, t422⟩, A140, H⟩ := H; replace H : (some (t411, t419)) = some (r1, r2) := H; have A14 := Z_.mk A140; clear A140; simp only [Option.some.injEq, Prod.mk.injEq] at H; obtain ⟨rfl, rfl⟩ := H; go_wp2_with (first | ((with_reducible refine zp_ (f := 63) rfl ?_); refine goesL_ (some 25) rfl rfl Tryd.func63 (by kernel_rfl) rfl #[.pointer (some ⟨g410, 0, none⟩), .int .i64 4] rfl (by (try simp only [List.map_toArray, List.map_cons, List.map_nil]); first | done | rfl | (simp only [List.length_drop, List.length_take]; rfl)) ?_; (with_reducible refine (spec_l6Rd_pick.calls kj3 g410 t408 x411001_3 4 t417 t418 w _ ?side1 ?side2 A13.out).mono ?_); (case side1 => repeat (first | (with_reducible first | exact HI410.out | apply I_.alloc | apply I_.drewN | apply I_.drew | apply I_.set_1) | exact HI410.out)); (case side2 => repeat (first | (with_reducible first | exact HB.out | apply zc_ | apply za_ | apply zb_ | refine zd_ ?_ (I_.ge HI410.out)) | exact HB.out)); rintro e w15 ⟨rfl, hi, hb, hk⟩; refine ⟨_, rfl, ?_⟩; have n0_ := Z_.mk (Kd.N_mono (Kd.N_keep (Kd.N_mono (ok := fun k_ => (((w.heap.size ≤ k_)) ∧ k_ ≠ g410)) (by (with_reducible repeat (first | apply Kd.N_alloc | apply Kd.N_drewN | apply Kd.N_drew)); exact HO_5.out) (fun k_ hk_ => (⟨hk_, hk_.2⟩ : _ ∧ k_ ≠ g410))) hk (fun _ h => h.2)) (fun _ h => h.1)); have n1_ := Z_.mk (hb); have n2_ := Z_.mk (hi); clear HO_5; clear HB; clear HI410; have HO_5 := n0_; have HB := n1_; have HI410 := n2_; clear n0_ n1_ n2_) | ((with_reducible refine zp_ (f := 74) rfl ?_); refine goesL_ (some 26) rfl rfl Tryd.func74 (by kernel_rfl) rfl #[.pointer (some ⟨g410, 0, none⟩), .int .i64 t417] rfl (by (try simp only [List.map_toArray, List.map_cons, List.map_nil]); first | done | rfl | (simp only [List.length_drop, List.length_take]; rfl)) ?_; (with_reducible refine (spec_l91Some.calls kj3 g410 t408 t418 t417 t419 t422 w _ ?side1 ?side2 A14.out).mono ?_); (case side1 => repeat (first | (with_reducible first | exact HI410.out | apply I_.alloc | apply I_.drewN | apply I_.drew | apply I_.set_1) | exact HI410.out)); (case side2 => repeat (first | (with_reducible first | exact HB.out | apply zc_ | apply za_ | apply zb_ | refine zd_ ?_ (I_.ge HI410.out)) | exact HB.out)); rintro e w16 ⟨v420, rfl, ho0, hi, hb, hk⟩; refine ⟨_, rfl, ?_⟩; have n0_ := Z_.mk (Kd.N_mono (Kd.N_told (Kd.N_oldK (Kd.N_mono (ok := fun k_ => (((w.heap.size ≤ k_)) ∧ k_ ≠ g410)) (by (with_reducible repeat (first | apply Kd.N_alloc | apply Kd.N_drewN | apply Kd.N_drew)); exact HO_5.out) (fun k_ hk_ => (⟨hk_, hk_.2⟩ : _ ∧ k_ ≠ g410))) hk) (Kd.R_base ho0)) (fun _ h_ => h_.1)); have n1_ := Z_.mk (Kd.R_lower (Kd.R_newM (M := fun k_ => (w.heap.size ≤ k_)) ho0 (zj_ (by repeat (first | (with_reducible first | exact HB.out | apply zc_ | apply za_ | apply zb_ | refine zd_ ?_ (I_.ge HI410.out)) | exact HB.out))) (fun k_ h_ => h_)) (zj_ (by repeat (first | (with_reducible first | exact HB.out | apply zc_ | apply za_ | apply zb_ | refine zd_ ?_ (I_.ge HI410.out)) | exact HB.out)))); have n2_ := Z_.mk (hb); have n3_ := Z_.mk (hi); clear HO_5; clear HB; clear HI410; have HO_5 := n0_; have HO421 := n1_; have HB := n2_; have HI410 := n3_; clear n0_ n1_ n2_ n3_))
    go_ret2
    exact ⟨_, _, by first | rfl | (simp [zn_, zm_] <;> rfl) | (simp [*, zn_, zm_] <;> rfl), by (with_reducible repeat (first | apply Kd.N_alloc | apply Kd.N_drewN | apply Kd.N_drew)); exact Kd.N_mono HO_5.out (fun _ hk => hk.1.1), Kd.R_V (by (with_reducible repeat (first | apply Kd.R_alloc | apply Kd.R_drewN | apply Kd.R_drew)); exact Kd.R_mono (Kd.R_apart' HO421.out (Kd.N_typed HO_5.out) (by decide)) (fun _ hk => ⟨hk.1.1, hk.2⟩)), by repeat (first | (with_reducible first | exact HB.out | apply zc_ | apply za_ | apply zb_ | refine zd_ ?_ (I_.ge HI410.out)) | exact HB.out)⟩
   ·
    replace c12 := Bool.eq_false_iff.mpr c12; subst c12; have H1 : ((spec_l6Rd_pick.f kj3 t408 x411001_3 (t411.length : Int)).bind fun bt423 => (if 0 ≤ bt423.1 then (if bt423.1 < (t411.length : Int) then ((spec_l6Rd_pick.f kj3 t408 bt423.2 (wrap64 ((((rd_T38 t411 bt423.1).f2).length : Int) + 1))).bind fun bt426 => (if 0 ≤ bt426.1 then (if bt426.1 ≤ (((rd_T38 t411 bt423.1).f2).length : Int) then ((some (((rd_T38 t411 bt423.1).f2).take (bt426.1 : Int).toNat : List (S90))).bind fun y428 => ((some (([0, 3, 4, (-3), (-4), 7] : List Int) : List Int)).bind fun y433 => ((spec_l6Rd_pick.f kj3 t408 bt426.2 6).bind fun bt436 => (if 0 ≤ bt436.1 then (if bt436.1 < (y433.length : Int) then ((spec_MelodyMove.f kj3 y428 (rd y433 bt436.1)).bind fun bt439 => (if bt439.2 = true then (some (t411, bt439.1)) else (some (t411, y428)))) else (none)) else (none))))) else (none)) else (none))) else (none)) else (none))) = some (r1, r2) := by rw [if_neg (show ¬ (false = true) by decide)] at H; exact H
    clear H; have H := H1; clear H1; replace H := Option.bind_eq_some_iff.mp H; obtain ⟨⟨t423, t424⟩, A170, H⟩ := H; replace H : (if 0 ≤ t423 then (if t423 < (t411.length : Int) then ((spec_l6Rd_pick.f kj3 t408 t424 (wrap64 ((((rd_T38 t411 t423).f2).length : Int) + 1))).bind fun bt426 => (if 0 ≤ bt426.1 then (if bt426.1 ≤ (((rd_T38 t411 t423).f2).length : Int) then ((some (((rd_T38 t411 t423).f2).take (bt426.1 : Int).toNat : List (S90))).bind fun y428 => ((some (([0, 3, 4, (-3), (-4), 7] : List Int) : List Int)).bind fun y433 => ((spec_l6Rd_pick.f kj3 t408 bt426.2 6).bind fun bt436 => (if 0 ≤ bt436.1 then (if bt436.1 < (y433.length : Int) then ((spec_MelodyMove.f kj3 y428 (rd y433 bt436.1)).bind fun bt439 => (if bt439.2 = true then (some (t411, bt439.1)) else (some (t411, y428)))) else (none)) else (none))))) else (none)) else (none))) else (none)) else (none)) = some (r1, r2) := H; have A17 := Z_.mk A170; clear A170; by_cases c18 : 0 ≤ t423
    ·
     rw [if_pos c18] at H; have c18b0 : decide (0 ≤ t423) = true := decide_eq_true c18; clear c18; by_cases c19 : t423 < (t411.length : Int)
     ·
      rw [if_pos c19] at H; have c19b0 : decide (t423 < (t411.length : Int)) = true := decide_eq_true c19; clear c19; replace H := Option.bind_eq_some_iff.mp H; obtain ⟨⟨t426, t427⟩, A200, H⟩ := H; replace H : (if 0 ≤ t426 then (if t426 ≤ (((rd_T38 t411 t423).f2).length : Int) then ((some (((rd_T38 t411 t423).f2).take (t426 : Int).toNat : List (S90))).bind fun y428 => ((some (([0, 3, 4, (-3), (-4), 7] : List Int) : List Int)).bind fun y433 => ((spec_l6Rd_pick.f kj3 t408 t427 6).bind fun bt436 => (if 0 ≤ bt436.1 then (if bt436.1 < (y433.length : Int) then ((spec_MelodyMove.f kj3 y428 (rd y433 bt436.1)).bind fun bt439 => (if bt439.2 = true then (some (t411, bt439.1)) else (some (t411, y428)))) else (none)) else (none))))) else (none)) else (none)) = some (r1, r2) := H; have A20 := Z_.mk A200; clear A200; by_cases c21 : 0 ≤ t426
      ·
       rw [if_pos c21] at H; have c21b0 := eq_true c21; have c21b1 : decide (0 ≤ t426) = true := decide_eq_true c21; clear c21; by_cases c22 : t426 ≤ (((rd_T38 t411 t423).f2).length : Int)
       ·
        rw [if_pos c22] at H; have c22b0 := eq_true c22; have c22b1 : decide (t426 ≤ (((rd_T38 t411 t423).f2).length : Int)) = true := decide_eq_true c22; clear c22; obtain ⟨y428, hy428⟩ : ∃ y_ : List (S90), y_ = (((rd_T38 t411 t423).f2).take (t426 : Int).toNat) := ⟨_, rfl⟩
        replace H : ((some (([0, 3, 4, (-3), (-4), 7] : List Int) : List Int)).bind fun y433 => ((spec_l6Rd_pick.f kj3 t408 t427 6).bind fun bt436 => (if 0 ≤ bt436.1 then (if bt436.1 < (y433.length : Int) then ((spec_MelodyMove.f kj3 y428 (rd y433 bt436.1)).bind fun bt439 => (if bt439.2 = true then (some (t411, bt439.1)) else (some (t411, y428)))) else (none)) else (none)))) = some (r1, r2) := by first | (rw [hy428]; with_reducible exact H) | (have H2_ := (Option.bind_some _ _).symm.trans H; rw [hy428]; with_reducible exact H2_) | (have H2_ := (Option.bind_some _ _).symm.trans H; with_reducible exact H2_) | with_reducible exact H | (rw [hy428]; exact H) | exact H
        have Ny428 := Z_.mk hy428; clear hy428; obtain ⟨y433, hy433⟩ : ∃ y_ : List Int, y_ = (([0, 3, 4, (-3), (-4), 7] : List Int)) := ⟨_, rfl⟩
        replace H : ((spec_l6Rd_pick.f kj3 t408 t427 6).bind fun bt436 => (if 0 ≤ bt436.1 then (if bt436.1 < (y433.length : Int) then ((spec_MelodyMove.f kj3 y428 (rd y433 bt436.1)).bind fun bt439 => (if bt439.2 = true then (some (t411, bt439.1)) else (some (t411, y428)))) else (none)) else (none))) = some (r1, r2) := by first | (rw [hy433]; with_reducible exact H) | (have H2_ := (Option.bind_some _ _).symm.trans H; rw [hy433]; with_reducible exact H2_) | (have H2_ := (Option.bind_some _ _).symm.trans H; with_reducible exact H2_) | with_reducible exact H | (rw [hy433]; exact H) | exact H
        have Ny433 := Z_.mk hy433; clear hy433; replace H := Option.bind_eq_some_iff.mp H; obtain ⟨⟨t436, t437⟩, A230, H⟩ := H; replace H : (if 0 ≤ t436 then (if t436 < (y433.length : Int) then ((spec_MelodyMove.f kj3 y428 (rd y433 t436)).bind fun bt439 => (if bt439.2 = true then (some (t411, bt439.1)) else (some (t411, y428)))) else (none)) else (none)) = some (r1, r2) := H; have A23 := Z_.mk A230; clear A230; by_cases c24 : 0 ≤ t436
        ·
         rw [if_pos c24] at H; have c24b0 : decide (0 ≤ t436) = true := decide_eq_true c24; clear c24; by_cases c25 : t436 < (y433.length : Int)
         ·
          rw [if_pos c25] at H; have c25b0 : decide (t436 < (y433.length : Int)) = true := decide_eq_true c25; clear c25; replace H := Option.bind_eq_some_iff.mp H; obtain ⟨⟨t439, t440⟩, A260, H⟩ := H; replace H : (if t440 = true then (some (t411, t439)) else (some (t411, y428))) = some (r1, r2) := H; have A26 := Z_.mk A260; clear A260; by_cases c27 : t440 = true
          ·
           subst c27; have H1 : (some (t411, t439)) = some (r1, r2) := by rw [if_pos rfl] at H; exact H
           clear H; have H := H1; clear H1; simp only [Option.some.injEq, Prod.mk.injEq] at H; obtain ⟨rfl, rfl⟩ := H; obtain ⟨Ao28, co28, eo28⟩ := Kd.N_slice HO_5.out; subst eo28; go_wp2_with (first | ((with_reducible refine zp_ (f := 63) rfl ?_); refine goesL_ (some 31) rfl rfl Tryd.func63 (by kernel_rfl) rfl #[.pointer (some ⟨g410, 0, none⟩), .int .i64 (t411.length : Int)] rfl (by (try simp only [List.map_toArray, List.map_cons, List.map_nil]); first | done | rfl | (simp only [List.length_drop, List.length_take]; rfl)) ?_; (with_reducible refine (spec_l6Rd_pick.calls kj3 g410 t408 x411001_3 (t411.length : Int) t423 t424 w _ ?side1 ?side2 A17.out).mono ?_); (case side1 => repeat (first | (with_reducible first | exact HI410.out | apply I_.alloc | apply I_.drewN | apply I_.drew | apply I_.set_1) | exact HI410.out)); (case side2 => repeat (first | (with_reducible first | exact HB.out | apply zc_ | apply za_ | apply zb_ | refine zd_ ?_ (I_.ge HI410.out)) | exact HB.out)); rintro e w29 ⟨rfl, hi, hb, hk⟩; refine ⟨_, rfl, ?_⟩; have n0_ := Z_.mk (Kd.N_mono (Kd.N_keep (Kd.N_mono (ok := fun k_ => (((w.heap.size ≤ k_)) ∧ k_ ≠ g410)) (by (with_reducible repeat (first | apply Kd.N_alloc | apply Kd.N_drewN | apply Kd.N_drew)); exact HO_5.out) (fun k_ hk_ => (⟨hk_, hk_.2⟩ : _ ∧ k_ ≠ g410))) hk (fun _ h => h.2)) (fun _ h => h.1)); have n1_ := Z_.mk (hb); have n2_ := Z_.mk (hi); clear HO_5; clear HB; clear HI410; have HO_5 := n0_; have HB := n1_; have HI410 := n2_; clear n0_ n1_ n2_; have p425 : 0 ≤ (t423 : Int) := of_decide_eq_true (by first | (with_reducible assumption) | assumption); have q425 : t423 < (t411.length : Int) := of_decide_eq_true (by first | (with_reducible assumption) | assumption); obtain ⟨ad425, A425_2, c425_2, e425, hx425_0, hx425_1, hx425_2, hl425_2, hi425_2⟩ := at_T38 (Kd.N_reads' HO_5.out).2.2 t423 p425 q425; cases e425; obtain ⟨ce425, hce425, hMe425, hcc425⟩ := Kd.N_get HO_5.out z38 t423 p425 (by first | exact q425 | exact of_decide_eq_true (by first | (with_reducible assumption) | assumption) | (have e_ := (Kd.N_reads' HO_5.out).1; omega)); obtain ⟨ua425_2, uc425_2, rfl, ul425_2, ge425_2⟩ := k38_openF hMe425; have hv425_2 := hcc425 2 _ rfl; rw [add_field _ _ 2 (by omega)] at hv425_2; replace hv425_2 := Option.some.inj (hv425_2.symm.trans hx425_2); injection hv425_2 with hva_ hvn_ hvc_; rw [hva_] at ge425_2; rw [hvc_] at ul425_2; have HL425_2 := Z_.mk (show Kd.V k90 90 _ w.heap.size _ _ ((rd_T38 t411 t423).f2) from Kd.V_mk ul425_2 ge425_2); clear hva_ hvn_ hvc_ ge425_2 ul425_2; clear hcc425 hce425; have HR425_2 := Z_.mk hi425_2; have HC425_2 := Z_.mk hl425_2; clear hi425_2 hl425_2; replace p425 := eq_true p425; replace q425 := eq_true q425) | ((with_reducible refine zp_ (f := 63) rfl ?_); refine goesL_ (some 40) rfl rfl Tryd.func63 (by kernel_rfl) rfl #[.pointer (some ⟨g410, 0, none⟩), .int .i64 (wrap64 ((((rd_T38 t411 t423).f2).length : Int) + 1))] rfl (by (try simp only [List.map_toArray, List.map_cons, List.map_nil]); first | done | rfl | (simp only [List.length_drop, List.length_take]; rfl)) ?_; (with_reducible refine (spec_l6Rd_pick.calls kj3 g410 t408 t424 (wrap64 ((((rd_T38 t411 t423).f2).length : Int) + 1)) t426 t427 w _ ?side1 ?side2 A20.out).mono ?_); (case side1 => repeat (first | (with_reducible first | exact HI410.out | apply I_.alloc | apply I_.drewN | apply I_.drew | apply I_.set_1) | exact HI410.out)); (case side2 => repeat (first | (with_reducible first | exact HB.out | apply zc_ | apply za_ | apply zb_ | refine zd_ ?_ (I_.ge HI410.out)) | exact HB.out)); rintro e w30 ⟨rfl, hi, hb, hk⟩; refine ⟨_, rfl, ?_⟩; have n0_ := Z_.mk (Kd.N_mono (Kd.N_keep (Kd.N_mono (ok := fun k_ => (((w.heap.size ≤ k_)) ∧ k_ ≠ g410)) (by (with_reducible repeat (first | apply Kd.N_alloc | apply Kd.N_drewN | apply Kd.N_drew)); exact HO_5.out) (fun k_ hk_ => (⟨hk_, hk_.2⟩ : _ ∧ k_ ≠ g410))) hk (fun _ h => h.2)) (fun _ h => h.1)); have n1_ := Z_.mk (Kd.V_mono (Kd.V_keep (Kd.V_mono (ok := fun k_ => ((((w.heap.size ≤ k_)) ∧ k_ ≠ g410) ∧ some k_ ≠ (.slice (some ad425) t411.length co28 : Value).ownBlock)) (by (with_reducible repeat (first | apply Kd.V_alloc | apply Kd.V_drewN | apply Kd.V_drew)); exact HL425_2.out) (fun k_ hk_ => (⟨hk_, hk_.1.2⟩ : _ ∧ k_ ≠ g410))) hk (fun _ h => h.2)) (fun _ h => h.1)); have n2_ := Z_.mk (hb); have n3_ := Z_.mk (hi); clear HO_5; clear HL425_2; clear HB; clear HI410; have HO_5 := n0_; have HL425_2 := n1_; have HB := n2_; have HI410 := n3_; clear n0_ n1_ n2_ n3_; have q31 : (t426 : Int) ≤ ((((rd_T38 t411 t423).f2).length : Int) : Int) := of_decide_eq_true (by first | (with_reducible assumption) | assumption); obtain ⟨i031, hi031, _, hsz31, _⟩ := info_parts info90; have hroom31 : ((rd_T38 t411 t423).f2).length ≤ c425_2 := HC425_2.out; have hC31 : Kd.F k90 _ _ A425_2 ((rd_T38 t411 t423).f2).length ((rd_T38 t411 t423).f2) := (Kd.V_at (base := w.heap.size) HL425_2.out).2.2; have hcut31 := cut_to (P := Tryd.prog) 36 90 .i64 Tryd.underlying36 hi031 A425_2 ((rd_T38 t411 t423).f2).length c425_2 t426 (of_decide_eq_true (by first | (with_reducible assumption) | assumption)) q31 hroom31; have hr31 := Kd.F_take (m := (t426 : Int).toNat) hC31 (by omega); have hy31 : y428.length = (t426 : Int).toNat := (by rw [Ny428.out, List.length_take]; omega); rw [← Ny428.out] at hr31; rw [← hy31] at hcut31; have HO432 := Z_.mk (show Kd.V k90 90 _ w.heap.size _ (.slice A425_2 y428.length c425_2) y428 from Kd.V_mk (by omega) hr31); have HC432 := Z_.mk (show y428.length ≤ c425_2 from by omega); clear hr31 hC31 hroom31 hi031 hsz31; have KY31 := Z_.mk hy31; clear hy31; replace q31 := eq_true q31) | ((with_reducible refine zr_ (N := 44) rfl ?_); refine Kd.R_lit (Kd.int .i64) _ 3 ?hg (N := 44) ?hd (xs := ([0, 3, 4, (-3), (-4), 7] : List Int)) (inner := [.int .i64 0, .int .i64 3, .int .i64 4, .int .i64 (-3), .int .i64 (-4), .int .i64 7]) (ok := fun _ => True) (okp := fun _ => True) ?hr ?hp (fun _ hk => hk) trivial (Below.refl _ _) (Nat.le_refl _) (by simp) ?_; (case hd => rfl); (case hg => rfl); (case hr => first | (go_simp; done) | (go_simp; rfl)); (case hp => exact (Reps.one (show Kd.M (Kd.int .i64) _ _ _ 0 [.int .i64 0] from rfl) (Reps.one (show Kd.M (Kd.int .i64) _ _ _ 3 [.int .i64 3] from rfl) (Reps.one (show Kd.M (Kd.int .i64) _ _ _ 4 [.int .i64 4] from rfl) (Reps.one (show Kd.M (Kd.int .i64) _ _ _ (-3) [.int .i64 (-3)] from rfl) (Reps.one (show Kd.M (Kd.int .i64) _ _ _ (-4) [.int .i64 (-4)] from rfl) (Reps.one (show Kd.M (Kd.int .i64) _ _ _ 7 [.int .i64 7] from rfl) (Reps.none _ _)))))))); intro v434 w32 ho33 hb hg_ hnew_; clear hg_ hnew_; (first | rw [← Ny433.out] at ho33 | (simp only [Int.reduceToNat] at ho33; rw [← Ny433.out] at ho33)); have n0_ := Z_.mk (Kd.N_elder' (by (with_reducible repeat (first | apply Kd.N_alloc | apply Kd.N_drewN | apply Kd.N_drew)); exact HO_5.out) (Kd.R_base ho33) hb); have n1_ := Z_.mk (Kd.V_elder' (by (with_reducible repeat (first | apply Kd.V_alloc | apply Kd.V_drewN | apply Kd.V_drew)); exact HL425_2.out) (Kd.R_base ho33) hb); have n2_ := Z_.mk (Kd.V_elder' (by (with_reducible repeat (first | apply Kd.V_alloc | apply Kd.V_drewN | apply Kd.V_drew)); exact HO432.out) (Kd.R_base ho33) hb); have n3_ := Z_.mk (Kd.R_lower (Kd.R_newM (M := fun k_ => (w.heap.size ≤ k_)) ho33 (zj_ (by repeat (first | (with_reducible first | exact HB.out | apply zc_ | apply za_ | apply zb_ | refine zd_ ?_ (I_.ge HI410.out)) | exact HB.out))) (fun k_ h_ => h_)) (zj_ (by repeat (first | (with_reducible first | exact HB.out | apply zc_ | apply za_ | apply zb_ | refine zd_ ?_ (I_.ge HI410.out)) | exact HB.out)))); have n4_ := Z_.mk (I_.below (by repeat (first | (with_reducible first | exact HI410.out | apply I_.alloc | apply I_.drewN | apply I_.drew | apply I_.set_1) | exact HI410.out)) hb); have n5_ := Z_.mk (ze_ (by repeat (first | (with_reducible first | exact HB.out | apply zc_ | apply za_ | apply zb_ | refine zd_ ?_ (I_.ge HI410.out)) | exact HB.out)) hb); clear HO_5; clear HL425_2; clear HO432; clear HI410; clear HB; have HO_5 := n0_; have HL425_2 := n1_; have HO432 := n2_; have HO435 := n3_; have HI410 := n4_; have HB := n5_; clear n0_ n1_ n2_ n3_ n4_ n5_; clear hb ho33) | ((with_reducible refine zp_ (f := 63) rfl ?_); refine goesL_ (some 46) rfl rfl Tryd.func63 (by kernel_rfl) rfl #[.pointer (some ⟨g410, 0, none⟩), .int .i64 6] rfl (by (try simp only [List.map_toArray, List.map_cons, List.map_nil]); first | done | rfl | (simp only [List.length_drop, List.length_take]; rfl)) ?_; (with_reducible refine (spec_l6Rd_pick.calls kj3 g410 t408 t427 6 t436 t437 w _ ?side1 ?side2 A23.out).mono ?_); (case side1 => repeat (first | (with_reducible first | exact HI410.out | apply I_.alloc | apply I_.drewN | apply I_.drew | apply I_.set_1) | exact HI410.out)); (case side2 => repeat (first | (with_reducible first | exact HB.out | apply zc_ | apply za_ | apply zb_ | refine zd_ ?_ (I_.ge HI410.out)) | exact HB.out)); rintro e w34 ⟨rfl, hi, hb, hk⟩; refine ⟨_, rfl, ?_⟩; have n0_ := Z_.mk (Kd.N_mono (Kd.N_keep (Kd.N_mono (ok := fun k_ => ((((w.heap.size ≤ k_)) ∧ k_ ≠ g410) ∧ some k_ ≠ (v434 : Value).ownBlock)) (by (with_reducible repeat (first | apply Kd.N_alloc | apply Kd.N_drewN | apply Kd.N_drew)); exact HO_5.out) (fun k_ hk_ => (⟨hk_, hk_.1.2⟩ : _ ∧ k_ ≠ g410))) hk (fun _ h => h.2)) (fun _ h => h.1)); have n1_ := Z_.mk (Kd.V_mono (Kd.V_keep (Kd.V_mono (ok := fun k_ => (((((w.heap.size ≤ k_)) ∧ k_ ≠ g410) ∧ some k_ ≠ (.slice (some ad425) t411.length co28 : Value).ownBlock) ∧ some k_ ≠ (v434 : Value).ownBlock)) (by (with_reducible repeat (first | apply Kd.V_alloc | apply Kd.V_drewN | apply Kd.V_drew)); exact HL425_2.out) (fun k_ hk_ => (⟨hk_, hk_.1.1.2⟩ : _ ∧ k_ ≠ g410))) hk (fun _ h => h.2)) (fun _ h => h.1)); have n2_ := Z_.mk (Kd.V_mono (Kd.V_keep (Kd.V_mono (ok := fun k_ => (((((w.heap.size ≤ k_)) ∧ k_ ≠ g410) ∧ some k_ ≠ (.slice (some ad425) t411.length co28 : Value).ownBlock) ∧ some k_ ≠ (v434 : Value).ownBlock)) (by (with_reducible repeat (first | apply Kd.V_alloc | apply Kd.V_drewN | apply Kd.V_drew)); exact HO432.out) (fun k_ hk_ => (⟨hk_, hk_.1.1.2⟩ : _ ∧ k_ ≠ g410))) hk (fun _ h => h.2)) (fun _ h => h.1)); have n3_ := Z_.mk (Kd.R_mono (Kd.R_keep (I_.apart (show I_ w _ g410 t408 t427 from by repeat (first | (with_reducible first | exact HI410.out | apply I_.alloc | apply I_.drewN | apply I_.drew | apply I_.set_1) | exact HI410.out)) (by (with_reducible repeat (first | apply Kd.R_alloc | apply Kd.R_drewN | apply Kd.R_drew)); exact HO435.out) (by decide)) hk (fun _ h => h.2)) (fun _ h => h.1)); have n4_ := Z_.mk (hb); have n5_ := Z_.mk (hi); clear HO_5; clear HL425_2; clear HO432; clear HO435; clear HB; clear HI410; have HO_5 := n0_; have HL425_2 := n1_; have HO432 := n2_; have HO435 := n3_; have HB := n4_; have HI410 := n5_; clear n0_ n1_ n2_ n3_ n4_ n5_; obtain ⟨Ao35, co35, eo35⟩ := Kd.R_slice HO435.out; subst eo35; have p438 : 0 ≤ (t436 : Int) := of_decide_eq_true (by first | (with_reducible assumption) | assumption); have q438 : t436 < (y433.length : Int) := of_decide_eq_true (by first | (with_reducible assumption) | assumption); obtain ⟨ad438, e438, hx438_0⟩ := Kd.at_int (Kd.R_reads' HO435.out).2.2 t436 p438 q438; cases e438; replace p438 := eq_true p438; replace q438 := eq_true q438) | ((with_reducible refine zp_ (f := 75) rfl ?_); refine goesL_ (some 49) rfl rfl Tryd.func75 (by kernel_rfl) rfl #[.slice A425_2 y428.length c425_2, .int .i64 (rd y433 t436)] rfl (by (try simp only [List.map_toArray, List.map_cons, List.map_nil]); first | done | rfl | (simp only [List.length_drop, List.length_take]; rfl)) ?_; (with_reducible refine (spec_MelodyMove.calls kj3 _ _ y428 (rd y433 t436) t439 true _ ?side1 ?side2 A26.out).mono ?_); (case side1 => repeat (first | exact (Kd.V_reads' HO432.out).2.2 | (with_reducible refine Kd.C_alloc ?_ _) | (with_reducible refine Kd.C_drewN ?_ _) | (with_reducible refine Kd.C_drew ?_))); (case side2 => exact (Kd.V_reads' HO432.out).2.1); rintro e w36 ⟨v441, rfl, ho0, hb⟩; refine ⟨_, rfl, ?_⟩; have n0_ := Z_.mk (Kd.N_elder' (by (with_reducible repeat (first | apply Kd.N_alloc | apply Kd.N_drewN | apply Kd.N_drew)); exact HO_5.out) (Kd.R_base ho0) hb); have n1_ := Z_.mk (Kd.V_elder' (by (with_reducible repeat (first | apply Kd.V_alloc | apply Kd.V_drewN | apply Kd.V_drew)); exact HL425_2.out) (Kd.R_base ho0) hb); have n2_ := Z_.mk (Kd.V_elder' (by (with_reducible repeat (first | apply Kd.V_alloc | apply Kd.V_drewN | apply Kd.V_drew)); exact HO432.out) (Kd.R_base ho0) hb); have n3_ := Z_.mk (Kd.R_below (by (with_reducible repeat (first | apply Kd.R_alloc | apply Kd.R_drewN | apply Kd.R_drew)); exact HO435.out) hb); have n4_ := Z_.mk (Kd.R_lower (Kd.R_newM (M := fun k_ => (w.heap.size ≤ k_)) ho0 (zj_ (by repeat (first | (with_reducible first | exact HB.out | apply zc_ | apply za_ | apply zb_ | refine zd_ ?_ (I_.ge HI410.out)) | exact HB.out))) (fun k_ h_ => h_)) (zj_ (by repeat (first | (with_reducible first | exact HB.out | apply zc_ | apply za_ | apply zb_ | refine zd_ ?_ (I_.ge HI410.out)) | exact HB.out)))); have n5_ := Z_.mk (I_.below (by repeat (first | (with_reducible first | exact HI410.out | apply I_.alloc | apply I_.drewN | apply I_.drew | apply I_.set_1) | exact HI410.out)) hb); have n6_ := Z_.mk (ze_ (by repeat (first | (with_reducible first | exact HB.out | apply zc_ | apply za_ | apply zb_ | refine zd_ ?_ (I_.ge HI410.out)) | exact HB.out)) hb); clear HO_5; clear HL425_2; clear HO432; clear HO435; clear HI410; clear HB; have HO_5 := n0_; have HL425_2 := n1_; have HO432 := n2_; have HO435 := n3_; have HO442 := n4_; have HI410 := n5_; have HB := n6_; clear n0_ n1_ n2_ n3_ n4_ n5_ n6_))
           go_ret2
           exact ⟨_, _, by first | rfl | (simp [zn_, zm_] <;> rfl) | (simp [*, zn_, zm_] <;> rfl), by (with_reducible repeat (first | apply Kd.N_alloc | apply Kd.N_drewN | apply Kd.N_drew)); exact Kd.N_mono HO_5.out (fun _ hk => hk.1.1.1), Kd.R_V (by (with_reducible repeat (first | apply Kd.R_alloc | apply Kd.R_drewN | apply Kd.R_drew)); exact Kd.R_mono (Kd.R_apart' HO442.out (Kd.N_typed HO_5.out) (by decide)) (fun _ hk => ⟨hk.1.1, hk.2⟩)), by repeat (first | (with_reducible first | exact HB.out | apply zc_ | apply za_ | apply zb_ | refine zd_ ?_ (I_.ge HI410.out)) | exact HB.out)⟩
          ·
           replace c27 := Bool.eq_false_iff.mpr c27; subst c27; have H1 : (some (t411, y428)) = some (r1, r2) := by rw [if_neg (show ¬ (false = true) by decide)] at H; exact H
           clear H; have H := H1; clear H1; simp only [Option.some.injEq, Prod.mk.injEq] at H; obtain ⟨rfl, rfl⟩ := H; obtain ⟨Ao37, co37, eo37⟩ := Kd.N_slice HO_5.out; subst eo37; go_wp2_with (first | ((with_reducible refine zp_ (f := 63) rfl ?_); refine goesL_ (some 31) rfl rfl Tryd.func63 (by kernel_rfl) rfl #[.pointer (some ⟨g410, 0, none⟩), .int .i64 (t411.length : Int)] rfl (by (try simp only [List.map_toArray, List.map_cons, List.map_nil]); first | done | rfl | (simp only [List.length_drop, List.length_take]; rfl)) ?_; (with_reducible refine (spec_l6Rd_pick.calls kj3 g410 t408 x411001_3 (t411.length : Int) t423 t424 w _ ?side1 ?side2 A17.out).mono ?_); (case side1 => repeat (first | (with_reducible first | exact HI410.out | apply I_.alloc | apply I_.drewN | apply I_.drew | apply I_.set_1) | exact HI410.out)); (case side2 => repeat (first | (with_reducible first | exact HB.out | apply zc_ | apply za_ | apply zb_ | refine zd_ ?_ (I_.ge HI410.out)) | exact HB.out)); rintro e w38 ⟨rfl, hi, hb, hk⟩; refine ⟨_, rfl, ?_⟩; have n0_ := Z_.mk (Kd.N_mono (Kd.N_keep (Kd.N_mono (ok := fun k_ => (((w.heap.size ≤ k_)) ∧ k_ ≠ g410)) (by (with_reducible repeat (first | apply Kd.N_alloc | apply Kd.N_drewN | apply Kd.N_drew)); exact HO_5.out) (fun k_ hk_ => (⟨hk_, hk_.2⟩ : _ ∧ k_ ≠ g410))) hk (fun _ h => h.2)) (fun _ h => h.1)); have n1_ := Z_.mk (hb); have n2_ := Z_.mk (hi); clear HO_5; clear HB; clear HI410; have HO_5 := n0_; have HB := n1_; have HI410 := n2_; clear n0_ n1_ n2_; have p425 : 0 ≤ (t423 : Int) := of_decide_eq_true (by first | (with_reducible assumption) | assumption); have q425 : t423 < (t411.length : Int) := of_decide_eq_true (by first | (with_reducible assumption) | assumption); obtain ⟨ad425, A425_2, c425_2, e425, hx425_0, hx425_1, hx425_2, hl425_2, hi425_2⟩ := at_T38 (Kd.N_reads' HO_5.out).2.2 t423 p425 q425; cases e425; obtain ⟨ce425, hce425, hMe425, hcc425⟩ := Kd.N_get HO_5.out z38 t423 p425 (by first | exact q425 | exact of_decide_eq_true (by first | (with_reducible assumption) | assumption) | (have e_ := (Kd.N_reads' HO_5.out).1; omega)); obtain ⟨ua425_2, uc425_2, rfl, ul425_2, ge425_2⟩ := k38_openF hMe425; have hv425_2 := hcc425 2 _ rfl; rw [add_field _ _ 2 (by omega)] at hv425_2; replace hv425_2 := Option.some.inj (hv425_2.symm.trans hx425_2); injection hv425_2 with hva_ hvn_ hvc_; rw [hva_] at ge425_2; rw [hvc_] at ul425_2; have HL425_2 := Z_.mk (show Kd.V k90 90 _ w.heap.size _ _ ((rd_T38 t411 t423).f2) from Kd.V_mk ul425_2 ge425_2); clear hva_ hvn_ hvc_ ge425_2 ul425_2; clear hcc425 hce425; have HR425_2 := Z_.mk hi425_2; have HC425_2 := Z_.mk hl425_2; clear hi425_2 hl425_2; replace p425 := eq_true p425; replace q425 := eq_true q425) | ((with_reducible refine zp_ (f := 63) rfl ?_); refine goesL_ (some 40) rfl rfl Tryd.func63 (by kernel_rfl) rfl #[.pointer (some ⟨g410, 0, none⟩), .int .i64 (wrap64 ((((rd_T38 t411 t423).f2).length : Int) + 1))] rfl (by (try simp only [List.map_toArray, List.map_cons, List.map_nil]); first | done | rfl | (simp only [List.length_drop, List.length_take]; rfl)) ?_; (with_reducible refine (spec_l6Rd_pick.calls kj3 g410 t408 t424 (wrap64 ((((rd_T38 t411 t423).f2).length : Int) + 1)) t426 t427 w _ ?side1 ?side2 A20.out).mono ?_); (case side1 => repeat (first | (with_reducible first | exact HI410.out | apply I_.alloc | apply I_.drewN | apply I_.drew | apply I_.set_1) | exact HI410.out)); (case side2 => repeat (first | (with_reducible first | exact HB.out | apply zc_ | apply za_ | apply zb_ | refine zd_ ?_ (I_.ge HI410.out)) | exact HB.out)); rintro e w39 ⟨rfl, hi, hb, hk⟩; refine ⟨_, rfl, ?_⟩; have n0_ := Z_.mk (Kd.N_mono (Kd.N_keep (Kd.N_mono (ok := fun k_ => (((w.heap.size ≤ k_)) ∧ k_ ≠ g410)) (by (with_reducible repeat (first | apply Kd.N_alloc | apply Kd.N_drewN | apply Kd.N_drew)); exact HO_5.out) (fun k_ hk_ => (⟨hk_, hk_.2⟩ : _ ∧ k_ ≠ g410))) hk (fun _ h => h.2)) (fun _ h => h.1)); have n1_ := Z_.mk (Kd.V_mono (Kd.V_keep (Kd.V_mono (ok := fun k_ => ((((w.heap.size ≤ k_)) ∧ k_ ≠ g410) ∧ some k_ ≠ (.slice (some ad425) t411.length co37 : Value).ownBlock)) (by (with_reducible repeat (first | apply Kd.V_alloc | apply Kd.V_drewN | apply Kd.V_drew)); exact HL425_2.out) (fun k_ hk_ => (⟨hk_, hk_.1.2⟩ : _ ∧ k_ ≠ g410))) hk (fun _ h => h.2)) (fun _ h => h.1)); have n2_ := Z_.mk (hb); have n3_ := Z_.mk (hi); clear HO_5; clear HL425_2; clear HB; clear HI410; have HO_5 := n0_; have HL425_2 := n1_; have HB := n2_; have HI410 := n3_; clear n0_ n1_ n2_ n3_; have q40 : (t426 : Int) ≤ ((((rd_T38 t411 t423).f2).length : Int) : Int) := of_decide_eq_true (by first | (with_reducible assumption) | assumption); obtain ⟨i040, hi040, _, hsz40, _⟩ := info_parts info90; have hroom40 : ((rd_T38 t411 t423).f2).length ≤ c425_2 := HC425_2.out; have hC40 : Kd.F k90 _ _ A425_2 ((rd_T38 t411 t423).f2).length ((rd_T38 t411 t423).f2) := (Kd.V_at (base := w.heap.size) HL425_2.out).2.2; have hcut40 := cut_to (P := Tryd.prog) 36 90 .i64 Tryd.underlying36 hi040 A425_2 ((rd_T38 t411 t423).f2).length c425_2 t426 (of_decide_eq_true (by first | (with_reducible assumption) | assumption)) q40 hroom40; have hr40 := Kd.F_take (m := (t426 : Int).toNat) hC40 (by omega); have hy40 : y428.length = (t426 : Int).toNat := (by rw [Ny428.out, List.length_take]; omega); rw [← Ny428.out] at hr40; rw [← hy40] at hcut40; have HO432 := Z_.mk (show Kd.V k90 90 _ w.heap.size _ (.slice A425_2 y428.length c425_2) y428 from Kd.V_mk (by omega) hr40); have HC432 := Z_.mk (show y428.length ≤ c425_2 from by omega); clear hr40 hC40 hroom40 hi040 hsz40; have KY40 := Z_.mk hy40; clear hy40; replace q40 := eq_true q40) | ((with_reducible refine zr_ (N := 44) rfl ?_); refine Kd.R_lit (Kd.int .i64) _ 3 ?hg (N := 44) ?hd (xs := ([0, 3, 4, (-3), (-4), 7] : List Int)) (inner := [.int .i64 0, .int .i64 3, .int .i64 4, .int .i64 (-3), .int .i64 (-4), .int .i64 7]) (ok := fun _ => True) (okp := fun _ => True) ?hr ?hp (fun _ hk => hk) trivial (Below.refl _ _) (Nat.le_refl _) (by simp) ?_; (case hd => rfl); (case hg => rfl); (case hr => first | (go_simp; done) | (go_simp; rfl)); (case hp => exact (Reps.one (show Kd.M (Kd.int .i64) _ _ _ 0 [.int .i64 0] from rfl) (Reps.one (show Kd.M (Kd.int .i64) _ _ _ 3 [.int .i64 3] from rfl) (Reps.one (show Kd.M (Kd.int .i64) _ _ _ 4 [.int .i64 4] from rfl) (Reps.one (show Kd.M (Kd.int .i64) _ _ _ (-3) [.int .i64 (-3)] from rfl) (Reps.one (show Kd.M (Kd.int .i64) _ _ _ (-4) [.int .i64 (-4)] from rfl) (Reps.one (show Kd.M (Kd.int .i64) _ _ _ 7 [.int .i64 7] from rfl) (Reps.none _ _)))))))); intro v434 w41 ho42 hb hg_ hnew_; clear hg_ hnew_; (first | rw [← Ny433.out] at ho42 | (simp only [Int.reduceToNat] at ho42; rw [← Ny433.out] at ho42)); have n0_ := Z_.mk (Kd.N_elder' (by (with_reducible repeat (first | apply Kd.N_alloc | apply Kd.N_drewN | apply Kd.N_drew)); exact HO_5.out) (Kd.R_base ho42) hb); have n1_ := Z_.mk (Kd.V_elder' (by (with_reducible repeat (first | apply Kd.V_alloc | apply Kd.V_drewN | apply Kd.V_drew)); exact HL425_2.out) (Kd.R_base ho42) hb); have n2_ := Z_.mk (Kd.V_elder' (by (with_reducible repeat (first | apply Kd.V_alloc | apply Kd.V_drewN | apply Kd.V_drew)); exact HO432.out) (Kd.R_base ho42) hb); have n3_ := Z_.mk (Kd.R_lower (Kd.R_newM (M := fun k_ => (w.heap.size ≤ k_)) ho42 (zj_ (by repeat (first | (with_reducible first | exact HB.out | apply zc_ | apply za_ | apply zb_ | refine zd_ ?_ (I_.ge HI410.out)) | exact HB.out))) (fun k_ h_ => h_)) (zj_ (by repeat (first | (with_reducible first | exact HB.out | apply zc_ | apply za_ | apply zb_ | refine zd_ ?_ (I_.ge HI410.out)) | exact HB.out)))); have n4_ := Z_.mk (I_.below (by repeat (first | (with_reducible first | exact HI410.out | apply I_.alloc | apply I_.drewN | apply I_.drew | apply I_.set_1) | exact HI410.out)) hb); have n5_ := Z_.mk (ze_ (by repeat (first | (with_reducible first | exact HB.out | apply zc_ | apply za_ | apply zb_ | refine zd_ ?_ (I_.ge HI410.out)) | exact HB.out)) hb); clear HO_5; clear HL425_2; clear HO432; clear HI410; clear HB; have HO_5 := n0_; have HL425_2 := n1_; have HO432 := n2_; have HO435 := n3_; have HI410 := n4_; have HB := n5_; clear n0_ n1_ n2_ n3_ n4_ n5_; clear hb ho42) | ((with_reducible refine zp_ (f := 63) rfl ?_); refine goesL_ (some 46) rfl rfl Tryd.func63 (by kernel_rfl) rfl #[.pointer (some ⟨g410, 0, none⟩), .int .i64 6] rfl (by (try simp only [List.map_toArray, List.map_cons, List.map_nil]); first | done | rfl | (simp only [List.length_drop, List.length_take]; rfl)) ?_; (with_reducible refine (spec_l6Rd_pick.calls kj3 g410 t408 t427 6 t436 t437 w _ ?side1 ?side2 A23.out).mono ?_); (case side1 => repeat (first | (with_reducible first | exact HI410.out | apply I_.alloc | apply I_.drewN | apply I_.drew | apply I_.set_1) | exact HI410.out)); (case side2 => repeat (first | (with_reducible first | exact HB.out | apply zc_ | apply za_ | apply zb_ | refine zd_ ?_ (I_.ge HI410.out)) | exact HB.out)); rintro e w43 ⟨rfl, hi, hb, hk⟩; refine ⟨_, rfl, ?_⟩; have n0_ := Z_.mk (Kd.N_mono (Kd.N_keep (Kd.N_mono (ok := fun k_ => ((((w.heap.size ≤ k_)) ∧ k_ ≠ g410) ∧ some k_ ≠ (v434 : Value).ownBlock)) (by (with_reducible repeat (first | apply Kd.N_alloc | apply Kd.N_drewN | apply Kd.N_drew)); exact HO_5.out) (fun k_ hk_ => (⟨hk_, hk_.1.2⟩ : _ ∧ k_ ≠ g410))) hk (fun _ h => h.2)) (fun _ h => h.1)); have n1_ := Z_.mk (Kd.V_mono (Kd.V_keep (Kd.V_mono (ok := fun k_ => (((((w.heap.size ≤ k_)) ∧ k_ ≠ g410) ∧ some k_ ≠ (.slice (some ad425) t411.length co37 : Value).ownBlock) ∧ some k_ ≠ (v434 : Value).ownBlock)) (by (with_reducible repeat (first | apply Kd.V_alloc | apply Kd.V_drewN | apply Kd.V_drew)); exact HL425_2.out) (fun k_ hk_ => (⟨hk_, hk_.1.1.2⟩ : _ ∧ k_ ≠ g410))) hk (fun _ h => h.2)) (fun _ h => h.1)); have n2_ := Z_.mk (Kd.V_mono (Kd.V_keep (Kd.V_mono (ok := fun k_ => (((((w.heap.size ≤ k_)) ∧ k_ ≠ g410) ∧ some k_ ≠ (.slice (some ad425) t411.length co37 : Value).ownBlock) ∧ some k_ ≠ (v434 : Value).ownBlock)) (by (with_reducible repeat (first | apply Kd.V_alloc | apply Kd.V_drewN | apply Kd.V_drew)); exact HO432.out) (fun k_ hk_ => (⟨hk_, hk_.1.1.2⟩ : _ ∧ k_ ≠ g410))) hk (fun _ h => h.2)) (fun _ h => h.1)); have n3_ := Z_.mk (Kd.R_mono (Kd.R_keep (I_.apart (show I_ w _ g410 t408 t427 from by repeat (first | (with_reducible first | exact HI410.out | apply I_.alloc | apply I_.drewN | apply I_.drew | apply I_.set_1) | exact HI410.out)) (by (with_reducible repeat (first | apply Kd.R_alloc | apply Kd.R_drewN | apply Kd.R_drew)); exact HO435.out) (by decide)) hk (fun _ h => h.2)) (fun _ h => h.1)); have n4_ := Z_.mk (hb); have n5_ := Z_.mk (hi); clear HO_5; clear HL425_2; clear HO432; clear HO435; clear HB; clear HI410; have HO_5 := n0_; have HL425_2 := n1_; have HO432 := n2_; have HO435 := n3_; have HB := n4_; have HI410 := n5_; clear n0_ n1_ n2_ n3_ n4_ n5_; obtain ⟨Ao44, co44, eo44⟩ := Kd.R_slice HO435.out; subst eo44; have p438 : 0 ≤ (t436 : Int) := of_decide_eq_true (by first | (with_reducible assumption) | assumption); have q438 : t436 < (y433.length : Int) := of_decide_eq_true (by first | (with_reducible assumption) | assumption); obtain ⟨ad438, e438, hx438_0⟩ := Kd.at_int (Kd.R_reads' HO435.out).2.2 t436 p438 q438; cases e438; replace p438 := eq_true p438; replace q438 := eq_true q438) | ((with_reducible refine zp_ (f := 75) rfl ?_); refine goesL_ (some 49) rfl rfl Tryd.func75 (by kernel_rfl) rfl #[.slice A425_2 y428.length c425_2, .int .i64 (rd y433 t436)] rfl (by (try simp only [List.map_toArray, List.map_cons, List.map_nil]); first | done | rfl | (simp only [List.length_drop, List.length_take]; rfl)) ?_; (with_reducible refine (spec_MelodyMove.calls kj3 _ _ y428 (rd y433 t436) t439 false _ ?side1 ?side2 A26.out).mono ?_); (case side1 => repeat (first | exact (Kd.V_reads' HO432.out).2.2 | (with_reducible refine Kd.C_alloc ?_ _) | (with_reducible refine Kd.C_drewN ?_ _) | (with_reducible refine Kd.C_drew ?_))); (case side2 => exact (Kd.V_reads' HO432.out).2.1); rintro e w45 ⟨v441, rfl, ho0, hb⟩; refine ⟨_, rfl, ?_⟩; have n0_ := Z_.mk (Kd.N_elder' (by (with_reducible repeat (first | apply Kd.N_alloc | apply Kd.N_drewN | apply Kd.N_drew)); exact HO_5.out) (Kd.R_base ho0) hb); have n1_ := Z_.mk (Kd.V_elder' (by (with_reducible repeat (first | apply Kd.V_alloc | apply Kd.V_drewN | apply Kd.V_drew)); exact HL425_2.out) (Kd.R_base ho0) hb); have n2_ := Z_.mk (Kd.V_elder' (by (with_reducible repeat (first | apply Kd.V_alloc | apply Kd.V_drewN | apply Kd.V_drew)); exact HO432.out) (Kd.R_base ho0) hb); have n3_ := Z_.mk (Kd.R_below (by (with_reducible repeat (first | apply Kd.R_alloc | apply Kd.R_drewN | apply Kd.R_drew)); exact HO435.out) hb); have n4_ := Z_.mk (Kd.R_lower (Kd.R_newM (M := fun k_ => (w.heap.size ≤ k_)) ho0 (zj_ (by repeat (first | (with_reducible first | exact HB.out | apply zc_ | apply za_ | apply zb_ | refine zd_ ?_ (I_.ge HI410.out)) | exact HB.out))) (fun k_ h_ => h_)) (zj_ (by repeat (first | (with_reducible first | exact HB.out | apply zc_ | apply za_ | apply zb_ | refine zd_ ?_ (I_.ge HI410.out)) | exact HB.out)))); have n5_ := Z_.mk (I_.below (by repeat (first | (with_reducible first | exact HI410.out | apply I_.alloc | apply I_.drewN | apply I_.drew | apply I_.set_1) | exact HI410.out)) hb); have n6_ := Z_.mk (ze_ (by repeat (first | (with_reducible first | exact HB.out | apply zc_ | apply za_ | apply zb_ | refine zd_ ?_ (I_.ge HI410.out)) | exact HB.out)) hb); clear HO_5; clear HL425_2; clear HO432; clear HO435; clear HI410; clear HB; have HO_5 := n0_; have HL425_2 := n1_; have HO432 := n2_; have HO435 := n3_; have HO442 := n4_; have HI410 := n5_; have HB := n6_; clear n0_ n1_ n2_ n3_ n4_ n5_ n6_))
           go_ret2
           exact ⟨_, _, by first | rfl | (simp [zn_, zm_] <;> rfl) | (simp [*, zn_, zm_] <;> rfl), by (with_reducible repeat (first | apply Kd.N_alloc | apply Kd.N_drewN | apply Kd.N_drew)); exact Kd.N_mono HO_5.out (fun _ hk => hk.1.1.1), by (with_reducible repeat (first | apply Kd.V_alloc | apply Kd.V_drewN | apply Kd.V_drew)); exact Kd.V_mono HO432.out (fun _ hk => ⟨hk.1.1.1.1, hk.1.1.2⟩), by repeat (first | (with_reducible first | exact HB.out | apply zc_ | apply za_ | apply zb_ | refine zd_ ?_ (I_.ge HI410.out)) | exact HB.out)⟩
         ·
          rw [if_neg c25] at H; exact absurd H (by simp)
        ·
         rw [if_neg c24] at H; exact absurd H (by simp)
       ·
        rw [if_neg c22] at H; exact absurd H (by simp)
      ·
       rw [if_neg c21] at H; exact absurd H (by simp)
     ·
      rw [if_neg c19] at H; exact absurd H (by simp)
    ·
     rw [if_neg c18] at H; exact absurd H (by simp)

end Go.Proofs.YtmacedbpdhkagaaDoor.PFnTonaryFind
namespace Go.Proofs.YtmacedbpdhkagaaDoor.PFnTonaryFind
open Go.RowKit Go.Proofs.YtmacedbpdhkagaaDoorW.PrintWords Go.Proofs.YtmacedbpdhkagaaDoorW.PrintLast Go.Proofs.YtmacedbpdhkagaaDoorW.PrintMore
attribute [local go_sem] max2_int min2_int max_two min_two max_three min_three max_four min_four   -- for this text's walks alone
set_option linter.unusedVariables false
set_option linter.unusedSimpArgs false

def laws_sameInts.l0 : Nat → List Int → List Int → Int → Option (Bool)
 | 0, _, _, _ => none
 | k + 1, x0, x1, x5 => if x5 < (x0.length : Int) then (if 0 ≤ x5 then (if x5 < (x1.length : Int) then (if (rd x0 x5) = (rd x1 x5) then (laws_sameInts.l0 k x0 x1 (wrap64 (x5 + 1))) else (some false)) else (none)) else (none)) else (some true)
def laws_sameInts.f (k : Nat) (l0 : List Int) (l1 : List Int) : Option (Bool) := if (l0.length : Int) = (l1.length : Int) then (laws_sameInts.l0 k l0 l1 0) else (some false)
set_option maxHeartbeats 8000000 in
set_option maxRecDepth 100000 in
theorem laws_sameInts.calls (k : Nat) (A0 : Option Addr) (c0 : Nat) (l0 : List Int) (A1 : Option Addr) (c1 : Nat) (l1 : List Int) (r : Bool) (w : World) (hr0 : Kd.C (Kd.int .i64) w A0 l0.length l0) (hc0 : l0.length ≤ c0) (hr1 : Kd.C (Kd.int .i64) w A1 l1.length l1) (hc1 : l1.length ≤ c1) (h : laws_sameInts.f k l0 l1 = some r) :
 Calls Tryd.prog 40 #[.slice A0 l0.length c0, .slice A1 l1.length c1] w fun e w' => e = .returned (.bool r) ∧ Drawn0 w w' := by
 have HR0 := Z_.mk hr0; have HC0 := Z_.mk hc0; clear hr0 hc0; have HR1 := Z_.mk hr1; have HC1 := Z_.mk hc1; clear hr1 hc1; have H : (if (l0.length : Int) = (l1.length : Int) then (laws_sameInts.l0 k l0 l1 0) else (some false)) = some r := h; clear h; by_cases c3 : (l0.length : Int) = (l1.length : Int)
 ·
  rw [if_pos c3] at H; have c3b0 : ((l0.length : Int) == (l1.length : Int)) = true := beq_iff_eq.mpr c3; have c3b1 : ((l0.length : Int) != (l1.length : Int)) = false := bne_eq_false_iff_eq.mpr c3; have c3b2 : (l0.length == l1.length) = true := by first | simpa using c3 | (simp at c3 ⊢; omega)
  clear c3; have H' := Z_.mk H; clear H; go_enter Tryd.func40, Tryd.ntmps40
  go_wp2; repeat (go_quiet (fail); try go_wp2)
  go_loopg [5] k (fun kq v5 w' => ∃ (x5_1 : Int), v5 = .int .i64 x5_1 ∧ Z_ (laws_sameInts.l0 kq l0 l1 x5_1 = some r) ∧ Z_ (kq ≤ k) ∧ Drawn0 w w')
  case atStart => exact ⟨(0), (by first | rfl | (simp; done) | (simp [*]; done)), H', ⟨Nat.le_refl _⟩, by repeat (first | exact Drawn0.refl _ | apply Drawn0.step)⟩
  case round =>
   clear H'; try clear c1
   try clear p2
   try clear c3
   try clear c3b0
   try clear c3b1
   try clear c3b2
   obtain ⟨x5_1, rfl, HA, HK1, ⟨m1, rfl⟩⟩ := hrel; cases gk with
   | zero => exact absurd HA.out (by simp [laws_sameInts.l0])
   | succ k1 =>
    have H := HA.out; clear HA; simp only [laws_sameInts.l0] at H; by_cases c4 : x5_1 < (l0.length : Int)
    ·
     rw [if_pos c4] at H; have c4b0 : decide (x5_1 < (l0.length : Int)) = true := decide_eq_true c4; clear c4; by_cases c5 : 0 ≤ x5_1
     ·
      rw [if_pos c5] at H; have c5b0 : decide (0 ≤ x5_1) = true := decide_eq_true c5; clear c5; by_cases c6 : x5_1 < (l1.length : Int)
      ·
       rw [if_pos c6] at H; have c6b0 : decide (x5_1 < (l1.length : Int)) = true := decide_eq_true c6; clear c6; by_cases c7 : (rd l0 x5_1) = (rd l1 x5_1)
       ·
        rw [if_pos c7] at H; have c7b0 : ((rd l0 x5_1) == (rd l1 x5_1)) = true := beq_iff_eq.mpr c7; have c7b1 : ((rd l0 x5_1) != (rd l1 x5_1)) = false := bne_eq_false_iff_eq.mpr c7; clear c7; have H' := Z_.mk H; clear H; have p443 : 0 ≤ (x5_1 : Int) := of_decide_eq_true (by first | (with_reducible assumption) | assumption); have q443 : x5_1 < (l0.length : Int) := of_decide_eq_true (by first | (with_reducible assumption) | assumption); obtain ⟨ad443, e443, hx443_0⟩ := Kd.at_int HR0.out x5_1 p443 q443; cases e443; replace p443 := eq_true p443; replace q443 := eq_true q443; have p444 : 0 ≤ (x5_1 : Int) := of_decide_eq_true (by first | (with_reducible assumption) | assumption); have q444 : x5_1 < (l1.length : Int) := of_decide_eq_true (by first | (with_reducible assumption) | assumption); obtain ⟨ad444, e444, hx444_0⟩ := Kd.at_int HR1.out x5_1 p444 q444; cases e444; replace p444 := eq_true p444; replace q444 := eq_true q444; go_wp2; repeat (go_quiet (fail); try go_wp2)
        go_roundg k1
        case measure => have := HK1.out; omega
        case rel => exact ⟨(wrap64 (x5_1 + 1)), (by first | rfl | (simp; done) | (simp [*]; done)), H', ⟨by have := HK1.out; omega⟩, by repeat (first | exact Drawn0.refl _ | apply Drawn0.step)⟩
       ·
        rw [if_neg c7] at H; have c7b0 : ((rd l0 x5_1) == (rd l1 x5_1)) = false := beq_eq_false_iff_ne.mpr c7; have c7b1 : ((rd l0 x5_1) != (rd l1 x5_1)) = true := bne_iff_ne.mpr c7; obtain rfl := Option.some.inj H; have p443 : 0 ≤ (x5_1 : Int) := of_decide_eq_true (by first | (with_reducible assumption) | assumption); have q443 : x5_1 < (l0.length : Int) := of_decide_eq_true (by first | (with_reducible assumption) | assumption); obtain ⟨ad443, e443, hx443_0⟩ := Kd.at_int HR0.out x5_1 p443 q443; cases e443; replace p443 := eq_true p443; replace q443 := eq_true q443; have p444 : 0 ≤ (x5_1 : Int) := of_decide_eq_true (by first | (with_reducible assumption) | assumption); have q444 : x5_1 < (l1.length : Int) := of_decide_eq_true (by first | (with_reducible assumption) | assumption); obtain ⟨ad444, e444, hx444_0⟩ := Kd.at_int HR1.out x5_1 p444 q444; cases e444; replace p444 := eq_true p444; replace q444 := eq_true q444; go_wp2; repeat (go_quiet (fail); try go_wp2)
        go_ret
        exact ⟨by first | rfl | (simp; done) | (simp [*]; done), by repeat (first | exact Drawn0.refl _ | apply Drawn0.step)⟩
      ·
       rw [if_neg c6] at H; exact absurd H (by simp)
     ·
      rw [if_neg c5] at H; exact absurd H (by simp)
    ·
     rw [if_neg c4] at H; have c4b0 : decide (x5_1 < (l0.length : Int)) = false := decide_eq_false c4; clear c4; obtain rfl := Option.some.inj H; go_wp2; repeat (go_quiet (fail); try go_wp2)
     go_ret
     exact ⟨by first | rfl | (simp; done) | (simp [*]; done), by repeat (first | exact Drawn0.refl _ | apply Drawn0.step)⟩
 ·
  rw [if_neg c3] at H; have c3b0 : ((l0.length : Int) == (l1.length : Int)) = false := beq_eq_false_iff_ne.mpr c3; have c3b1 : ((l0.length : Int) != (l1.length : Int)) = true := bne_iff_ne.mpr c3; have c3b2 : (l0.length == l1.length) = false := by first | simpa using c3 | (simp at c3 ⊢; omega)
  obtain rfl := Option.some.inj H; go_enter Tryd.func40, Tryd.ntmps40
  go_wp2; repeat (go_quiet (fail); try go_wp2)
  go_ret
  exact ⟨by first | rfl | (simp; done) | (simp [*]; done), by repeat (first | exact Drawn0.refl _ | apply Drawn0.step)⟩

end Go.Proofs.YtmacedbpdhkagaaDoor.PFnTonaryFind
namespace Go.Proofs.YtmacedbpdhkagaaDoor.PFnTonaryFind
set_option linter.unusedVariables false
set_option linter.unusedSimpArgs false
open Go Go.RowKit Go.Proofs.YtmacedbpdhkagaaDoor.Pure Go.Proofs.YtmacedbpdhkagaaDoorW.PrintWords Go.Proofs.YtmacedbpdhkagaaDoorW.PrintLast Go.Proofs.YtmacedbpdhkagaaDoorW.PrintMore
def impl_MelodyMove.f (l0 : List S90) (a1 : Int) : Option (List S90 × Bool) := if l0.length ≤ 1000000000000 then some (mmove l0 a1) else none
theorem impl_MelodyMove.calls (A0 : Option Addr) (c0 : Nat) (l0 : List S90) (a1 : Int) (r1 : List S90) (r2 : Bool) (w : World) (ht : DTab w) (hr0 : Kd.C k90 w A0 l0.length l0) (hc0 : l0.length ≤ c0) (h : impl_MelodyMove.f l0 a1 = some (r1, r2)) :
 Calls Tryd.prog 42 #[.slice A0 l0.length c0, .int .i64 a1] w fun e w' => ∃ v0_ : Value, e = .returned (.tuple #[v0_, .bool r2]) ∧ Kd.R k90 90 w' w.heap.size (fun _ => True) v0_ r1 ∧ Below w.heap.size w w' := by
 unfold impl_MelodyMove.f at h; split at h
 ·
  rename_i hh
  injection h with h
  have := impl_MelodyMove_calls l0 a1 A0 c0 w ht.h hr0 hc0 hh; rw [h] at this; exact this
 ·
  cases h

end Go.Proofs.YtmacedbpdhkagaaDoor.PFnTonaryFind
namespace Go.Proofs.YtmacedbpdhkagaaDoor.PFnTonaryFind
open Go.RowKit Go.Proofs.YtmacedbpdhkagaaDoorW.PrintWords Go.Proofs.YtmacedbpdhkagaaDoorW.PrintLast Go.Proofs.YtmacedbpdhkagaaDoorW.PrintMore Go.Proofs.YtmacedbpdhkagaaDoor.Pure
attribute [local go_sem] max2_int min2_int max_two min_two max_three min_three max_four min_four   -- for this text's walks alone
set_option linter.unusedVariables false
set_option linter.unusedSimpArgs false

mutual
def laws_FnTonaryFind.j0 : Nat → List Int → List Int → Bool → Option (Bool)
 | 0, _, _, _ => none
 | k + 1, x0, x1, x23 => if x23 = true then (some true) else ((spec_DrawTonaryFind.f k x0).bind fun bt459 => ((impl_TonaryFind.f k bt459.1 bt459.2).bind fun t465 => ((spec_TonaryFind.f k bt459.1 bt459.2).bind fun t468 => ((laws_sameInts.f k t465 t468).bind fun t471 => (if t471 = true then (laws_FnTonaryFind.j1 k x1 bt459.1 bt459.2 t465 t468 ((t465.length : Int) == 0)) else (laws_FnTonaryFind.j1 k x1 bt459.1 bt459.2 t465 t468 true))))))
def laws_FnTonaryFind.j1 : Nat → List Int → List (S38) → List (S90) → List Int → List Int → Bool → Option (Bool)
 | 0, _, _, _, _, _, _ => none
 | k + 1, x1, x5, x6, x7, x8, x43 => if x43 = true then ((laws_sameInts.f k x7 x8).bind fun t472 => (some t472)) else (laws_FnTonaryFind.l0 k x1 x5 x6 x7 0)
def laws_FnTonaryFind.l0 : Nat → List Int → List (S38) → List (S90) → List Int → Int → Option (Bool)
 | 0, _, _, _, _, _ => none
 | k + 1, x1, x5, x6, x7, x9 => if x9 < (x7.length : Int) then (if 0 ≤ x9 then (if 0 ≤ (rd x7 x9) then (if (rd x7 x9) < (x5.length : Int) then (if (((rd_T38 x5 (rd x7 x9)).f2).length : Int) < (x6.length : Int) then (some false) else (if 0 ≤ (x6.length : Int) then (if (x6.length : Int) ≤ (((rd_T38 x5 (rd x7 x9)).f2).length : Int) then ((impl_MelodySame.f (((rd_T38 x5 (rd x7 x9)).f2).take ((x6.length : Int) : Int).toNat) x6).bind fun t482 => (if t482 = true then (if x9 > 0 then (if 0 ≤ (wrap64 (x9 - 1)) then (if (wrap64 (x9 - 1)) < (x7.length : Int) then (if (rd x7 x9) ≤ (rd x7 (wrap64 (x9 - 1))) then (some false) else (laws_FnTonaryFind.l0 k x1 x5 x6 x7 (wrap64 (x9 + 1)))) else (none)) else (none)) else (laws_FnTonaryFind.l0 k x1 x5 x6 x7 (wrap64 (x9 + 1)))) else (some false))) else (none)) else (none))) else (none)) else (none)) else (none)) else (if (wrap64 ((x6.length : Int) + 1)) = 0 then (none) else (if 0 ≤ ((x1.length : Int) % (wrap64 ((x6.length : Int) + 1))) then (if ((x1.length : Int) % (wrap64 ((x6.length : Int) + 1))) ≤ (x6.length : Int) then ((impl_TonaryFind.f k x5 (x6.take (((x1.length : Int) % (wrap64 ((x6.length : Int) + 1))) : Int).toNat)).bind fun t490 => (laws_FnTonaryFind.l1 k x5 x6 x7 t490 0 0)) else (none)) else (none)))
def laws_FnTonaryFind.l1 : Nat → List (S38) → List (S90) → List Int → List Int → Int → Int → Option (Bool)
 | 0, _, _, _, _, _, _ => none
 | k + 1, x5, x6, x7, x11, x12, x13 => if x13 < (x11.length : Int) then (laws_FnTonaryFind.j4 k x5 x6 x7 x11 x12 x13 (decide (x12 < (x7.length : Int)))) else (laws_FnTonaryFind.j4 k x5 x6 x7 x11 x12 x13 false)
def laws_FnTonaryFind.j4 : Nat → List (S38) → List (S90) → List Int → List Int → Int → Int → Bool → Option (Bool)
 | 0, _, _, _, _, _, _, _ => none
 | k + 1, x5, x6, x7, x11, x12, x13, x117 => if x117 = true then (if 0 ≤ x13 then (if x13 < (x11.length : Int) then (if 0 ≤ x12 then (if x12 < (x7.length : Int) then (if (rd x11 x13) = (rd x7 x12) then (laws_FnTonaryFind.l1 k x5 x6 x7 x11 (wrap64 (x12 + 1)) (wrap64 (x13 + 1))) else (laws_FnTonaryFind.l1 k x5 x6 x7 x11 x12 (wrap64 (x13 + 1)))) else (none)) else (none)) else (none)) else (none)) else ((impl_MelodyMove.f x6 3).bind fun bt495 => (if x12 = (x7.length : Int) then (if bt495.2 = true then ((impl_TonaryFind.f k x5 bt495.1).bind fun t499 => ((laws_sameInts.f k t499 x7).bind fun t502 => (some t502))) else (some true)) else (some false)))
end
def laws_FnTonaryFind.f (k : Nat) (l0 : List Int) (l1 : List Int) : Option (Bool) := if (l0.length : Int) > 1048576 then (laws_FnTonaryFind.j0 k l0 l1 true) else (laws_FnTonaryFind.j0 k l0 l1 (decide ((l1.length : Int) > 1048576)))
def laws_FnTonaryFind.T11 : Bool × List (List Nat × List Nat) := (true, [([], []), ([], []), ([], []), ([1, 2], [1, 2]), ([3], [3]), ([0, 4], [0, 4]), ([5], [5]), ([6], [6]), ([7], [7]), ([], []), ([9], [9]), ([8, 10], [8, 10]), ([11], [11]), ([12], [12]), ([12], [12]), ([12], [12]), ([14, 15, 12], [12, 14, 15]), ([16, 12], [12, 16]), ([13, 17, 12], [12, 13, 17]), ([18, 12], [12, 18]), ([19, 12], [12, 19]), ([12], [12]), ([21, 12], [12, 21]), ([20, 22, 12], [12, 20, 22]), ([12], [12]), ([23, 24, 12, 12], [12, 23, 24]), ([25, 12], [12, 25]), ([12, 26], [12, 26]), ([27, 25], [27]), ([28], [28]), ([29, 28], [28, 29]), ([30, 28, 28], [28, 30]), ([31], [31]), ([31], [31]), ([32, 33, 31], [31, 32, 33]), ([34, 31], [31, 34]), ([31], [31]), ([31], [31]), ([37, 31], [31, 37]), ([36, 38, 31], [31, 36, 38]), ([39, 31], [31, 39]), ([35, 40, 31], [31, 35, 40]), ([31, 41, 28], [28, 31, 41]), ([28, 42], [28, 42])])
def laws_FnTonaryFind.B11 : List Nat := [0, 0, 0, 6, 14, 31, 63, 127, 255, 0, 512, 2047, 4095, 8191, 8191, 8191, 57343, 122879, 262143, 524287, 1048575, 8191, 2105343, 8388607, 8191, 33554431, 67108863, 134217727, 268435455, 536870911, 1073741823, 2147483647, 4294967295, 4294967295, 17179869183, 34359738367, 4294967295, 4294967295, 141733920767, 485331304447, 1035087118335, 2199023255551, 4398046511103, 8796093022207]
theorem laws_FnTonaryFind.tab11 : rtab .any (opsOf Tryd.f10 11) = laws_FnTonaryFind.T11 := by kernel_rfl
theorem laws_FnTonaryFind.bits11 : waitsOk laws_FnTonaryFind.T11.2 laws_FnTonaryFind.B11 = true := by kernel_rfl
def laws_FnTonaryFind.T19 : Bool × List (List Nat × List Nat) := (true, [([], []), ([], []), ([0, 1], [0, 1]), ([2], [2]), ([], []), ([], []), ([4, 5], [4, 5]), ([6], [6]), ([3, 7], [3, 7])])
def laws_FnTonaryFind.B19 : List Nat := [0, 0, 3, 7, 0, 0, 48, 112, 255]
theorem laws_FnTonaryFind.tab19 : rtab .any (opsOf Tryd.f10 19) = laws_FnTonaryFind.T19 := by kernel_rfl
theorem laws_FnTonaryFind.bits19 : waitsOk laws_FnTonaryFind.T19.2 laws_FnTonaryFind.B19 = true := by kernel_rfl
set_option maxHeartbeats 8000000 in
set_option maxRecDepth 100000 in
theorem laws_FnTonaryFind.calls (k : Nat) (A0 : Option Addr) (c0 : Nat) (l0 : List Int) (A1 : Option Addr) (c1 : Nat) (l1 : List Int) (r : Bool) (w : World) (ht : DTab w) (hr0 : Kd.C (Kd.int .u8) w A0 l0.length l0) (hc0 : l0.length ≤ c0) (hr1 : Kd.C (Kd.int .u8) w A1 l1.length l1) (hc1 : l1.length ≤ c1) (hr : r = true) (h : laws_FnTonaryFind.f k l0 l1 = some r) :
 Calls Tryd.prog 10 #[.slice A0 l0.length c0, .slice A1 l1.length c1] w fun e w' => e = .returned (.bool r) ∧ Below w.heap.size w w' := by
 have HRR := Z_.mk hr; clear hr; have HT := Z_.mk ht; clear ht; have HR0 := Z_.mk hr0; have HC0 := Z_.mk hc0; clear hr0 hc0; have HR1 := Z_.mk hr1; have HC1 := Z_.mk hc1; clear hr1 hc1; have HB := Z_.mk (Below.refl w.heap.size w); have H : (if (l0.length : Int) > 1048576 then (laws_FnTonaryFind.j0 k l0 l1 true) else (laws_FnTonaryFind.j0 k l0 l1 (decide ((l1.length : Int) > 1048576)))) = some r := h; clear h; have HC3 := Z_.mk H; clear H; go_enter Tryd.func10, Tryd.ntmps10
 go_upto_region 1 with (fail)
 go_cut [23] (fun v23 wc => ∃ (kq : Nat) (x23_2 : Bool), v23 = .bool x23_2 ∧ Z_ (laws_FnTonaryFind.j0 kq l0 l1 x23_2 = some r) ∧ Z_ (kq ≤ k) ∧ Z_ (Below w.heap.size w wc))
 case first =>
  have H := HC3.out; clear HC3; by_cases c4 : (l0.length : Int) > 1048576
  ·
   rw [if_pos c4] at H; have c4b0 : decide (1048576 < (l0.length : Int)) = true := decide_eq_true c4; have c4b1 : decide (1048576 < l0.length) = true := decide_eq_true (by omega); clear c4; (first | rw [c4b0] | (simp only [i64_w, i32_w]; rw [c4b0]) | skip)
   have H' := Z_.mk H; clear H; go_wp2; go_meet
   case rel => exact ⟨_, (true), (by first | rfl | (simp; done) | (simp [*]; done)), H', ⟨by first | omega | exact Nat.le_refl _⟩, ⟨by repeat (first | (with_reducible first | exact HB.out | apply zc_ | apply za_ | apply zb_) | exact HB.out)⟩⟩
  ·
   rw [if_neg c4] at H; have c4b0 : decide (1048576 < (l0.length : Int)) = false := decide_eq_false c4; have c4b1 : decide (1048576 < l0.length) = false := decide_eq_false (by omega); clear c4; (first | rw [c4b0] | (simp only [i64_w, i32_w]; rw [c4b0]) | skip)
   have H' := Z_.mk H; clear H; go_wp2; go_meet
   case rel => exact ⟨_, (decide ((l1.length : Int) > 1048576)), (by first | rfl | (simp; done) | (simp [*]; done)), H', ⟨by first | omega | exact Nat.le_refl _⟩, ⟨by repeat (first | (with_reducible first | exact HB.out | apply zc_ | apply za_ | apply zb_) | exact HB.out)⟩⟩
 case rest =>
  clear HC3; try clear c1
  try clear p2
  try clear c4
  try clear c4b0
  try clear c4b1
  obtain ⟨kq, x23_2, rfl, HA, HJ2, HB⟩ := hcut; cases kq with
  | zero => exact absurd HA.out (by simp [laws_FnTonaryFind.j0])
  | succ kj2 =>
   have H := HA.out; clear HA; simp only [laws_FnTonaryFind.j0] at H; by_cases c5 : x23_2 = true
   ·
    subst c5; have H1 : (some true) = some r := by rw [if_pos rfl] at H; exact H
    clear H; have H := H1; clear H1; obtain rfl := Option.some.inj H; go_wp2; go_ret
    exact ⟨by first | rfl | (simp [zn_, zm_] <;> rfl) | (simp [*, zn_, zm_] <;> rfl), by repeat (first | (with_reducible first | exact HB.out | apply zc_ | apply za_ | apply zb_) | exact HB.out)⟩
   ·
    replace c5 := Bool.eq_false_iff.mpr c5; subst c5; have H1 : ((spec_DrawTonaryFind.f kj2 l0).bind fun bt459 => ((impl_TonaryFind.f kj2 bt459.1 bt459.2).bind fun t465 => ((spec_TonaryFind.f kj2 bt459.1 bt459.2).bind fun t468 => ((laws_sameInts.f kj2 t465 t468).bind fun t471 => (if t471 = true then (laws_FnTonaryFind.j1 kj2 l1 bt459.1 bt459.2 t465 t468 ((t465.length : Int) == 0)) else (laws_FnTonaryFind.j1 kj2 l1 bt459.1 bt459.2 t465 t468 true)))))) = some r := by rw [if_neg (show ¬ (false = true) by decide)] at H; exact H
    clear H; have H := H1; clear H1; replace H := Option.bind_eq_some_iff.mp H; obtain ⟨⟨t459, t462⟩, A60, H⟩ := H; replace H : ((impl_TonaryFind.f kj2 t459 t462).bind fun t465 => ((spec_TonaryFind.f kj2 t459 t462).bind fun t468 => ((laws_sameInts.f kj2 t465 t468).bind fun t471 => (if t471 = true then (laws_FnTonaryFind.j1 kj2 l1 t459 t462 t465 t468 ((t465.length : Int) == 0)) else (laws_FnTonaryFind.j1 kj2 l1 t459 t462 t465 t468 true))))) = some r := H; have A6 := Z_.mk A60; clear A60; replace H := Option.bind_eq_some_iff.mp H; obtain ⟨t465, A70, H⟩ := H; replace H : ((spec_TonaryFind.f kj2 t459 t462).bind fun t468 => ((laws_sameInts.f kj2 t465 t468).bind fun t471 => (if t471 = true then (laws_FnTonaryFind.j1 kj2 l1 t459 t462 t465 t468 ((t465.length : Int) == 0)) else (laws_FnTonaryFind.j1 kj2 l1 t459 t462 t465 t468 true)))) = some r := H; have A7 := Z_.mk A70; clear A70; replace H := Option.bind_eq_some_iff.mp H; obtain ⟨t468, A80, H⟩ := H; replace H : ((laws_sameInts.f kj2 t465 t468).bind fun t471 => (if t471 = true then (laws_FnTonaryFind.j1 kj2 l1 t459 t462 t465 t468 ((t465.length : Int) == 0)) else (laws_FnTonaryFind.j1 kj2 l1 t459 t462 t465 t468 true))) = some r := H; have A8 := Z_.mk A80; clear A80; have HC9 := Z_.mk H; clear H; go_upto_region 6 with (first | ((with_reducible refine zp_ (f := 39) rfl ?_); refine goesL_ (some 26) rfl rfl Tryd.func39 (by kernel_rfl) rfl #[.slice A0 l0.length c0] rfl (by (try simp only [List.map_toArray, List.map_cons, List.map_nil]); first | done | rfl | (simp only [List.length_drop, List.length_take]; rfl)) ?_; (with_reducible refine (spec_DrawTonaryFind.calls kj2 _ _ l0 t459 t462 _ ?side1 ?side2 A6.out).mono ?_); (case side1 => repeat (first | exact (Kd.C_below HR0.out HB.out) | (with_reducible refine Kd.C_alloc ?_ _) | (with_reducible refine Kd.C_drewN ?_ _) | (with_reducible refine Kd.C_drew ?_))); (case side2 => exact HC0.out); rintro e w10 ⟨v460, v463, rfl, ho0, ho1, hb⟩; refine ⟨_, rfl, ?_⟩; have n0_ := Z_.mk (Kd.N_lower (Kd.N_mono (ok' := fun k_ => True) ho0 (fun k_ hk_ => trivial)) (zj_ (by repeat (first | (with_reducible first | exact HB.out | apply zc_ | apply za_ | apply zb_) | exact HB.out)))); have n1_ := Z_.mk (Kd.V_lower (Kd.V_mono (ok' := fun k_ => some k_ ≠ (v460 : Value).ownBlock) ho1 (fun k_ hk_ => hk_.2)) (zj_ (by repeat (first | (with_reducible first | exact HB.out | apply zc_ | apply za_ | apply zb_) | exact HB.out)))); have n2_ := Z_.mk (ze_ (by repeat (first | (with_reducible first | exact HB.out | apply zc_ | apply za_ | apply zb_) | exact HB.out)) hb); clear HB; have HO461 := n0_; have HO464 := n1_; have HB := n2_; clear n0_ n1_ n2_; (try clear ho1); obtain ⟨Ao11, co11, eo11⟩ := Kd.N_slice HO461.out; subst eo11; obtain ⟨Ao12, co12, eo12⟩ := Kd.V_slice HO464.out; subst eo12) | ((with_reducible refine zp_ (f := 31) rfl ?_); refine goesL_ (some 31) rfl rfl Tryd.func31 (by kernel_rfl) rfl #[.slice Ao11 t459.length co11, .slice Ao12 t462.length co12] rfl (by (try simp only [List.map_toArray, List.map_cons, List.map_nil]); first | done | rfl | (simp only [List.length_drop, List.length_take]; rfl)) ?_; (with_reducible refine (impl_TonaryFind.calls kj2 _ _ t459 _ _ t462 t465 _ ?side1 ?side2 ?side3 ?side4 A7.out (ht := HT.out.below (by repeat (first | (with_reducible first | exact HB.out | apply zc_ | apply za_ | apply zb_) | exact HB.out)))).mono ?_); (case side1 => repeat (first | exact (Kd.N_reads' HO461.out).2.2 | (with_reducible refine Kd.C_alloc ?_ _) | (with_reducible refine Kd.C_drewN ?_ _) | (with_reducible refine Kd.C_drew ?_))); (case side2 => exact (Kd.N_reads' HO461.out).2.1); (case side3 => repeat (first | exact (Kd.V_reads' HO464.out).2.2 | (with_reducible refine Kd.C_alloc ?_ _) | (with_reducible refine Kd.C_drewN ?_ _) | (with_reducible refine Kd.C_drew ?_))); (case side4 => exact (Kd.V_reads' HO464.out).2.1); rintro e w13 ⟨v466, rfl, ho0, hb⟩; refine ⟨_, rfl, ?_⟩; have n0_ := Z_.mk (Kd.N_elder' (by (with_reducible repeat (first | apply Kd.N_alloc | apply Kd.N_drewN | apply Kd.N_drew)); exact HO461.out) (Kd.R_base ho0) hb); have n1_ := Z_.mk (Kd.V_elder' (by (with_reducible repeat (first | apply Kd.V_alloc | apply Kd.V_drewN | apply Kd.V_drew)); exact HO464.out) (Kd.R_base ho0) hb); have n2_ := Z_.mk (Kd.R_lower ho0 (zj_ (by repeat (first | (with_reducible first | exact HB.out | apply zc_ | apply za_ | apply zb_) | exact HB.out)))); have n3_ := Z_.mk (ze_ (by repeat (first | (with_reducible first | exact HB.out | apply zc_ | apply za_ | apply zb_) | exact HB.out)) hb); clear HO461; clear HO464; clear HB; have HO461 := n0_; have HO464 := n1_; have HO467 := n2_; have HB := n3_; clear n0_ n1_ n2_ n3_) | ((with_reducible refine zp_ (f := 29) rfl ?_); refine goesL_ (some 34) rfl rfl Tryd.func29 (by kernel_rfl) rfl #[.slice Ao11 t459.length co11, .slice Ao12 t462.length co12] rfl (by (try simp only [List.map_toArray, List.map_cons, List.map_nil]); first | done | rfl | (simp only [List.length_drop, List.length_take]; rfl)) ?_; (with_reducible refine (spec_TonaryFind.calls kj2 _ _ t459 _ _ t462 t468 _ ?side1 ?side2 ?side3 ?side4 A8.out).mono ?_); (case side1 => repeat (first | exact (Kd.N_reads' HO461.out).2.2 | (with_reducible refine Kd.C_alloc ?_ _) | (with_reducible refine Kd.C_drewN ?_ _) | (with_reducible refine Kd.C_drew ?_))); (case side2 => exact (Kd.N_reads' HO461.out).2.1); (case side3 => repeat (first | exact (Kd.V_reads' HO464.out).2.2 | (with_reducible refine Kd.C_alloc ?_ _) | (with_reducible refine Kd.C_drewN ?_ _) | (with_reducible refine Kd.C_drew ?_))); (case side4 => exact (Kd.V_reads' HO464.out).2.1); rintro e w14 ⟨v469, rfl, ho0, hb⟩; refine ⟨_, rfl, ?_⟩; have n0_ := Z_.mk (Kd.N_elder' (by (with_reducible repeat (first | apply Kd.N_alloc | apply Kd.N_drewN | apply Kd.N_drew)); exact HO461.out) (Kd.R_base ho0) hb); have n1_ := Z_.mk (Kd.V_elder' (by (with_reducible repeat (first | apply Kd.V_alloc | apply Kd.V_drewN | apply Kd.V_drew)); exact HO464.out) (Kd.R_base ho0) hb); have n2_ := Z_.mk (Kd.R_elder' (by (with_reducible repeat (first | apply Kd.R_alloc | apply Kd.R_drewN | apply Kd.R_drew)); exact HO467.out) (Kd.R_base ho0) hb); have n3_ := Z_.mk (Kd.R_lower (Kd.R_new' ho0 (Kd.R_lt (by (with_reducible repeat (first | apply Kd.R_alloc | apply Kd.R_drewN | apply Kd.R_drew)); exact HO467.out))) (zj_ (by repeat (first | (with_reducible first | exact HB.out | apply zc_ | apply za_ | apply zb_) | exact HB.out)))); have n4_ := Z_.mk (ze_ (by repeat (first | (with_reducible first | exact HB.out | apply zc_ | apply za_ | apply zb_) | exact HB.out)) hb); clear HO461; clear HO464; clear HO467; clear HB; have HO461 := n0_; have HO464 := n1_; have HO467 := n2_; have HO470 := n3_; have HB := n4_; clear n0_ n1_ n2_ n3_ n4_))
    (try simp only [Act.put, y1_, y2_, y3_])
    go_cut [43] (fun v43 wc => ∃ (kq : Nat) (x43_8 : Bool), v43 = .bool x43_8 ∧ Z_ (laws_FnTonaryFind.j1 kq l1 t459 t462 t465 t468 x43_8 = some r) ∧ Z_ (kq ≤ kj2) ∧ Z_ (Kd.N k38 38 wc w.heap.size (fun k_ => some k_ ≠ (v466 : Value).ownBlock ∧ some k_ ≠ (v469 : Value).ownBlock) (.slice Ao11 t459.length co11) t459) ∧ Z_ (Kd.V k90 90 wc w.heap.size (fun k_ => some k_ ≠ ((.slice Ao11 t459.length co11) : Value).ownBlock ∧ some k_ ≠ (v466 : Value).ownBlock ∧ some k_ ≠ (v469 : Value).ownBlock) (.slice Ao12 t462.length co12) t462) ∧ Z_ (Kd.R (Kd.int .i64) 3 wc w.heap.size (fun k_ => some k_ ≠ (v469 : Value).ownBlock) v466 t465) ∧ Z_ (Kd.R (Kd.int .i64) 3 wc w.heap.size (fun k_ => some k_ ≠ (v466 : Value).ownBlock) v469 t468) ∧ Z_ (Below w.heap.size w wc))
    case first =>
     have H := HC9.out; clear HC9; replace H := Option.bind_eq_some_iff.mp H; obtain ⟨t471, A150, H⟩ := H; replace H : (if t471 = true then (laws_FnTonaryFind.j1 kj2 l1 t459 t462 t465 t468 ((t465.length : Int) == 0)) else (laws_FnTonaryFind.j1 kj2 l1 t459 t462 t465 t468 true)) = some r := H; have A15 := Z_.mk A150; clear A150; by_cases c16 : t471 = true
     ·
      subst c16; have H1 : (laws_FnTonaryFind.j1 kj2 l1 t459 t462 t465 t468 ((t465.length : Int) == 0)) = some r := by rw [if_pos rfl] at H; exact H
      clear H; have H := H1; clear H1; have H' := Z_.mk H; clear H; obtain ⟨Ao17, co17, eo17⟩ := Kd.R_slice HO467.out; subst eo17; obtain ⟨Ao18, co18, eo18⟩ := Kd.R_slice HO470.out; subst eo18; go_wp2_with (first | ((with_reducible refine zp_ (f := 40) rfl ?_); refine goesL_ (some 37) rfl rfl Tryd.func40 (by kernel_rfl) rfl #[.slice Ao17 t465.length co17, .slice Ao18 t468.length co18] rfl (by (try simp only [List.map_toArray, List.map_cons, List.map_nil]); first | done | rfl | (simp only [List.length_drop, List.length_take]; rfl)) ?_; (with_reducible refine (laws_sameInts.calls kj2 _ _ t465 _ _ t468 true _ ?side1 ?side2 ?side3 ?side4 A15.out).mono ?_); (case side1 => repeat (first | exact (Kd.R_reads' HO467.out).2.2 | (with_reducible refine Kd.C_alloc ?_ _) | (with_reducible refine Kd.C_drewN ?_ _) | (with_reducible refine Kd.C_drew ?_))); (case side2 => exact (Kd.R_reads' HO467.out).2.1); (case side3 => repeat (first | exact (Kd.R_reads' HO470.out).2.2 | (with_reducible refine Kd.C_alloc ?_ _) | (with_reducible refine Kd.C_drewN ?_ _) | (with_reducible refine Kd.C_drew ?_))); (case side4 => exact (Kd.R_reads' HO470.out).2.1); rintro e w' ⟨rfl, ⟨nd, rfl⟩⟩; refine ⟨_, rfl, ?_⟩))
      go_meet
      case rel => exact ⟨_, (((t465.length : Int) == 0)), (by first | rfl | (simp; done) | (simp [*]; done)), H', ⟨by have := HJ2.out; first | omega | exact Nat.le_refl _⟩, ⟨by (with_reducible repeat (first | apply Kd.N_alloc | apply Kd.N_drewN | apply Kd.N_drew)); exact Kd.N_mono HO461.out (fun _ hk => ⟨hk.1.2, hk.2⟩)⟩, ⟨by (with_reducible repeat (first | apply Kd.V_alloc | apply Kd.V_drewN | apply Kd.V_drew)); exact Kd.V_mono HO464.out (fun _ hk => ⟨hk.1.1, ⟨hk.1.2, hk.2⟩⟩)⟩, ⟨by (with_reducible repeat (first | apply Kd.R_alloc | apply Kd.R_drewN | apply Kd.R_drew)); exact Kd.R_mono HO467.out (fun _ hk => hk.2)⟩, ⟨by (with_reducible repeat (first | apply Kd.R_alloc | apply Kd.R_drewN | apply Kd.R_drew)); exact Kd.R_mono HO470.out (fun _ hk => hk.2)⟩, ⟨by repeat (first | (with_reducible first | exact HB.out | apply zc_ | apply za_ | apply zb_) | exact HB.out)⟩⟩
     ·
      replace c16 := Bool.eq_false_iff.mpr c16; subst c16; have H1 : (laws_FnTonaryFind.j1 kj2 l1 t459 t462 t465 t468 true) = some r := by rw [if_neg (show ¬ (false = true) by decide)] at H; exact H
      clear H; have H := H1; clear H1; have H' := Z_.mk H; clear H; obtain ⟨Ao19, co19, eo19⟩ := Kd.R_slice HO467.out; subst eo19; obtain ⟨Ao20, co20, eo20⟩ := Kd.R_slice HO470.out; subst eo20; go_wp2_with (first | ((with_reducible refine zp_ (f := 40) rfl ?_); refine goesL_ (some 37) rfl rfl Tryd.func40 (by kernel_rfl) rfl #[.slice Ao19 t465.length co19, .slice Ao20 t468.length co20] rfl (by (try simp only [List.map_toArray, List.map_cons, List.map_nil]); first | done | rfl | (simp only [List.length_drop, List.length_take]; rfl)) ?_; (with_reducible refine (laws_sameInts.calls kj2 _ _ t465 _ _ t468 false _ ?side1 ?side2 ?side3 ?side4 A15.out).mono ?_); (case side1 => repeat (first | exact (Kd.R_reads' HO467.out).2.2 | (with_reducible refine Kd.C_alloc ?_ _) | (with_reducible refine Kd.C_drewN ?_ _) | (with_reducible refine Kd.C_drew ?_))); (case side2 => exact (Kd.R_reads' HO467.out).2.1); (case side3 => repeat (first | exact (Kd.R_reads' HO470.out).2.2 | (with_reducible refine Kd.C_alloc ?_ _) | (with_reducible refine Kd.C_drewN ?_ _) | (with_reducible refine Kd.C_drew ?_))); (case side4 => exact (Kd.R_reads' HO470.out).2.1); rintro e w' ⟨rfl, ⟨nd, rfl⟩⟩; refine ⟨_, rfl, ?_⟩))
      go_meet
      case rel => exact ⟨_, (true), (by first | rfl | (simp; done) | (simp [*]; done)), H', ⟨by have := HJ2.out; first | omega | exact Nat.le_refl _⟩, ⟨by (with_reducible repeat (first | apply Kd.N_alloc | apply Kd.N_drewN | apply Kd.N_drew)); exact Kd.N_mono HO461.out (fun _ hk => ⟨hk.1.2, hk.2⟩)⟩, ⟨by (with_reducible repeat (first | apply Kd.V_alloc | apply Kd.V_drewN | apply Kd.V_drew)); exact Kd.V_mono HO464.out (fun _ hk => ⟨hk.1.1, ⟨hk.1.2, hk.2⟩⟩)⟩, ⟨by (with_reducible repeat (first | apply Kd.R_alloc | apply Kd.R_drewN | apply Kd.R_drew)); exact Kd.R_mono HO467.out (fun _ hk => hk.2)⟩, ⟨by (with_reducible repeat (first | apply Kd.R_alloc | apply Kd.R_drewN | apply Kd.R_drew)); exact Kd.R_mono HO470.out (fun _ hk => hk.2)⟩, ⟨by repeat (first | (with_reducible first | exact HB.out | apply zc_ | apply za_ | apply zb_) | exact HB.out)⟩⟩
    case rest =>
     clear HC9; try clear c1
     try clear c2
     try clear p2
     try clear c3
     try clear c4
     try clear c4b0
     try clear c4b1
     try clear c5
     try clear c10
     try clear c16
     try clear p2
     obtain ⟨kq, x43_8, rfl, HA, HJ8, HO_5, HO_6, HO_7, HO_8, HB⟩ := hcut; cases kq with
     | zero => exact absurd HA.out (by simp [laws_FnTonaryFind.j1])
     | succ kj8 =>
      have H := HA.out; clear HA; simp only [laws_FnTonaryFind.j1] at H; by_cases c21 : x43_8 = true
      ·
       subst c21; have H1 : ((laws_sameInts.f kj8 t465 t468).bind fun t472 => (some t472)) = some r := by rw [if_pos rfl] at H; exact H
       clear H; have H := H1; clear H1; replace H := Option.bind_eq_some_iff.mp H; obtain ⟨t472, A220, H⟩ := H; replace H : (some t472) = some r := H; have A22 := Z_.mk A220; clear A220; obtain rfl := Option.some.inj H; obtain ⟨Ao23, co23, eo23⟩ := Kd.R_slice HO_7.out; subst eo23; obtain ⟨Ao24, co24, eo24⟩ := Kd.R_slice HO_8.out; subst eo24; go_wp2_with (first | ((with_reducible refine zp_ (f := 40) rfl ?_); refine goesL_ (some 46) rfl rfl Tryd.func40 (by kernel_rfl) rfl #[.slice Ao23 t465.length co23, .slice Ao24 t468.length co24] rfl (by (try simp only [List.map_toArray, List.map_cons, List.map_nil]); first | done | rfl | (simp only [List.length_drop, List.length_take]; rfl)) ?_; (with_reducible refine (laws_sameInts.calls kj8 _ _ t465 _ _ t468 t472 _ ?side1 ?side2 ?side3 ?side4 A22.out).mono ?_); (case side1 => repeat (first | exact (Kd.R_reads' HO_7.out).2.2 | (with_reducible refine Kd.C_alloc ?_ _) | (with_reducible refine Kd.C_drewN ?_ _) | (with_reducible refine Kd.C_drew ?_))); (case side2 => exact (Kd.R_reads' HO_7.out).2.1); (case side3 => repeat (first | exact (Kd.R_reads' HO_8.out).2.2 | (with_reducible refine Kd.C_alloc ?_ _) | (with_reducible refine Kd.C_drewN ?_ _) | (with_reducible refine Kd.C_drew ?_))); (case side4 => exact (Kd.R_reads' HO_8.out).2.1); rintro e w' ⟨rfl, ⟨nd, rfl⟩⟩; refine ⟨_, rfl, ?_⟩))
       go_ret
       exact ⟨by first | rfl | (simp [zn_, zm_] <;> rfl) | (simp [*, zn_, zm_] <;> rfl), by repeat (first | (with_reducible first | exact HB.out | apply zc_ | apply za_ | apply zb_) | exact HB.out)⟩
      ·
       replace c21 := Bool.eq_false_iff.mpr c21; subst c21; have H1 : (laws_FnTonaryFind.l0 kj8 l1 t459 t462 t465 0) = some r := by rw [if_neg (show ¬ (false = true) by decide)] at H; exact H
       clear H; have H := H1; clear H1; have H' := Z_.mk H; clear H; go_wp2; go_loopg [9] kj8 (fun kq v9 w' => ∃ (x9_3 : Int), v9 = .int .i64 x9_3 ∧ Z_ (laws_FnTonaryFind.l0 kq l1 t459 t462 t465 x9_3 = some r) ∧ Z_ (kq ≤ kj8) ∧ Z_ (Kd.N k38 38 w' w.heap.size (fun k_ => some k_ ≠ (v466 : Value).ownBlock) (.slice Ao11 t459.length co11) t459) ∧ Z_ (Kd.V k90 90 w' w.heap.size (fun k_ => some k_ ≠ ((.slice Ao11 t459.length co11) : Value).ownBlock ∧ some k_ ≠ (v466 : Value).ownBlock) (.slice Ao12 t462.length co12) t462) ∧ Z_ (Kd.R (Kd.int .i64) 3 w' w.heap.size (fun _ => True) v466 t465) ∧ Z_ (Below w.heap.size w w'))
       case atStart => exact ⟨(0), (by first | rfl | (simp; done) | (simp [*]; done)), H', ⟨Nat.le_refl _⟩, ⟨by (with_reducible repeat (first | apply Kd.N_alloc | apply Kd.N_drewN | apply Kd.N_drew)); exact Kd.N_mono HO_5.out (fun _ hk => hk.1)⟩, ⟨by (with_reducible repeat (first | apply Kd.V_alloc | apply Kd.V_drewN | apply Kd.V_drew)); exact Kd.V_mono HO_6.out (fun _ hk => ⟨hk.1, hk.2.1⟩)⟩, ⟨by (with_reducible repeat (first | apply Kd.R_alloc | apply Kd.R_drewN | apply Kd.R_drew)); exact Kd.R_mono HO_7.out (fun _ hk => trivial)⟩, ⟨by repeat (first | (with_reducible first | exact HB.out | apply zc_ | apply za_ | apply zb_) | exact HB.out)⟩⟩
       case round =>
        clear H'; try clear c1
        try clear c2
        try clear p2
        try clear c3
        try clear c4
        try clear c4b0
        try clear c4b1
        try clear c5
        try clear c10
        try clear c16
        try clear c21
        try clear p2
        obtain ⟨x9_3, rfl, HA, HK3, HO_5, HO_6, HO_7, HB⟩ := hrel; cases gk with
        | zero => exact absurd HA.out (by simp [laws_FnTonaryFind.l0])
        | succ k3 =>
         have H := HA.out; clear HA; simp only [laws_FnTonaryFind.l0] at H; by_cases c25 : x9_3 < (t465.length : Int)
         ·
          rw [if_pos c25] at H; have c25b0 : decide (x9_3 < (t465.length : Int)) = true := decide_eq_true c25; clear c25; by_cases c26 : 0 ≤ x9_3
          ·
           rw [if_pos c26] at H; have c26b0 : decide (0 ≤ x9_3) = true := decide_eq_true c26; clear c26; by_cases c27 : 0 ≤ (rd t465 x9_3)
           ·
            rw [if_pos c27] at H; have c27b0 : decide (0 ≤ (rd t465 x9_3)) = true := decide_eq_true c27; clear c27; by_cases c28 : (rd t465 x9_3) < (t459.length : Int)
            ·
             rw [if_pos c28] at H; have c28b0 : decide ((rd t465 x9_3) < (t459.length : Int)) = true := decide_eq_true c28; clear c28; by_cases c29 : (((rd_T38 t459 (rd t465 x9_3)).f2).length : Int) < (t462.length : Int)
             ·
              rw [if_pos c29] at H; exact absurd (H.trans (congrArg some HRR.out)) (by simp)
             ·
              rw [if_neg c29] at H; have c29b0 : decide ((((rd_T38 t459 (rd t465 x9_3)).f2).length : Int) < (t462.length : Int)) = false := decide_eq_false c29; have c29b1 : decide (((rd_T38 t459 (rd t465 x9_3)).f2).length < t462.length) = false := decide_eq_false (fun h => c29 (Int.ofNat_lt.mpr h)); clear c29; by_cases c32 : 0 ≤ (t462.length : Int)
              ·
               rw [if_pos c32] at H; have c32b0 := eq_true c32; have c32b1 : decide (0 ≤ (t462.length : Int)) = true := decide_eq_true c32; clear c32; by_cases c33 : (t462.length : Int) ≤ (((rd_T38 t459 (rd t465 x9_3)).f2).length : Int)
               ·
                rw [if_pos c33] at H; have c33b0 := eq_true c33; have c33b1 : decide ((t462.length : Int) ≤ (((rd_T38 t459 (rd t465 x9_3)).f2).length : Int)) = true := decide_eq_true c33; clear c33; obtain ⟨y477, hy477⟩ : ∃ y_ : List (S90), y_ = (((rd_T38 t459 (rd t465 x9_3)).f2).take ((t462.length : Int) : Int).toNat) := ⟨_, rfl⟩
                replace H : ((impl_MelodySame.f y477 t462).bind fun t482 => (if t482 = true then (if x9_3 > 0 then (if 0 ≤ (wrap64 (x9_3 - 1)) then (if (wrap64 (x9_3 - 1)) < (t465.length : Int) then (if (rd t465 x9_3) ≤ (rd t465 (wrap64 (x9_3 - 1))) then (some false) else (laws_FnTonaryFind.l0 k3 l1 t459 t462 t465 (wrap64 (x9_3 + 1)))) else (none)) else (none)) else (laws_FnTonaryFind.l0 k3 l1 t459 t462 t465 (wrap64 (x9_3 + 1)))) else (some false))) = some r := by first | (rw [hy477]; with_reducible exact H) | (have H2_ := (Option.bind_some _ _).symm.trans H; rw [hy477]; with_reducible exact H2_) | (have H2_ := (Option.bind_some _ _).symm.trans H; with_reducible exact H2_) | with_reducible exact H | (rw [hy477]; exact H) | exact H
                have Ny477 := Z_.mk hy477; clear hy477; replace H := Option.bind_eq_some_iff.mp H; obtain ⟨t482, A340, H⟩ := H; replace H : (if t482 = true then (if x9_3 > 0 then (if 0 ≤ (wrap64 (x9_3 - 1)) then (if (wrap64 (x9_3 - 1)) < (t465.length : Int) then (if (rd t465 x9_3) ≤ (rd t465 (wrap64 (x9_3 - 1))) then (some false) else (laws_FnTonaryFind.l0 k3 l1 t459 t462 t465 (wrap64 (x9_3 + 1)))) else (none)) else (none)) else (laws_FnTonaryFind.l0 k3 l1 t459 t462 t465 (wrap64 (x9_3 + 1)))) else (some false)) = some r := H; have A34 := Z_.mk A340; clear A340; by_cases c35 : t482 = true
                ·
                 subst c35; have H1 : (if x9_3 > 0 then (if 0 ≤ (wrap64 (x9_3 - 1)) then (if (wrap64 (x9_3 - 1)) < (t465.length : Int) then (if (rd t465 x9_3) ≤ (rd t465 (wrap64 (x9_3 - 1))) then (some false) else (laws_FnTonaryFind.l0 k3 l1 t459 t462 t465 (wrap64 (x9_3 + 1)))) else (none)) else (none)) else (laws_FnTonaryFind.l0 k3 l1 t459 t462 t465 (wrap64 (x9_3 + 1)))) = some r := by rw [if_pos rfl] at H; exact H
                 clear H; have H := H1; clear H1; by_cases c36 : x9_3 > 0
                 ·
                  rw [if_pos c36] at H; have c36b0 : decide (0 < x9_3) = true := decide_eq_true c36; clear c36; obtain ⟨ji37, hji37⟩ : ∃ j_ : Int, (wrap64 (x9_3 - 1)) = j_ := ⟨_, rfl⟩
                  replace H : (if 0 ≤ (ji37) then (if (ji37) < (t465.length : Int) then (if (rd t465 x9_3) ≤ (rd t465 (ji37)) then (some false) else (laws_FnTonaryFind.l0 k3 l1 t459 t462 t465 (wrap64 (x9_3 + 1)))) else (none)) else (none)) = some r := by first | (rw [hji37] at H; exact H) | (simp only [hji37] at H ⊢; exact H)
                  (try rw [hji37] at A34)
                  have hji37w : (IntKind.i64.wrap (x9_3 - 1)) = ji37 := (i64_w _).trans hji37; by_cases c38 : 0 ≤ (ji37)
                  ·
                   rw [if_pos c38] at H; have c38b0 : decide (0 ≤ (ji37)) = true := decide_eq_true c38; clear c38; by_cases c39 : (ji37) < (t465.length : Int)
                   ·
                    rw [if_pos c39] at H; have c39b0 : decide ((ji37) < (t465.length : Int)) = true := decide_eq_true c39; clear c39; by_cases c40 : (rd t465 x9_3) ≤ (rd t465 (ji37))
                    ·
                     rw [if_pos c40] at H; exact absurd (H.trans (congrArg some HRR.out)) (by simp)
                    ·
                     rw [if_neg c40] at H; have c40b0 : decide ((rd t465 x9_3) ≤ (rd t465 (ji37))) = false := decide_eq_false c40; clear c40; have H' := Z_.mk H; clear H; obtain ⟨Ao45, co45, eo45⟩ := Kd.R_slice HO_7.out; subst eo45; try go_wp2
                     have n0_ := Z_.mk (Kd.N_drew HO_5.out); have n1_ := Z_.mk (Kd.V_drew HO_6.out); have n2_ := Z_.mk (Kd.R_drew HO_7.out); have n3_ := Z_.mk (zb_ HB.out); clear HO_5; clear HO_6; clear HO_7; clear HB; have HO_5 := n0_; have HO_6 := n1_; have HO_7 := n2_; have HB := n3_; clear n0_ n1_ n2_ n3_; have p473 : 0 ≤ (x9_3 : Int) := of_decide_eq_true (by first | (with_reducible assumption) | assumption); have q473 : x9_3 < (t465.length : Int) := of_decide_eq_true (by first | (with_reducible assumption) | assumption); obtain ⟨ad473, e473, hx473_0⟩ := Kd.at_int (Kd.R_reads' HO_7.out).2.2 x9_3 p473 q473; cases e473; replace p473 := eq_true p473; replace q473 := eq_true q473; have p474 : 0 ≤ ((rd t465 x9_3) : Int) := of_decide_eq_true (by first | (with_reducible assumption) | assumption); have q474 : (rd t465 x9_3) < (t459.length : Int) := of_decide_eq_true (by first | (with_reducible assumption) | assumption); obtain ⟨ad474, A474_2, c474_2, e474, hx474_0, hx474_1, hx474_2, hl474_2, hi474_2⟩ := at_T38 (Kd.N_reads' HO_5.out).2.2 (rd t465 x9_3) p474 q474; have hq474_2 := hx474_2; cases e474; obtain ⟨ce474, hce474, hMe474, hcc474⟩ := Kd.N_get HO_5.out z38 (rd t465 x9_3) p474 (by first | exact q474 | exact of_decide_eq_true (by first | (with_reducible assumption) | assumption) | (have e_ := (Kd.N_reads' HO_5.out).1; omega)); obtain ⟨ua474_2, uc474_2, rfl, ul474_2, ge474_2⟩ := k38_openF hMe474; have hv474_2 := hcc474 2 _ rfl; rw [add_field _ _ 2 (by omega)] at hv474_2; replace hv474_2 := Option.some.inj (hv474_2.symm.trans hx474_2); injection hv474_2 with hva_ hvn_ hvc_
                     rw [hva_] at ge474_2; rw [hvc_] at ul474_2; have HL474_2 := Z_.mk (show Kd.V k90 90 _ w.heap.size _ _ ((rd_T38 t459 (rd t465 x9_3)).f2) from Kd.V_mk ul474_2 ge474_2); clear hva_ hvn_ hvc_ ge474_2 ul474_2; clear hcc474 hce474; have HR474_2 := Z_.mk hi474_2; have HC474_2 := Z_.mk hl474_2; clear hi474_2 hl474_2; replace p474 := eq_true p474; replace q474 := eq_true q474; have p475 : 0 ≤ (x9_3 : Int) := of_decide_eq_true (by first | (with_reducible assumption) | assumption); have q475 : x9_3 < (t465.length : Int) := of_decide_eq_true (by first | (with_reducible assumption) | assumption); obtain ⟨ad475, e475, hx475_0⟩ := Kd.at_int (Kd.R_reads' HO_7.out).2.2 x9_3 p475 q475; obtain rfl : ad473 = ad475 := (by injection e475)
                     replace p475 := eq_true p475; replace q475 := eq_true q475; have p476 : 0 ≤ ((rd t465 x9_3) : Int) := of_decide_eq_true (by first | (with_reducible assumption) | assumption); have q476 : (rd t465 x9_3) < (t459.length : Int) := of_decide_eq_true (by first | (with_reducible assumption) | assumption); obtain ⟨ad476, A476_2, c476_2, e476, hx476_0, hx476_1, hx476_2, hl476_2, hi476_2⟩ := at_T38 (Kd.N_reads' HO_5.out).2.2 (rd t465 x9_3) p476 q476; obtain rfl : ad474 = ad476 := (by injection e476)
                     obtain ⟨rfl, rfl⟩ : A474_2 = A476_2 ∧ c474_2 = c476_2 := by have h_ := hq474_2.symm.trans hx476_2; injection h_ with h_; injection h_ with e1_ _ e3_; exact ⟨e1_, e3_⟩
                     obtain ⟨ce476, hce476, hMe476, hcc476⟩ := Kd.N_get HO_5.out z38 (rd t465 x9_3) p476 (by first | exact q476 | exact of_decide_eq_true (by first | (with_reducible assumption) | assumption) | (have e_ := (Kd.N_reads' HO_5.out).1; omega)); obtain ⟨ua476_2, uc476_2, rfl, ul476_2, ge476_2⟩ := k38_openF hMe476; have hv476_2 := hcc476 2 _ rfl; rw [add_field _ _ 2 (by omega)] at hv476_2; replace hv476_2 := Option.some.inj (hv476_2.symm.trans hx476_2); injection hv476_2 with hva_ hvn_ hvc_
                     rw [hva_] at ge476_2; rw [hvc_] at ul476_2; have HL476_2 := Z_.mk (show Kd.V k90 90 _ w.heap.size _ _ ((rd_T38 t459 (rd t465 x9_3)).f2) from Kd.V_mk ul476_2 ge476_2); clear hva_ hvn_ hvc_ ge476_2 ul476_2; clear hcc476 hce476; have HR476_2 := Z_.mk hi476_2; have HC476_2 := Z_.mk hl476_2; clear hi476_2 hl476_2; replace p476 := eq_true p476; replace q476 := eq_true q476; have q47 : ((t462.length : Int) : Int) ≤ ((((rd_T38 t459 (rd t465 x9_3)).f2).length : Int) : Int) := of_decide_eq_true (by first | (with_reducible assumption) | assumption); obtain ⟨i047, hi047, _, hsz47, _⟩ := info_parts info90; have hroom47 : ((rd_T38 t459 (rd t465 x9_3)).f2).length ≤ c474_2 := HC476_2.out; have hC47 : Kd.F k90 _ _ A474_2 ((rd_T38 t459 (rd t465 x9_3)).f2).length ((rd_T38 t459 (rd t465 x9_3)).f2) := (Kd.V_at (base := w.heap.size) HL476_2.out).2.2; have hcut47 := cut_to (P := Tryd.prog) 36 90 .i64 Tryd.underlying36 hi047 A474_2 ((rd_T38 t459 (rd t465 x9_3)).f2).length c474_2 (t462.length : Int) (of_decide_eq_true (by first | (with_reducible assumption) | assumption)) q47 hroom47; have hr47 := Kd.F_take (m := ((t462.length : Int) : Int).toNat) hC47 (by omega); have hy47 : y477.length = ((t462.length : Int) : Int).toNat := (by rw [Ny477.out, List.length_take]; omega)
                     rw [← Ny477.out] at hr47; rw [← hy47] at hcut47; have HO481 := Z_.mk (show Kd.V k90 90 _ w.heap.size _ (.slice A474_2 y477.length c474_2) y477 from Kd.V_mk (by omega) hr47); have HC481 := Z_.mk (show y477.length ≤ c474_2 from by omega); clear hr47 hC47 hroom47 hi047 hsz47; have KY47 := Z_.mk hy47; clear hy47; replace q47 := eq_true q47; have p483 : 0 ≤ (x9_3 : Int) := of_decide_eq_true (by first | (with_reducible assumption) | assumption); have q483 : x9_3 < (t465.length : Int) := of_decide_eq_true (by first | (with_reducible assumption) | assumption); obtain ⟨ad483, e483, hx483_0⟩ := Kd.at_int (Kd.R_reads' HO_7.out).2.2 x9_3 p483 q483; obtain rfl : ad473 = ad483 := (by injection e483)
                     replace p483 := eq_true p483; replace q483 := eq_true q483; have p484 : 0 ≤ ((ji37) : Int) := of_decide_eq_true (by first | (with_reducible assumption) | assumption); have q484 : (ji37) < (t465.length : Int) := of_decide_eq_true (by first | (with_reducible assumption) | assumption); obtain ⟨ad484, e484, hx484_0⟩ := Kd.at_int (Kd.R_reads' HO_7.out).2.2 (ji37) p484 q484; obtain rfl : ad473 = ad484 := (by injection e484)
                     replace p484 := eq_true p484; replace q484 := eq_true q484; refine start_ (n := 44) (S := fun w' => w'.cell? (ad473.add (x9_3).toNat) = some (.int .i64 (rd t465 x9_3)) ∧ w'.cell? (ad474.add (((rd t465 x9_3)).toNat * 3)) = some (.string ((rd_T38 t459 (rd t465 x9_3)).f0)) ∧ w'.cell? ⟨(ad474.add (((rd t465 x9_3)).toNat * 3)).block, (ad474.add (((rd t465 x9_3)).toNat * 3)).off + 1, none⟩ = some (.int .i64 ((rd_T38 t459 (rd t465 x9_3)).f1)) ∧ w'.cell? ⟨(ad474.add (((rd t465 x9_3)).toNat * 3)).block, (ad474.add (((rd t465 x9_3)).toNat * 3)).off + 2, none⟩ = some (.slice A474_2 ((rd_T38 t459 (rd t465 x9_3)).f2).length c474_2) ∧ w'.cell? (ad473.add (x9_3).toNat) = some (.int .i64 (rd t465 x9_3)) ∧ w'.cell? (ad474.add (((rd t465 x9_3)).toNat * 3)) = some (.string ((rd_T38 t459 (rd t465 x9_3)).f0)) ∧ w'.cell? ⟨(ad474.add (((rd t465 x9_3)).toNat * 3)).block, (ad474.add (((rd t465 x9_3)).toNat * 3)).off + 1, none⟩ = some (.int .i64 ((rd_T38 t459 (rd t465 x9_3)).f1)) ∧ w'.cell? ⟨(ad474.add (((rd t465 x9_3)).toNat * 3)).block, (ad474.add (((rd t465 x9_3)).toNat * 3)).off + 2, none⟩ = some (.slice A474_2 ((rd_T38 t459 (rd t465 x9_3)).f2).length c474_2) ∧ w'.cell? (ad473.add (x9_3).toNat) = some (.int .i64 (rd t465 x9_3)) ∧ w'.cell? (ad473.add ((ji37)).toNat) = some (.int .i64 (rd t465 (ji37)))) (ds := []) (rowB 44 0) (by kernel_rfl) rfl rfl ⟨hx473_0, hx474_0, hx474_1, hx474_2, hx475_0, hx476_0, hx476_1, hx476_2, hx483_0, hx484_0⟩ (fun hHeld => ?_); refine with_tabW laws_FnTonaryFind.tab11 laws_FnTonaryFind.bits11 (fun HT_ HW_ => ?_); generalize wr.drew = w46 at HO_5 HO_6 HO_7 HB HL474_2 HL476_2 HO481 HR474_2 HR476_2 hx473_0 hx474_0 hx474_1 hx474_2 hx475_0 hx476_0 hx476_1 hx476_2 hx483_0 hx484_0 hHeld ⊢; refine pure_ (i := 0) (N := some 53) (v := ?_) (a' := ?_) (rowB 44 1) rfl rfl (any_of HT_.out (by kernel_rfl)) (fun _ _ _ h => h) (Or.inl ⟨by rfl, ?_⟩) ?_ ?_; rotate_left; (· intro w'; go_simp; with_reducible rfl); rotate_left; (· simp only [Act.put, y1_, y2_, y3_, i64_w, i32_w]; rfl); refine pure_ (i := 1) (N := some 54) (v := ?_) (a' := ?_) (rowB 44 3) rfl rfl (any_of HT_.out (by kernel_rfl)) (fun _ _ _ h => h) (Or.inl ⟨by rfl, ?_⟩) ?_ ?_; rotate_left; (· intro w'; go_simp; with_reducible rfl); rotate_left; (· simp only [Act.put, y1_, y2_, y3_, i64_w, i32_w]; rfl); refine pure_ (i := 2) (N := some 55) (v := ?_) (a' := ?_) (rowB 44 7) rfl rfl (any_of HT_.out (by kernel_rfl)) (fun _ _ _ h => h) (Or.inl ⟨by rfl, ?_⟩) ?_ ?_; rotate_left; (· intro w'; go_simp; with_reducible rfl); rotate_left; (· simp only [Act.put, y1_, y2_, y3_, i64_w, i32_w]; rfl); refine pure_ (i := 3) (N := some 56) (v := ?_) (a' := ?_) (rowB 44 15) rfl rfl (any_of HT_.out (by kernel_rfl)) (fun _ _ _ h => h) (Or.inl ⟨by rfl, ?_⟩) ?_ ?_; rotate_left; (· intro w'; go_simp; with_reducible rfl); rotate_left; (· simp only [Act.put, y1_, y2_, y3_, i64_w, i32_w]; rfl); refine pure_ (i := 9) (N := some 62) (v := ?_) (a' := ?_) (rowB 44 527) rfl rfl (any_of HT_.out (by kernel_rfl)) (fun _ _ _ h => h) (Or.inl ⟨by rfl, ?_⟩) ?_ ?_; rotate_left; (· intro w'; go_simp; with_reducible rfl); rotate_left; (· simp only [Act.put, y1_, y2_, y3_, i64_w, i32_w]; rfl); refine pure_ (i := 10) (N := some 63) (v := ?_) (a' := ?_) (rowB 44 1551) rfl rfl (any_of HT_.out (by kernel_rfl)) (fun _ _ _ h => h) (Or.inl ⟨by rfl, ?_⟩) ?_ ?_; rotate_left; (· intro w'; go_simp; with_reducible rfl); rotate_left; (· simp only [Act.put, y1_, y2_, y3_, i64_w, i32_w]; rfl); refine take_ (i := 4) (N := some 57) (v := ?_) (a' := ?_) (rowB 44 1567) rfl rfl (take_ofW HT_.out HW_.out (by kernel_rfl)) (fun _ _ _ h => h) (Or.inl ⟨by rfl, ?_⟩) hHeld ?_ ?_; rotate_left; (· rintro w' ⟨s0, s1, s2, s3, s4, s5, s6, s7, s8, s9⟩; go_simp; with_reducible rfl); rotate_left; (· simp only [Act.put, y1_, y2_, y3_, i64_w, i32_w]; rfl); refine pure_ (i := 5) (N := some 58) (v := ?_) (a' := ?_) (rowB 44 1599) rfl rfl (any_of HT_.out (by kernel_rfl)) (fun _ _ _ h => h) (Or.inl ⟨by rfl, ?_⟩) ?_ ?_; rotate_left; (· intro w'; go_simp; with_reducible rfl); rotate_left; (· simp only [Act.put, y1_, y2_, y3_, i64_w, i32_w]; rfl); refine pure_ (i := 6) (N := some 59) (v := ?_) (a' := ?_) (rowB 44 1663) rfl rfl (any_of HT_.out (by kernel_rfl)) (fun _ _ _ h => h) (Or.inl ⟨by rfl, ?_⟩) ?_ ?_; rotate_left; (· intro w'; go_simp; with_reducible rfl); rotate_left; (· simp only [Act.put, y1_, y2_, y3_, i64_w, i32_w]; rfl); refine take_ (i := 7) (N := some 60) (v := ?_) (a' := ?_) (rowB 44 1791) rfl rfl (take_ofW HT_.out HW_.out (by kernel_rfl)) (fun _ _ _ h => h) (Or.inl ⟨by rfl, ?_⟩) hHeld ?_ ?_; rotate_left; (· rintro w' ⟨s0, s1, s2, s3, s4, s5, s6, s7, s8, s9⟩; go_simp; with_reducible rfl); rotate_left; (· simp only [Act.put, y1_, y2_, y3_, i64_w, i32_w]; rfl); refine pure_ (i := 8) (N := some 61) (v := ?_) (a' := ?_) (rowB 44 2047) rfl rfl (any_of HT_.out (by kernel_rfl)) (fun _ _ _ h => h) (Or.inl ⟨by rfl, ?_⟩) ?_ ?_; rotate_left; (· intro w'; go_simp; with_reducible rfl); rotate_left; (· simp only [Act.put, y1_, y2_, y3_, i64_w, i32_w]; rfl); refine pure_ (i := 11) (N := some 64) (v := ?_) (a' := ?_) (rowB 44 4095) rfl rfl (any_of HT_.out (by kernel_rfl)) (fun _ _ _ h => h) (Or.inl ⟨by rfl, ?_⟩) ?_ ?_; rotate_left; (· intro w'; go_simp; with_reducible rfl); rotate_left; (· simp only [Act.put, y1_, y2_, y3_, i64_w, i32_w]; rfl); refine pure_ (i := 12) (N := some 65) (v := ?_) (a' := ?_) (rowB 44 8191) rfl rfl (any_of HT_.out (by kernel_rfl)) (fun _ _ _ h => h) (Or.inl ⟨by rfl, ?_⟩) ?_ ?_; rotate_left; (· intro w'; go_simp; with_reducible rfl); rotate_left; (· simp only [Act.put, y1_, y2_, y3_, i64_w, i32_w]; rfl); refine pure_ (i := 13) (N := some 66) (v := ?_) (a' := ?_) (rowB 44 16383) rfl rfl (any_of HT_.out (by kernel_rfl)) (fun _ _ _ h => h) (Or.inl ⟨by rfl, ?_⟩) ?_ ?_; rotate_left; (· intro w'; go_simp; with_reducible rfl); rotate_left; (· simp only [Act.put, y1_, y2_, y3_, i64_w, i32_w]; rfl); refine pure_ (i := 14) (N := some 67) (v := ?_) (a' := ?_) (rowB 44 32767) rfl rfl (any_of HT_.out (by kernel_rfl)) (fun _ _ _ h => h) (Or.inl ⟨by rfl, ?_⟩) ?_ ?_; rotate_left; (· intro w'; go_simp; with_reducible rfl); rotate_left; (· simp only [Act.put, y1_, y2_, y3_, i64_w, i32_w]; rfl); refine pure_ (i := 15) (N := some 68) (v := ?_) (a' := ?_) (rowB 44 65535) rfl rfl (any_of HT_.out (by kernel_rfl)) (fun _ _ _ h => h) (Or.inl ⟨by rfl, ?_⟩) ?_ ?_; rotate_left; (· intro w'; go_simp; with_reducible rfl); rotate_left; (· simp only [Act.put, y1_, y2_, y3_, i64_w, i32_w]; rfl); refine pure_ (i := 16) (N := some 69) (v := ?_) (a' := ?_) (rowB 44 131071) rfl rfl (any_of HT_.out (by kernel_rfl)) (fun _ _ _ h => h) (Or.inl ⟨by rfl, ?_⟩) ?_ ?_; rotate_left; (· intro w'; go_simp; with_reducible rfl); rotate_left; (· simp only [Act.put, y1_, y2_, y3_, i64_w, i32_w]; rfl); refine pure_ (i := 21) (N := some 74) (v := ?_) (a' := ?_) (rowB 44 2228223) rfl rfl (any_of HT_.out (by kernel_rfl)) (fun _ _ _ h => h) (Or.inl ⟨by rfl, ?_⟩) ?_ ?_; rotate_left; (· intro w'; go_simp; with_reducible rfl); rotate_left; (· simp only [Act.put, y1_, y2_, y3_, i64_w, i32_w]; rfl); refine pure_ (i := 22) (N := some 75) (v := ?_) (a' := ?_) (rowB 44 6422527) rfl rfl (any_of HT_.out (by kernel_rfl)) (fun _ _ _ h => h) (Or.inl ⟨by rfl, ?_⟩) ?_ ?_; rotate_left; (· intro w'; go_simp; with_reducible rfl); rotate_left; (· simp only [Act.put, y1_, y2_, y3_, i64_w, i32_w]; rfl); refine pure_ (i := 24) (N := some 77) (v := ?_) (a' := ?_) (rowB 44 23199743) rfl rfl (any_of HT_.out (by kernel_rfl)) (fun _ _ _ h => h) (Or.inl ⟨by rfl, ?_⟩) ?_ ?_; rotate_left; (· intro w'; go_simp; with_reducible rfl); rotate_left; (· simp only [Act.put, y1_, y2_, y3_, i64_w, i32_w]; rfl); refine take_ (i := 17) (N := some 70) (v := ?_) (a' := ?_) (rowB 44 23330815) rfl rfl (take_ofW HT_.out HW_.out (by kernel_rfl)) (fun _ _ _ h => h) (Or.inl ⟨by rfl, ?_⟩) hHeld ?_ ?_; rotate_left; (· rintro w' ⟨s0, s1, s2, s3, s4, s5, s6, s7, s8, s9⟩; go_simp; with_reducible rfl); rotate_left; (· simp only [Act.put, y1_, y2_, y3_, i64_w, i32_w]; rfl); refine pure_ (i := 18) (N := some 71) (v := ?_) (a' := ?_) (rowB 44 23592959) rfl rfl (any_of HT_.out (by kernel_rfl)) (fun _ _ _ h => h) (Or.inl ⟨by rfl, ?_⟩) ?_ ?_; rotate_left; (· intro w'; go_simp; with_reducible rfl); rotate_left; (· simp only [Act.put, y1_, y2_, y3_, i64_w, i32_w]; rfl); refine pure_ (i := 19) (N := some 72) (v := ?_) (a' := ?_) (rowB 44 24117247) rfl rfl (any_of HT_.out (by kernel_rfl)) (fun _ _ _ h => h) (Or.inl ⟨by rfl, ?_⟩) ?_ ?_; rotate_left; (· intro w'; go_simp; with_reducible rfl); rotate_left; (· simp only [Act.put, y1_, y2_, y3_, i64_w, i32_w]; rfl); refine take_ (i := 20) (N := some 73) (v := ?_) (a' := ?_) (rowB 44 25165823) rfl rfl (take_ofW HT_.out HW_.out (by kernel_rfl)) (fun _ _ _ h => h) (Or.inl ⟨by rfl, ?_⟩) hHeld ?_ ?_; rotate_left; (· rintro w' ⟨s0, s1, s2, s3, s4, s5, s6, s7, s8, s9⟩; go_simp; with_reducible rfl); rotate_left; (· simp only [Act.put, y1_, y2_, y3_, i64_w, i32_w]; rfl); refine pure_ (i := 23) (N := some 76) (v := ?_) (a' := ?_) (rowB 44 33554431) rfl rfl (any_of HT_.out (by kernel_rfl)) (fun _ _ _ h => h) (Or.inl ⟨by rfl, ?_⟩) ?_ ?_; rotate_left; (· intro w'; go_simp; with_reducible rfl); rotate_left; (· simp only [Act.put, y1_, y2_, y3_, i64_w, i32_w]; rfl); refine one_ (i := 25) (N := some 78) (rowB 44 67108863) rfl rfl (one_of HT_.out (by kernel_rfl)) (by decide) (fun K hK => ?_); refine goes_ Tryd.func41 (by kernel_rfl) rfl #[.slice A474_2 y477.length c474_2, .slice _ t462.length co12] (by rfl) rfl rfl (by (try simp only [List.map_toArray, List.map_cons, List.map_nil]); first | done | rfl | (simp only [List.length_drop, List.length_take]; rfl)) ?_; with_reducible refine (impl_MelodySame.calls _ _ y477 _ _ t462 true _ ?side1 ?side2 ?side3 ?side4 A34.out (ht := HT.out.below (by repeat (first | (with_reducible first | exact HB.out | apply zc_ | apply za_ | apply zb_) | exact HB.out)))).mono ?_
                     (case side1 => repeat (first | exact (Kd.V_reads' HO481.out).2.2 | (with_reducible refine Kd.C_alloc ?_ _) | (with_reducible refine Kd.C_drewN ?_ _) | (with_reducible refine Kd.C_drew ?_)))
                     (case side2 => exact (Kd.V_reads' HO481.out).2.1)
                     (case side3 => repeat (first | exact (Kd.V_reads' HO_6.out).2.2 | (with_reducible refine Kd.C_alloc ?_ _) | (with_reducible refine Kd.C_drewN ?_ _) | (with_reducible refine Kd.C_drew ?_)))
                     (case side4 => exact (Kd.V_reads' HO_6.out).2.1)
                     rintro e w48 ⟨rfl, hb⟩; have HS0_ := (hb.cell (World.block_lt_of_cell? _ _ (hHeld.1))).trans (hHeld.1); have HS1_ := (hb.cell (World.block_lt_of_cell? _ _ (hHeld.2.1))).trans (hHeld.2.1); have HS2_ := (hb.cell (World.block_lt_of_cell? _ _ (hHeld.2.2.1))).trans (hHeld.2.2.1); have HS3_ := (hb.cell (World.block_lt_of_cell? _ _ (hHeld.2.2.2.1))).trans (hHeld.2.2.2.1); have HS4_ := (hb.cell (World.block_lt_of_cell? _ _ (hHeld.2.2.2.2.1))).trans (hHeld.2.2.2.2.1); have HS5_ := (hb.cell (World.block_lt_of_cell? _ _ (hHeld.2.2.2.2.2.1))).trans (hHeld.2.2.2.2.2.1); have HS6_ := (hb.cell (World.block_lt_of_cell? _ _ (hHeld.2.2.2.2.2.2.1))).trans (hHeld.2.2.2.2.2.2.1); have HS7_ := (hb.cell (World.block_lt_of_cell? _ _ (hHeld.2.2.2.2.2.2.2.1))).trans (hHeld.2.2.2.2.2.2.2.1); have HS8_ := (hb.cell (World.block_lt_of_cell? _ _ (hHeld.2.2.2.2.2.2.2.2.1))).trans (hHeld.2.2.2.2.2.2.2.2.1); have HS9_ := (hb.cell (World.block_lt_of_cell? _ _ (hHeld.2.2.2.2.2.2.2.2.2))).trans (hHeld.2.2.2.2.2.2.2.2.2); refine ⟨_, rfl, ?_⟩; have n0_ := Z_.mk (Kd.N_below (by (with_reducible repeat (first | apply Kd.N_alloc | apply Kd.N_drewN | apply Kd.N_drew)); exact HO_5.out) hb); have n1_ := Z_.mk (Kd.V_below (by (with_reducible repeat (first | apply Kd.V_alloc | apply Kd.V_drewN | apply Kd.V_drew)); exact HO_6.out) hb); have n2_ := Z_.mk (Kd.R_below (by (with_reducible repeat (first | apply Kd.R_alloc | apply Kd.R_drewN | apply Kd.R_drew)); exact HO_7.out) hb); have n3_ := Z_.mk (Kd.V_below (by (with_reducible repeat (first | apply Kd.V_alloc | apply Kd.V_drewN | apply Kd.V_drew)); exact HL474_2.out) hb); have n4_ := Z_.mk (Kd.V_below (by (with_reducible repeat (first | apply Kd.V_alloc | apply Kd.V_drewN | apply Kd.V_drew)); exact HL476_2.out) hb); have n5_ := Z_.mk (Kd.V_below (by (with_reducible repeat (first | apply Kd.V_alloc | apply Kd.V_drewN | apply Kd.V_drew)); exact HO481.out) hb); have n6_ := Z_.mk (Kd.C_below (by repeat (first | (with_reducible exact HR474_2.out) | (with_reducible refine Kd.C_alloc ?_ _) | (with_reducible refine Kd.C_drewN ?_ _) | (with_reducible refine Kd.C_drew ?_) | exact HR474_2.out)) hb); have n7_ := Z_.mk (Kd.C_below (by repeat (first | (with_reducible exact HR476_2.out) | (with_reducible refine Kd.C_alloc ?_ _) | (with_reducible refine Kd.C_drewN ?_ _) | (with_reducible refine Kd.C_drew ?_) | exact HR476_2.out)) hb); have n8_ := Z_.mk (ze_ (by repeat (first | (with_reducible first | exact HB.out | apply zc_ | apply za_ | apply zb_) | exact HB.out)) hb); clear HO_5; clear HO_6; clear HO_7; clear HL474_2; clear HL476_2; clear HO481; clear HR474_2; clear HR476_2; clear HB; have HO_5 := n0_; have HO_6 := n1_; have HO_7 := n2_; have HL474_2 := n3_; have HL476_2 := n4_; have HO481 := n5_; have HR474_2 := n6_; have HR476_2 := n7_; have HB := n8_; clear n0_ n1_ n2_ n3_ n4_ n5_ n6_ n7_ n8_; (try clear hb)
                     (try clear hb2)
                     (try clear hk)
                     (try clear hi)
                     refine hK.out _ _ ⟨HS0_, HS1_, HS2_, HS3_, HS4_, HS5_, HS6_, HS7_, HS8_, HS9_⟩ (fun hHeld => ?_); clear hK K; refine norm_ (a' := ?_) ?_ ?_; rotate_left; (· show Act.put _ (some 78) _ = _; simp only [Act.put, y1_, y2_, y3_, i64_w, i32_w]; rfl); refine pure_ (i := 26) (N := some 79) (v := ?_) (a' := ?_) (rowB 44 134217727) rfl rfl (any_of HT_.out (by kernel_rfl)) (fun _ _ _ h => h) (Or.inl ⟨by rfl, ?_⟩) ?_ ?_; rotate_left; (· intro w'; go_simp; with_reducible rfl); rotate_left; (· simp only [Act.put, y1_, y2_, y3_, i64_w, i32_w]; rfl); refine pure_ (i := 27) (N := some 80) (v := ?_) (a' := ?_) (rowB 44 268435455) rfl rfl (any_of HT_.out (by kernel_rfl)) (fun _ _ _ h => h) (Or.inl ⟨by rfl, ?_⟩) ?_ ?_; rotate_left; (· intro w'; go_simp; with_reducible rfl); rotate_left; (· simp only [Act.put, y1_, y2_, y3_, i64_w, i32_w]; rfl); refine pure_ (i := 28) (N := some 81) (v := ?_) (a' := ?_) (rowB 44 536870911) rfl rfl (any_of HT_.out (by kernel_rfl)) (fun _ _ _ h => h) (Or.inl ⟨by rfl, ?_⟩) ?_ ?_; rotate_left; (· intro w'; go_simp; with_reducible rfl); rotate_left; (· simp only [Act.put, y1_, y2_, y3_, i64_w, i32_w]; rfl); refine pure_ (i := 29) (N := some 82) (v := ?_) (a' := ?_) (rowB 44 1073741823) rfl rfl (any_of HT_.out (by kernel_rfl)) (fun _ _ _ h => h) (Or.inl ⟨by rfl, ?_⟩) ?_ ?_; rotate_left; (· intro w'; go_simp; with_reducible rfl); rotate_left; (· simp only [Act.put, y1_, y2_, y3_, i64_w, i32_w]; rfl); refine pure_ (i := 30) (N := some 83) (v := ?_) (a' := ?_) (rowB 44 2147483647) rfl rfl (any_of HT_.out (by kernel_rfl)) (fun _ _ _ h => h) (Or.inl ⟨by rfl, ?_⟩) ?_ ?_; rotate_left; (· intro w'; go_simp; with_reducible rfl); rotate_left; (· simp only [Act.put, y1_, y2_, y3_, i64_w, i32_w]; rfl); refine pure_ (i := 31) (N := some 84) (v := ?_) (a' := ?_) (rowB 44 4294967295) rfl rfl (any_of HT_.out (by kernel_rfl)) (fun _ _ _ h => h) (Or.inl ⟨by rfl, ?_⟩) ?_ ?_; rotate_left; (· intro w'; go_simp; with_reducible rfl); rotate_left; (· simp only [Act.put, y1_, y2_, y3_, i64_w, i32_w]; rfl); refine pure_ (i := 32) (N := some 85) (v := ?_) (a' := ?_) (rowB 44 8589934591) rfl rfl (any_of HT_.out (by kernel_rfl)) (fun _ _ _ h => h) (Or.inl ⟨by rfl, ?_⟩) ?_ ?_; rotate_left; (· intro w'; go_simp; with_reducible rfl); rotate_left; (· simp only [Act.put, y1_, y2_, y3_, i64_w, i32_w]; rfl); refine pure_ (i := 33) (N := some 86) (v := ?_) (a' := ?_) (rowB 44 17179869183) rfl rfl (any_of HT_.out (by kernel_rfl)) (fun _ _ _ h => h) (Or.inl ⟨by rfl, ?_⟩) ?_ ?_; rotate_left; (· intro w'; go_simp; with_reducible rfl); rotate_left; (· simp only [Act.put, y1_, y2_, y3_, i64_w, i32_w]; rfl); refine pure_ (i := 34) (N := some 87) (v := ?_) (a' := ?_) (rowB 44 34359738367) rfl rfl (any_of HT_.out (by kernel_rfl)) (fun _ _ _ h => h) (Or.inl ⟨by rfl, ?_⟩) ?_ ?_; rotate_left; (· intro w'; go_simp; with_reducible rfl); rotate_left; (· simp only [Act.put, y1_, y2_, y3_, i64_w, i32_w]; rfl); refine pure_ (i := 36) (N := some 89) (v := ?_) (a' := ?_) (rowB 44 103079215103) rfl rfl (any_of HT_.out (by kernel_rfl)) (fun _ _ _ h => h) (Or.inl ⟨by rfl, ?_⟩) ?_ ?_; rotate_left; (· intro w'; go_simp; with_reducible rfl); rotate_left; (· simp only [Act.put, y1_, y2_, y3_, i64_w, i32_w]; rfl); refine pure_ (i := 37) (N := some 90) (v := ?_) (a' := ?_) (rowB 44 240518168575) rfl rfl (any_of HT_.out (by kernel_rfl)) (fun _ _ _ h => h) (Or.inl ⟨by rfl, ?_⟩) ?_ ?_; rotate_left; (· intro w'; go_simp; with_reducible rfl); rotate_left; (· simp only [Act.put, y1_, y2_, y3_, i64_w, i32_w]; rfl); refine pure_ (i := 38) (N := some 91) (v := ?_) (a' := ?_) (rowB 44 515396075519) rfl rfl (any_of HT_.out (by kernel_rfl)) (fun _ _ _ h => h) (Or.inl ⟨by rfl, ?_⟩) ?_ ?_; rotate_left; (· intro w'; go_simp; with_reducible rfl); rotate_left; (· simp only [Act.put, y1_, y2_, y3_, i64_w, i32_w]; rfl); refine pure_ (i := 39) (N := some 92) (v := ?_) (a' := ?_) (rowB 44 1065151889407) rfl rfl (any_of HT_.out (by kernel_rfl)) (fun _ _ _ h => h) (Or.inl ⟨by rfl, ?_⟩) ?_ ?_; rotate_left; (· intro w'; go_simp; with_reducible rfl); rotate_left; (· simp only [Act.put, y1_, y2_, y3_, i64_w, i32_w]; rfl); refine take_ (i := 35) (N := some 88) (v := ?_) (a' := ?_) (rowB 44 1099511627775) rfl rfl (take_ofW HT_.out HW_.out (by kernel_rfl)) (fun _ _ _ h => h) (Or.inl ⟨by rfl, ?_⟩) hHeld ?_ ?_; rotate_left; (· rintro w' ⟨s0, s1, s2, s3, s4, s5, s6, s7, s8, s9⟩; go_simp; with_reducible rfl); rotate_left; (· simp only [Act.put, y1_, y2_, y3_, i64_w, i32_w]; rfl); refine take_ (i := 40) (N := some 93) (v := ?_) (a' := ?_) (rowB 44 2199023255551) rfl rfl (take_ofW HT_.out HW_.out (by kernel_rfl)) (fun _ _ _ h => h) (Or.inl ⟨by rfl, ?_⟩) hHeld ?_ ?_; rotate_left; (· rintro w' ⟨s0, s1, s2, s3, s4, s5, s6, s7, s8, s9⟩; go_simp; with_reducible rfl); rotate_left; (· simp only [Act.put, y1_, y2_, y3_, i64_w, i32_w]; rfl); refine pure_ (i := 41) (N := some 94) (v := ?_) (a' := ?_) (rowB 44 4398046511103) rfl rfl (any_of HT_.out (by kernel_rfl)) (fun _ _ _ h => h) (Or.inl ⟨by rfl, ?_⟩) ?_ ?_; rotate_left; (· intro w'; go_simp; with_reducible rfl); rotate_left; (· simp only [Act.put, y1_, y2_, y3_, i64_w, i32_w]; rfl); refine pure_ (i := 42) (N := some 95) (v := ?_) (a' := ?_) (rowB 44 8796093022207) rfl rfl (any_of HT_.out (by kernel_rfl)) (fun _ _ _ h => h) (Or.inl ⟨by rfl, ?_⟩) ?_ ?_; rotate_left; (· intro w'; go_simp; with_reducible rfl); rotate_left; (· simp only [Act.put, y1_, y2_, y3_, i64_w, i32_w]; rfl); refine pure_ (i := 43) (N := some 96) (v := ?_) (a' := ?_) (rowB 44 17592186044415) rfl rfl (any_of HT_.out (by kernel_rfl)) (fun _ _ _ h => h) (Or.inl ⟨by rfl, ?_⟩) ?_ ?_; rotate_left; (· intro w'; go_simp; with_reducible rfl); rotate_left; (· simp only [Act.put, y1_, y2_, y3_, i64_w, i32_w]; rfl); refine done_ (done_of HT_.out (by kernel_rfl)) ?_; try go_wp2
                     go_roundg k3
                     case measure => have := HJ2.out; have := HJ8.out; have := HK3.out; omega
                     case rel => exact ⟨(wrap64 (x9_3 + 1)), (by first | rfl | (simp; done) | (simp [*]; done)), H', ⟨by have := HJ2.out; have := HJ8.out; have := HK3.out; omega⟩, ⟨by (with_reducible repeat (first | apply Kd.N_alloc | apply Kd.N_drewN | apply Kd.N_drew)); exact HO_5.out⟩, ⟨by (with_reducible repeat (first | apply Kd.V_alloc | apply Kd.V_drewN | apply Kd.V_drew)); exact HO_6.out⟩, ⟨by (with_reducible repeat (first | apply Kd.R_alloc | apply Kd.R_drewN | apply Kd.R_drew)); exact HO_7.out⟩, ⟨by repeat (first | (with_reducible first | exact HB.out | apply zc_ | apply za_ | apply zb_) | exact HB.out)⟩⟩
                   ·
                    rw [if_neg c39] at H; exact absurd H (by simp)
                  ·
                   rw [if_neg c38] at H; exact absurd H (by simp)
                 ·
                  rw [if_neg c36] at H; have c36b0 : decide (0 < x9_3) = false := decide_eq_false c36; clear c36; have H' := Z_.mk H; clear H; obtain ⟨Ao49, co49, eo49⟩ := Kd.R_slice HO_7.out; subst eo49; try go_wp2
                  have n0_ := Z_.mk (Kd.N_drew HO_5.out); have n1_ := Z_.mk (Kd.V_drew HO_6.out); have n2_ := Z_.mk (Kd.R_drew HO_7.out); have n3_ := Z_.mk (zb_ HB.out); clear HO_5; clear HO_6; clear HO_7; clear HB; have HO_5 := n0_; have HO_6 := n1_; have HO_7 := n2_; have HB := n3_; clear n0_ n1_ n2_ n3_; have p473 : 0 ≤ (x9_3 : Int) := of_decide_eq_true (by first | (with_reducible assumption) | assumption); have q473 : x9_3 < (t465.length : Int) := of_decide_eq_true (by first | (with_reducible assumption) | assumption); obtain ⟨ad473, e473, hx473_0⟩ := Kd.at_int (Kd.R_reads' HO_7.out).2.2 x9_3 p473 q473; cases e473; replace p473 := eq_true p473; replace q473 := eq_true q473; have p474 : 0 ≤ ((rd t465 x9_3) : Int) := of_decide_eq_true (by first | (with_reducible assumption) | assumption); have q474 : (rd t465 x9_3) < (t459.length : Int) := of_decide_eq_true (by first | (with_reducible assumption) | assumption); obtain ⟨ad474, A474_2, c474_2, e474, hx474_0, hx474_1, hx474_2, hl474_2, hi474_2⟩ := at_T38 (Kd.N_reads' HO_5.out).2.2 (rd t465 x9_3) p474 q474; have hq474_2 := hx474_2; cases e474; obtain ⟨ce474, hce474, hMe474, hcc474⟩ := Kd.N_get HO_5.out z38 (rd t465 x9_3) p474 (by first | exact q474 | exact of_decide_eq_true (by first | (with_reducible assumption) | assumption) | (have e_ := (Kd.N_reads' HO_5.out).1; omega)); obtain ⟨ua474_2, uc474_2, rfl, ul474_2, ge474_2⟩ := k38_openF hMe474; have hv474_2 := hcc474 2 _ rfl; rw [add_field _ _ 2 (by omega)] at hv474_2; replace hv474_2 := Option.some.inj (hv474_2.symm.trans hx474_2); injection hv474_2 with hva_ hvn_ hvc_
                  rw [hva_] at ge474_2; rw [hvc_] at ul474_2; have HL474_2 := Z_.mk (show Kd.V k90 90 _ w.heap.size _ _ ((rd_T38 t459 (rd t465 x9_3)).f2) from Kd.V_mk ul474_2 ge474_2); clear hva_ hvn_ hvc_ ge474_2 ul474_2; clear hcc474 hce474; have HR474_2 := Z_.mk hi474_2; have HC474_2 := Z_.mk hl474_2; clear hi474_2 hl474_2; replace p474 := eq_true p474; replace q474 := eq_true q474; have p475 : 0 ≤ (x9_3 : Int) := of_decide_eq_true (by first | (with_reducible assumption) | assumption); have q475 : x9_3 < (t465.length : Int) := of_decide_eq_true (by first | (with_reducible assumption) | assumption); obtain ⟨ad475, e475, hx475_0⟩ := Kd.at_int (Kd.R_reads' HO_7.out).2.2 x9_3 p475 q475; obtain rfl : ad473 = ad475 := (by injection e475)
                  replace p475 := eq_true p475; replace q475 := eq_true q475; have p476 : 0 ≤ ((rd t465 x9_3) : Int) := of_decide_eq_true (by first | (with_reducible assumption) | assumption); have q476 : (rd t465 x9_3) < (t459.length : Int) := of_decide_eq_true (by first | (with_reducible assumption) | assumption); obtain ⟨ad476, A476_2, c476_2, e476, hx476_0, hx476_1, hx476_2, hl476_2, hi476_2⟩ := at_T38 (Kd.N_reads' HO_5.out).2.2 (rd t465 x9_3) p476 q476; obtain rfl : ad474 = ad476 := (by injection e476)
                  obtain ⟨rfl, rfl⟩ : A474_2 = A476_2 ∧ c474_2 = c476_2 := by have h_ := hq474_2.symm.trans hx476_2; injection h_ with h_; injection h_ with e1_ _ e3_; exact ⟨e1_, e3_⟩
                  obtain ⟨ce476, hce476, hMe476, hcc476⟩ := Kd.N_get HO_5.out z38 (rd t465 x9_3) p476 (by first | exact q476 | exact of_decide_eq_true (by first | (with_reducible assumption) | assumption) | (have e_ := (Kd.N_reads' HO_5.out).1; omega)); obtain ⟨ua476_2, uc476_2, rfl, ul476_2, ge476_2⟩ := k38_openF hMe476; have hv476_2 := hcc476 2 _ rfl; rw [add_field _ _ 2 (by omega)] at hv476_2; replace hv476_2 := Option.some.inj (hv476_2.symm.trans hx476_2); injection hv476_2 with hva_ hvn_ hvc_
                  rw [hva_] at ge476_2; rw [hvc_] at ul476_2; have HL476_2 := Z_.mk (show Kd.V k90 90 _ w.heap.size _ _ ((rd_T38 t459 (rd t465 x9_3)).f2) from Kd.V_mk ul476_2 ge476_2); clear hva_ hvn_ hvc_ ge476_2 ul476_2; clear hcc476 hce476; have HR476_2 := Z_.mk hi476_2; have HC476_2 := Z_.mk hl476_2; clear hi476_2 hl476_2; replace p476 := eq_true p476; replace q476 := eq_true q476; have q51 : ((t462.length : Int) : Int) ≤ ((((rd_T38 t459 (rd t465 x9_3)).f2).length : Int) : Int) := of_decide_eq_true (by first | (with_reducible assumption) | assumption); obtain ⟨i051, hi051, _, hsz51, _⟩ := info_parts info90; have hroom51 : ((rd_T38 t459 (rd t465 x9_3)).f2).length ≤ c474_2 := HC476_2.out; have hC51 : Kd.F k90 _ _ A474_2 ((rd_T38 t459 (rd t465 x9_3)).f2).length ((rd_T38 t459 (rd t465 x9_3)).f2) := (Kd.V_at (base := w.heap.size) HL476_2.out).2.2; have hcut51 := cut_to (P := Tryd.prog) 36 90 .i64 Tryd.underlying36 hi051 A474_2 ((rd_T38 t459 (rd t465 x9_3)).f2).length c474_2 (t462.length : Int) (of_decide_eq_true (by first | (with_reducible assumption) | assumption)) q51 hroom51; have hr51 := Kd.F_take (m := ((t462.length : Int) : Int).toNat) hC51 (by omega); have hy51 : y477.length = ((t462.length : Int) : Int).toNat := (by rw [Ny477.out, List.length_take]; omega)
                  rw [← Ny477.out] at hr51; rw [← hy51] at hcut51; have HO481 := Z_.mk (show Kd.V k90 90 _ w.heap.size _ (.slice A474_2 y477.length c474_2) y477 from Kd.V_mk (by omega) hr51); have HC481 := Z_.mk (show y477.length ≤ c474_2 from by omega); clear hr51 hC51 hroom51 hi051 hsz51; have KY51 := Z_.mk hy51; clear hy51; replace q51 := eq_true q51; refine start_ (n := 44) (S := fun w' => w'.cell? (ad473.add (x9_3).toNat) = some (.int .i64 (rd t465 x9_3)) ∧ w'.cell? (ad474.add (((rd t465 x9_3)).toNat * 3)) = some (.string ((rd_T38 t459 (rd t465 x9_3)).f0)) ∧ w'.cell? ⟨(ad474.add (((rd t465 x9_3)).toNat * 3)).block, (ad474.add (((rd t465 x9_3)).toNat * 3)).off + 1, none⟩ = some (.int .i64 ((rd_T38 t459 (rd t465 x9_3)).f1)) ∧ w'.cell? ⟨(ad474.add (((rd t465 x9_3)).toNat * 3)).block, (ad474.add (((rd t465 x9_3)).toNat * 3)).off + 2, none⟩ = some (.slice A474_2 ((rd_T38 t459 (rd t465 x9_3)).f2).length c474_2) ∧ w'.cell? (ad473.add (x9_3).toNat) = some (.int .i64 (rd t465 x9_3)) ∧ w'.cell? (ad474.add (((rd t465 x9_3)).toNat * 3)) = some (.string ((rd_T38 t459 (rd t465 x9_3)).f0)) ∧ w'.cell? ⟨(ad474.add (((rd t465 x9_3)).toNat * 3)).block, (ad474.add (((rd t465 x9_3)).toNat * 3)).off + 1, none⟩ = some (.int .i64 ((rd_T38 t459 (rd t465 x9_3)).f1)) ∧ w'.cell? ⟨(ad474.add (((rd t465 x9_3)).toNat * 3)).block, (ad474.add (((rd t465 x9_3)).toNat * 3)).off + 2, none⟩ = some (.slice A474_2 ((rd_T38 t459 (rd t465 x9_3)).f2).length c474_2)) (ds := []) (rowB 44 0) (by kernel_rfl) rfl rfl ⟨hx473_0, hx474_0, hx474_1, hx474_2, hx475_0, hx476_0, hx476_1, hx476_2⟩ (fun hHeld => ?_); refine with_tabW laws_FnTonaryFind.tab11 laws_FnTonaryFind.bits11 (fun HT_ HW_ => ?_); generalize wr.drew = w50 at HO_5 HO_6 HO_7 HB HL474_2 HL476_2 HO481 HR474_2 HR476_2 hx473_0 hx474_0 hx474_1 hx474_2 hx475_0 hx476_0 hx476_1 hx476_2 hHeld ⊢; refine pure_ (i := 0) (N := some 53) (v := ?_) (a' := ?_) (rowB 44 1) rfl rfl (any_of HT_.out (by kernel_rfl)) (fun _ _ _ h => h) (Or.inl ⟨by rfl, ?_⟩) ?_ ?_; rotate_left; (· intro w'; go_simp; with_reducible rfl); rotate_left; (· simp only [Act.put, y1_, y2_, y3_, i64_w, i32_w]; rfl); refine pure_ (i := 1) (N := some 54) (v := ?_) (a' := ?_) (rowB 44 3) rfl rfl (any_of HT_.out (by kernel_rfl)) (fun _ _ _ h => h) (Or.inl ⟨by rfl, ?_⟩) ?_ ?_; rotate_left; (· intro w'; go_simp; with_reducible rfl); rotate_left; (· simp only [Act.put, y1_, y2_, y3_, i64_w, i32_w]; rfl); refine pure_ (i := 2) (N := some 55) (v := ?_) (a' := ?_) (rowB 44 7) rfl rfl (any_of HT_.out (by kernel_rfl)) (fun _ _ _ h => h) (Or.inl ⟨by rfl, ?_⟩) ?_ ?_; rotate_left; (· intro w'; go_simp; with_reducible rfl); rotate_left; (· simp only [Act.put, y1_, y2_, y3_, i64_w, i32_w]; rfl); refine pure_ (i := 3) (N := some 56) (v := ?_) (a' := ?_) (rowB 44 15) rfl rfl (any_of HT_.out (by kernel_rfl)) (fun _ _ _ h => h) (Or.inl ⟨by rfl, ?_⟩) ?_ ?_; rotate_left; (· intro w'; go_simp; with_reducible rfl); rotate_left; (· simp only [Act.put, y1_, y2_, y3_, i64_w, i32_w]; rfl); refine pure_ (i := 9) (N := some 62) (v := ?_) (a' := ?_) (rowB 44 527) rfl rfl (any_of HT_.out (by kernel_rfl)) (fun _ _ _ h => h) (Or.inl ⟨by rfl, ?_⟩) ?_ ?_; rotate_left; (· intro w'; go_simp; with_reducible rfl); rotate_left; (· simp only [Act.put, y1_, y2_, y3_, i64_w, i32_w]; rfl); refine pure_ (i := 10) (N := some 63) (v := ?_) (a' := ?_) (rowB 44 1551) rfl rfl (any_of HT_.out (by kernel_rfl)) (fun _ _ _ h => h) (Or.inl ⟨by rfl, ?_⟩) ?_ ?_; rotate_left; (· intro w'; go_simp; with_reducible rfl); rotate_left; (· simp only [Act.put, y1_, y2_, y3_, i64_w, i32_w]; rfl); refine take_ (i := 4) (N := some 57) (v := ?_) (a' := ?_) (rowB 44 1567) rfl rfl (take_ofW HT_.out HW_.out (by kernel_rfl)) (fun _ _ _ h => h) (Or.inl ⟨by rfl, ?_⟩) hHeld ?_ ?_; rotate_left; (· rintro w' ⟨s0, s1, s2, s3, s4, s5, s6, s7⟩; go_simp; with_reducible rfl); rotate_left; (· simp only [Act.put, y1_, y2_, y3_, i64_w, i32_w]; rfl); refine pure_ (i := 5) (N := some 58) (v := ?_) (a' := ?_) (rowB 44 1599) rfl rfl (any_of HT_.out (by kernel_rfl)) (fun _ _ _ h => h) (Or.inl ⟨by rfl, ?_⟩) ?_ ?_; rotate_left; (· intro w'; go_simp; with_reducible rfl); rotate_left; (· simp only [Act.put, y1_, y2_, y3_, i64_w, i32_w]; rfl); refine pure_ (i := 6) (N := some 59) (v := ?_) (a' := ?_) (rowB 44 1663) rfl rfl (any_of HT_.out (by kernel_rfl)) (fun _ _ _ h => h) (Or.inl ⟨by rfl, ?_⟩) ?_ ?_; rotate_left; (· intro w'; go_simp; with_reducible rfl); rotate_left; (· simp only [Act.put, y1_, y2_, y3_, i64_w, i32_w]; rfl); refine take_ (i := 7) (N := some 60) (v := ?_) (a' := ?_) (rowB 44 1791) rfl rfl (take_ofW HT_.out HW_.out (by kernel_rfl)) (fun _ _ _ h => h) (Or.inl ⟨by rfl, ?_⟩) hHeld ?_ ?_; rotate_left; (· rintro w' ⟨s0, s1, s2, s3, s4, s5, s6, s7⟩; go_simp; with_reducible rfl); rotate_left; (· simp only [Act.put, y1_, y2_, y3_, i64_w, i32_w]; rfl); refine pure_ (i := 8) (N := some 61) (v := ?_) (a' := ?_) (rowB 44 2047) rfl rfl (any_of HT_.out (by kernel_rfl)) (fun _ _ _ h => h) (Or.inl ⟨by rfl, ?_⟩) ?_ ?_; rotate_left; (· intro w'; go_simp; with_reducible rfl); rotate_left; (· simp only [Act.put, y1_, y2_, y3_, i64_w, i32_w]; rfl); refine pure_ (i := 11) (N := some 64) (v := ?_) (a' := ?_) (rowB 44 4095) rfl rfl (any_of HT_.out (by kernel_rfl)) (fun _ _ _ h => h) (Or.inl ⟨by rfl, ?_⟩) ?_ ?_; rotate_left; (· intro w'; go_simp; with_reducible rfl); rotate_left; (· simp only [Act.put, y1_, y2_, y3_, i64_w, i32_w]; rfl); refine pure_ (i := 12) (N := some 65) (v := ?_) (a' := ?_) (rowB 44 8191) rfl rfl (any_of HT_.out (by kernel_rfl)) (fun _ _ _ h => h) (Or.inl ⟨by rfl, ?_⟩) ?_ ?_; rotate_left; (· intro w'; go_simp; with_reducible rfl); rotate_left; (· simp only [Act.put, y1_, y2_, y3_, i64_w, i32_w]; rfl); refine pure_ (i := 13) (N := some 66) (v := ?_) (a' := ?_) (rowB 44 16383) rfl rfl (any_of HT_.out (by kernel_rfl)) (fun _ _ _ h => h) (Or.inl ⟨by rfl, ?_⟩) ?_ ?_; rotate_left; (· intro w'; go_simp; with_reducible rfl); rotate_left; (· simp only [Act.put, y1_, y2_, y3_, i64_w, i32_w]; rfl); refine pure_ (i := 14) (N := some 67) (v := ?_) (a' := ?_) (rowB 44 32767) rfl rfl (any_of HT_.out (by kernel_rfl)) (fun _ _ _ h => h) (Or.inl ⟨by rfl, ?_⟩) ?_ ?_; rotate_left; (· intro w'; go_simp; with_reducible rfl); rotate_left; (· simp only [Act.put, y1_, y2_, y3_, i64_w, i32_w]; rfl); refine pure_ (i := 15) (N := some 68) (v := ?_) (a' := ?_) (rowB 44 65535) rfl rfl (any_of HT_.out (by kernel_rfl)) (fun _ _ _ h => h) (Or.inl ⟨by rfl, ?_⟩) ?_ ?_; rotate_left; (· intro w'; go_simp; with_reducible rfl); rotate_left; (· simp only [Act.put, y1_, y2_, y3_, i64_w, i32_w]; rfl); refine pure_ (i := 16) (N := some 69) (v := ?_) (a' := ?_) (rowB 44 131071) rfl rfl (any_of HT_.out (by kernel_rfl)) (fun _ _ _ h => h) (Or.inl ⟨by rfl, ?_⟩) ?_ ?_; rotate_left; (· intro w'; go_simp; with_reducible rfl); rotate_left; (· simp only [Act.put, y1_, y2_, y3_, i64_w, i32_w]; rfl); refine pure_ (i := 21) (N := some 74) (v := ?_) (a' := ?_) (rowB 44 2228223) rfl rfl (any_of HT_.out (by kernel_rfl)) (fun _ _ _ h => h) (Or.inl ⟨by rfl, ?_⟩) ?_ ?_; rotate_left; (· intro w'; go_simp; with_reducible rfl); rotate_left; (· simp only [Act.put, y1_, y2_, y3_, i64_w, i32_w]; rfl); refine pure_ (i := 22) (N := some 75) (v := ?_) (a' := ?_) (rowB 44 6422527) rfl rfl (any_of HT_.out (by kernel_rfl)) (fun _ _ _ h => h) (Or.inl ⟨by rfl, ?_⟩) ?_ ?_; rotate_left; (· intro w'; go_simp; with_reducible rfl); rotate_left; (· simp only [Act.put, y1_, y2_, y3_, i64_w, i32_w]; rfl); refine pure_ (i := 24) (N := some 77) (v := ?_) (a' := ?_) (rowB 44 23199743) rfl rfl (any_of HT_.out (by kernel_rfl)) (fun _ _ _ h => h) (Or.inl ⟨by rfl, ?_⟩) ?_ ?_; rotate_left; (· intro w'; go_simp; with_reducible rfl); rotate_left; (· simp only [Act.put, y1_, y2_, y3_, i64_w, i32_w]; rfl); refine take_ (i := 17) (N := some 70) (v := ?_) (a' := ?_) (rowB 44 23330815) rfl rfl (take_ofW HT_.out HW_.out (by kernel_rfl)) (fun _ _ _ h => h) (Or.inl ⟨by rfl, ?_⟩) hHeld ?_ ?_; rotate_left; (· rintro w' ⟨s0, s1, s2, s3, s4, s5, s6, s7⟩; go_simp; with_reducible rfl); rotate_left; (· simp only [Act.put, y1_, y2_, y3_, i64_w, i32_w]; rfl); refine pure_ (i := 18) (N := some 71) (v := ?_) (a' := ?_) (rowB 44 23592959) rfl rfl (any_of HT_.out (by kernel_rfl)) (fun _ _ _ h => h) (Or.inl ⟨by rfl, ?_⟩) ?_ ?_; rotate_left; (· intro w'; go_simp; with_reducible rfl); rotate_left; (· simp only [Act.put, y1_, y2_, y3_, i64_w, i32_w]; rfl); refine pure_ (i := 19) (N := some 72) (v := ?_) (a' := ?_) (rowB 44 24117247) rfl rfl (any_of HT_.out (by kernel_rfl)) (fun _ _ _ h => h) (Or.inl ⟨by rfl, ?_⟩) ?_ ?_; rotate_left; (· intro w'; go_simp; with_reducible rfl); rotate_left; (· simp only [Act.put, y1_, y2_, y3_, i64_w, i32_w]; rfl); refine take_ (i := 20) (N := some 73) (v := ?_) (a' := ?_) (rowB 44 25165823) rfl rfl (take_ofW HT_.out HW_.out (by kernel_rfl)) (fun _ _ _ h => h) (Or.inl ⟨by rfl, ?_⟩) hHeld ?_ ?_; rotate_left; (· rintro w' ⟨s0, s1, s2, s3, s4, s5, s6, s7⟩; go_simp; with_reducible rfl); rotate_left; (· simp only [Act.put, y1_, y2_, y3_, i64_w, i32_w]; rfl); refine pure_ (i := 23) (N := some 76) (v := ?_) (a' := ?_) (rowB 44 33554431) rfl rfl (any_of HT_.out (by kernel_rfl)) (fun _ _ _ h => h) (Or.inl ⟨by rfl, ?_⟩) ?_ ?_; rotate_left; (· intro w'; go_simp; with_reducible rfl); rotate_left; (· simp only [Act.put, y1_, y2_, y3_, i64_w, i32_w]; rfl); refine one_ (i := 25) (N := some 78) (rowB 44 67108863) rfl rfl (one_of HT_.out (by kernel_rfl)) (by decide) (fun K hK => ?_); refine goes_ Tryd.func41 (by kernel_rfl) rfl #[.slice A474_2 y477.length c474_2, .slice _ t462.length co12] (by rfl) rfl rfl (by (try simp only [List.map_toArray, List.map_cons, List.map_nil]); first | done | rfl | (simp only [List.length_drop, List.length_take]; rfl)) ?_; with_reducible refine (impl_MelodySame.calls _ _ y477 _ _ t462 true _ ?side1 ?side2 ?side3 ?side4 A34.out (ht := HT.out.below (by repeat (first | (with_reducible first | exact HB.out | apply zc_ | apply za_ | apply zb_) | exact HB.out)))).mono ?_
                  (case side1 => repeat (first | exact (Kd.V_reads' HO481.out).2.2 | (with_reducible refine Kd.C_alloc ?_ _) | (with_reducible refine Kd.C_drewN ?_ _) | (with_reducible refine Kd.C_drew ?_)))
                  (case side2 => exact (Kd.V_reads' HO481.out).2.1)
                  (case side3 => repeat (first | exact (Kd.V_reads' HO_6.out).2.2 | (with_reducible refine Kd.C_alloc ?_ _) | (with_reducible refine Kd.C_drewN ?_ _) | (with_reducible refine Kd.C_drew ?_)))
                  (case side4 => exact (Kd.V_reads' HO_6.out).2.1)
                  rintro e w52 ⟨rfl, hb⟩; have HS0_ := (hb.cell (World.block_lt_of_cell? _ _ (hHeld.1))).trans (hHeld.1); have HS1_ := (hb.cell (World.block_lt_of_cell? _ _ (hHeld.2.1))).trans (hHeld.2.1); have HS2_ := (hb.cell (World.block_lt_of_cell? _ _ (hHeld.2.2.1))).trans (hHeld.2.2.1); have HS3_ := (hb.cell (World.block_lt_of_cell? _ _ (hHeld.2.2.2.1))).trans (hHeld.2.2.2.1); have HS4_ := (hb.cell (World.block_lt_of_cell? _ _ (hHeld.2.2.2.2.1))).trans (hHeld.2.2.2.2.1); have HS5_ := (hb.cell (World.block_lt_of_cell? _ _ (hHeld.2.2.2.2.2.1))).trans (hHeld.2.2.2.2.2.1); have HS6_ := (hb.cell (World.block_lt_of_cell? _ _ (hHeld.2.2.2.2.2.2.1))).trans (hHeld.2.2.2.2.2.2.1); have HS7_ := (hb.cell (World.block_lt_of_cell? _ _ (hHeld.2.2.2.2.2.2.2))).trans (hHeld.2.2.2.2.2.2.2); refine ⟨_, rfl, ?_⟩; have n0_ := Z_.mk (Kd.N_below (by (with_reducible repeat (first | apply Kd.N_alloc | apply Kd.N_drewN | apply Kd.N_drew)); exact HO_5.out) hb); have n1_ := Z_.mk (Kd.V_below (by (with_reducible repeat (first | apply Kd.V_alloc | apply Kd.V_drewN | apply Kd.V_drew)); exact HO_6.out) hb); have n2_ := Z_.mk (Kd.R_below (by (with_reducible repeat (first | apply Kd.R_alloc | apply Kd.R_drewN | apply Kd.R_drew)); exact HO_7.out) hb); have n3_ := Z_.mk (Kd.V_below (by (with_reducible repeat (first | apply Kd.V_alloc | apply Kd.V_drewN | apply Kd.V_drew)); exact HL474_2.out) hb); have n4_ := Z_.mk (Kd.V_below (by (with_reducible repeat (first | apply Kd.V_alloc | apply Kd.V_drewN | apply Kd.V_drew)); exact HL476_2.out) hb); have n5_ := Z_.mk (Kd.V_below (by (with_reducible repeat (first | apply Kd.V_alloc | apply Kd.V_drewN | apply Kd.V_drew)); exact HO481.out) hb); have n6_ := Z_.mk (Kd.C_below (by repeat (first | (with_reducible exact HR474_2.out) | (with_reducible refine Kd.C_alloc ?_ _) | (with_reducible refine Kd.C_drewN ?_ _) | (with_reducible refine Kd.C_drew ?_) | exact HR474_2.out)) hb); have n7_ := Z_.mk (Kd.C_below (by repeat (first | (with_reducible exact HR476_2.out) | (with_reducible refine Kd.C_alloc ?_ _) | (with_reducible refine Kd.C_drewN ?_ _) | (with_reducible refine Kd.C_drew ?_) | exact HR476_2.out)) hb); have n8_ := Z_.mk (ze_ (by repeat (first | (with_reducible first | exact HB.out | apply zc_ | apply za_ | apply zb_) | exact HB.out)) hb); clear HO_5; clear HO_6; clear HO_7; clear HL474_2; clear HL476_2; clear HO481; clear HR474_2; clear HR476_2; clear HB; have HO_5 := n0_; have HO_6 := n1_; have HO_7 := n2_; have HL474_2 := n3_; have HL476_2 := n4_; have HO481 := n5_; have HR474_2 := n6_; have HR476_2 := n7_; have HB := n8_; clear n0_ n1_ n2_ n3_ n4_ n5_ n6_ n7_ n8_; (try clear hb)
                  (try clear hb2)
                  (try clear hk)
                  (try clear hi)
                  refine hK.out _ _ ⟨HS0_, HS1_, HS2_, HS3_, HS4_, HS5_, HS6_, HS7_⟩ (fun hHeld => ?_); clear hK K; refine norm_ (a' := ?_) ?_ ?_; rotate_left; (· show Act.put _ (some 78) _ = _; simp only [Act.put, y1_, y2_, y3_, i64_w, i32_w]; rfl); refine pure_ (i := 26) (N := some 79) (v := ?_) (a' := ?_) (rowB 44 134217727) rfl rfl (any_of HT_.out (by kernel_rfl)) (fun _ _ _ h => h) (Or.inl ⟨by rfl, ?_⟩) ?_ ?_; rotate_left; (· intro w'; go_simp; with_reducible rfl); rotate_left; (· simp only [Act.put, y1_, y2_, y3_, i64_w, i32_w]; rfl); refine pure_ (i := 27) (N := some 80) (v := ?_) (a' := ?_) (rowB 44 268435455) rfl rfl (any_of HT_.out (by kernel_rfl)) (fun _ _ _ h => h) (Or.inl ⟨by rfl, ?_⟩) ?_ ?_; rotate_left; (· intro w'; go_simp; with_reducible rfl); rotate_left; (· simp only [Act.put, y1_, y2_, y3_, i64_w, i32_w]; rfl); refine pure_ (i := 28) (N := some 81) (v := ?_) (a' := ?_) (rowB 44 536870911) rfl rfl (any_of HT_.out (by kernel_rfl)) (fun _ _ _ h => h) (Or.inl ⟨by rfl, ?_⟩) ?_ ?_; rotate_left; (· intro w'; go_simp; with_reducible rfl); rotate_left; (· simp only [Act.put, y1_, y2_, y3_, i64_w, i32_w]; rfl); refine pure_ (i := 29) (N := some 82) (v := ?_) (a' := ?_) (rowB 44 1073741823) rfl rfl (any_of HT_.out (by kernel_rfl)) (fun _ _ _ h => h) (Or.inl ⟨by rfl, ?_⟩) ?_ ?_; rotate_left; (· intro w'; go_simp; with_reducible rfl); rotate_left; (· simp only [Act.put, y1_, y2_, y3_, i64_w, i32_w]; rfl); refine pure_ (i := 30) (N := some 83) (v := ?_) (a' := ?_) (rowB 44 2147483647) rfl rfl (any_of HT_.out (by kernel_rfl)) (fun _ _ _ h => h) (Or.inl ⟨by rfl, ?_⟩) ?_ ?_; rotate_left; (· intro w'; go_simp; with_reducible rfl); rotate_left; (· simp only [Act.put, y1_, y2_, y3_, i64_w, i32_w]; rfl); refine pure_ (i := 31) (N := some 84) (v := ?_) (a' := ?_) (rowB 44 4294967295) rfl rfl (any_of HT_.out (by kernel_rfl)) (fun _ _ _ h => h) (Or.inl ⟨by rfl, ?_⟩) ?_ ?_; rotate_left; (· intro w'; go_simp; with_reducible rfl); rotate_left; (· simp only [Act.put, y1_, y2_, y3_, i64_w, i32_w]; rfl); refine pure_ (i := 32) (N := some 85) (v := undef) (a' := ?_) (rowB 44 8589934591) rfl rfl (any_of HT_.out (by kernel_rfl)) (fun _ _ _ h => h) (Or.inr ⟨by rfl, rfl⟩) ?_ ?_; rotate_left; (· simp only [Act.put, y1_, y2_, y3_, i64_w, i32_w]; rfl); refine pure_ (i := 33) (N := some 86) (v := undef) (a' := ?_) (rowB 44 17179869183) rfl rfl (any_of HT_.out (by kernel_rfl)) (fun _ _ _ h => h) (Or.inr ⟨by rfl, rfl⟩) ?_ ?_; rotate_left; (· simp only [Act.put, y1_, y2_, y3_, i64_w, i32_w]; rfl); refine pure_ (i := 34) (N := some 87) (v := undef) (a' := ?_) (rowB 44 34359738367) rfl rfl (any_of HT_.out (by kernel_rfl)) (fun _ _ _ h => h) (Or.inr ⟨by rfl, rfl⟩) ?_ ?_; rotate_left; (· simp only [Act.put, y1_, y2_, y3_, i64_w, i32_w]; rfl); refine pure_ (i := 35) (N := some 88) (v := undef) (a' := ?_) (rowB 44 68719476735) rfl rfl (any_of HT_.out (by kernel_rfl)) (fun _ _ _ h => h) (Or.inr ⟨by rfl, rfl⟩) ?_ ?_; rotate_left; (· simp only [Act.put, y1_, y2_, y3_, i64_w, i32_w]; rfl); refine pure_ (i := 36) (N := some 89) (v := undef) (a' := ?_) (rowB 44 137438953471) rfl rfl (any_of HT_.out (by kernel_rfl)) (fun _ _ _ h => h) (Or.inr ⟨by rfl, rfl⟩) ?_ ?_; rotate_left; (· simp only [Act.put, y1_, y2_, y3_, i64_w, i32_w]; rfl); refine pure_ (i := 37) (N := some 90) (v := undef) (a' := ?_) (rowB 44 274877906943) rfl rfl (any_of HT_.out (by kernel_rfl)) (fun _ _ _ h => h) (Or.inr ⟨by rfl, rfl⟩) ?_ ?_; rotate_left; (· simp only [Act.put, y1_, y2_, y3_, i64_w, i32_w]; rfl); refine pure_ (i := 38) (N := some 91) (v := undef) (a' := ?_) (rowB 44 549755813887) rfl rfl (any_of HT_.out (by kernel_rfl)) (fun _ _ _ h => h) (Or.inr ⟨by rfl, rfl⟩) ?_ ?_; rotate_left; (· simp only [Act.put, y1_, y2_, y3_, i64_w, i32_w]; rfl); refine pure_ (i := 39) (N := some 92) (v := undef) (a' := ?_) (rowB 44 1099511627775) rfl rfl (any_of HT_.out (by kernel_rfl)) (fun _ _ _ h => h) (Or.inr ⟨by rfl, rfl⟩) ?_ ?_; rotate_left; (· simp only [Act.put, y1_, y2_, y3_, i64_w, i32_w]; rfl); refine pure_ (i := 40) (N := some 93) (v := undef) (a' := ?_) (rowB 44 2199023255551) rfl rfl (any_of HT_.out (by kernel_rfl)) (fun _ _ _ h => h) (Or.inr ⟨by rfl, rfl⟩) ?_ ?_; rotate_left; (· simp only [Act.put, y1_, y2_, y3_, i64_w, i32_w]; rfl); refine pure_ (i := 41) (N := some 94) (v := undef) (a' := ?_) (rowB 44 4398046511103) rfl rfl (any_of HT_.out (by kernel_rfl)) (fun _ _ _ h => h) (Or.inr ⟨by rfl, rfl⟩) ?_ ?_; rotate_left; (· simp only [Act.put, y1_, y2_, y3_, i64_w, i32_w]; rfl); refine pure_ (i := 42) (N := some 95) (v := ?_) (a' := ?_) (rowB 44 8796093022207) rfl rfl (any_of HT_.out (by kernel_rfl)) (fun _ _ _ h => h) (Or.inl ⟨by rfl, ?_⟩) ?_ ?_; rotate_left; (· intro w'; go_simp; with_reducible rfl); rotate_left; (· simp only [Act.put, y1_, y2_, y3_, i64_w, i32_w]; rfl); refine pure_ (i := 43) (N := some 96) (v := ?_) (a' := ?_) (rowB 44 17592186044415) rfl rfl (any_of HT_.out (by kernel_rfl)) (fun _ _ _ h => h) (Or.inl ⟨by rfl, ?_⟩) ?_ ?_; rotate_left; (· intro w'; go_simp; with_reducible rfl); rotate_left; (· simp only [Act.put, y1_, y2_, y3_, i64_w, i32_w]; rfl); refine done_ (done_of HT_.out (by kernel_rfl)) ?_; try go_wp2
                  go_roundg k3
                  case measure => have := HJ2.out; have := HJ8.out; have := HK3.out; omega
                  case rel => exact ⟨(wrap64 (x9_3 + 1)), (by first | rfl | (simp; done) | (simp [*]; done)), H', ⟨by have := HJ2.out; have := HJ8.out; have := HK3.out; omega⟩, ⟨by (with_reducible repeat (first | apply Kd.N_alloc | apply Kd.N_drewN | apply Kd.N_drew)); exact HO_5.out⟩, ⟨by (with_reducible repeat (first | apply Kd.V_alloc | apply Kd.V_drewN | apply Kd.V_drew)); exact HO_6.out⟩, ⟨by (with_reducible repeat (first | apply Kd.R_alloc | apply Kd.R_drewN | apply Kd.R_drew)); exact HO_7.out⟩, ⟨by repeat (first | (with_reducible first | exact HB.out | apply zc_ | apply za_ | apply zb_) | exact HB.out)⟩⟩
                ·
                 replace c35 := Bool.eq_false_iff.mpr c35; subst c35; have H1 : (some false) = some r := by rw [if_neg (show ¬ (false = true) by decide)] at H; exact H
                 exact absurd (H1.trans (congrArg some HRR.out)) (by simp)
               ·
                rw [if_neg c33] at H; exact absurd H (by simp)
              ·
               rw [if_neg c32] at H; exact absurd H (by simp)
            ·
             rw [if_neg c28] at H; exact absurd H (by simp)
           ·
            rw [if_neg c27] at H; exact absurd H (by simp)
          ·
           rw [if_neg c26] at H; exact absurd H (by simp)
         ·
          rw [if_neg c25] at H; have c25b0 : decide (x9_3 < (t465.length : Int)) = false := decide_eq_false c25; clear c25; by_cases c57 : (wrap64 ((t462.length : Int) + 1)) = 0
          ·
           rw [if_pos c57] at H; exact absurd H (by simp)
          ·
           rw [if_neg c57] at H; have c57b0 : ((wrap64 ((t462.length : Int) + 1)) == 0) = false := beq_eq_false_iff_ne.mpr c57; have c57b1 : ((wrap64 ((t462.length : Int) + 1)) != 0) = true := bne_iff_ne.mpr c57; obtain ⟨ji58, hji58⟩ : ∃ j_ : Int, ((l1.length : Int) % (wrap64 ((t462.length : Int) + 1))) = j_ := ⟨_, rfl⟩
           replace H : (if 0 ≤ (ji58) then (if (ji58) ≤ (t462.length : Int) then ((impl_TonaryFind.f k3 t459 (t462.take ((ji58) : Int).toNat)).bind fun t490 => (laws_FnTonaryFind.l1 k3 t459 t462 t465 t490 0 0)) else (none)) else (none)) = some r := by first | (rw [hji58] at H; exact H) | (simp only [hji58] at H ⊢; exact H)
           by_cases c59 : 0 ≤ (ji58)
           ·
            rw [if_pos c59] at H; have c59b0 := eq_true c59; have c59b1 : decide (0 ≤ (ji58)) = true := decide_eq_true c59; clear c59; by_cases c60 : (ji58) ≤ (t462.length : Int)
            ·
             rw [if_pos c60] at H; have c60b0 := eq_true c60; have c60b1 : decide ((ji58) ≤ (t462.length : Int)) = true := decide_eq_true c60; clear c60; obtain ⟨y485, hy485⟩ : ∃ y_ : List (S90), y_ = (t462.take ((ji58) : Int).toNat) := ⟨_, rfl⟩
             replace H : ((impl_TonaryFind.f k3 t459 y485).bind fun t490 => (laws_FnTonaryFind.l1 k3 t459 t462 t465 t490 0 0)) = some r := by first | (rw [hy485]; with_reducible exact H) | (have H2_ := (Option.bind_some _ _).symm.trans H; rw [hy485]; with_reducible exact H2_) | (have H2_ := (Option.bind_some _ _).symm.trans H; with_reducible exact H2_) | with_reducible exact H | (rw [hy485]; exact H) | exact H
             have Ny485 := Z_.mk hy485; clear hy485; replace H := Option.bind_eq_some_iff.mp H; obtain ⟨t490, A610, H⟩ := H; replace H : (laws_FnTonaryFind.l1 k3 t459 t462 t465 t490 0 0) = some r := H; have A61 := Z_.mk A610; clear A610; have H' := Z_.mk H; clear H; obtain ⟨Ao62, co62, eo62⟩ := Kd.R_slice HO_7.out; subst eo62; have q63 : ((ji58) : Int) ≤ ((t462.length : Int) : Int) := of_decide_eq_true (by first | (with_reducible assumption) | assumption); obtain ⟨i063, hi063, _, hsz63, _⟩ := info_parts info90; have hroom63 : t462.length ≤ co12 := (Kd.V_reads' HO_6.out).2.1; have hC63 : Kd.F k90 _ _ Ao12 t462.length t462 := (Kd.V_at (base := w.heap.size) HO_6.out).2.2; have hcut63 := cut_to (P := Tryd.prog) 36 90 .i64 Tryd.underlying36 hi063 Ao12 t462.length co12 (ji58) (of_decide_eq_true (by first | (with_reducible assumption) | assumption)) q63 hroom63; have hr63 := Kd.F_take (m := ((ji58) : Int).toNat) hC63 (by omega); have hy63 : y485.length = ((ji58) : Int).toNat := (by rw [Ny485.out, List.length_take]; omega)
             rw [← Ny485.out] at hr63; rw [← hy63] at hcut63; have HO489 := Z_.mk (show Kd.V k90 90 _ w.heap.size _ (.slice Ao12 y485.length co12) y485 from Kd.V_mk (by omega) hr63); have HC489 := Z_.mk (show y485.length ≤ co12 from by omega); clear hr63 hC63 hroom63 hi063 hsz63; have KY63 := Z_.mk hy63; clear hy63; replace q63 := eq_true q63; go_wp2_with (first | ((with_reducible refine zp_ (f := 31) rfl ?_); refine goesL_ (some 107) rfl rfl Tryd.func31 (by kernel_rfl) rfl #[.slice Ao11 t459.length co11, .slice Ao12 y485.length co12] rfl (by (try simp only [List.map_toArray, List.map_cons, List.map_nil]); first | done | rfl | (simp only [List.length_drop, List.length_take]; rfl)) ?_; (with_reducible refine (impl_TonaryFind.calls k3 _ _ t459 _ _ y485 t490 _ ?side1 ?side2 ?side3 ?side4 A61.out (ht := HT.out.below (by repeat (first | (with_reducible first | exact HB.out | apply zc_ | apply za_ | apply zb_) | exact HB.out)))).mono ?_); (case side1 => repeat (first | exact (Kd.N_reads' HO_5.out).2.2 | (with_reducible refine Kd.C_alloc ?_ _) | (with_reducible refine Kd.C_drewN ?_ _) | (with_reducible refine Kd.C_drew ?_))); (case side2 => exact (Kd.N_reads' HO_5.out).2.1); (case side3 => repeat (first | exact (Kd.V_reads' HO489.out).2.2 | (with_reducible refine Kd.C_alloc ?_ _) | (with_reducible refine Kd.C_drewN ?_ _) | (with_reducible refine Kd.C_drew ?_))); (case side4 => exact (Kd.V_reads' HO489.out).2.1); rintro e w64 ⟨v491, rfl, ho0, hb⟩; refine ⟨_, rfl, ?_⟩; have n0_ := Z_.mk (Kd.N_elder' (by (with_reducible repeat (first | apply Kd.N_alloc | apply Kd.N_drewN | apply Kd.N_drew)); exact HO_5.out) (Kd.R_base ho0) hb); have n1_ := Z_.mk (Kd.V_elder' (by (with_reducible repeat (first | apply Kd.V_alloc | apply Kd.V_drewN | apply Kd.V_drew)); exact HO_6.out) (Kd.R_base ho0) hb); have n2_ := Z_.mk (Kd.R_elder' (by (with_reducible repeat (first | apply Kd.R_alloc | apply Kd.R_drewN | apply Kd.R_drew)); exact HO_7.out) (Kd.R_base ho0) hb); have n3_ := Z_.mk (Kd.V_elder' (by (with_reducible repeat (first | apply Kd.V_alloc | apply Kd.V_drewN | apply Kd.V_drew)); exact HO489.out) (Kd.R_base ho0) hb); have n4_ := Z_.mk (Kd.R_lower (Kd.R_new' ho0 (Kd.R_lt (by (with_reducible repeat (first | apply Kd.R_alloc | apply Kd.R_drewN | apply Kd.R_drew)); exact HO_7.out))) (zj_ (by repeat (first | (with_reducible first | exact HB.out | apply zc_ | apply za_ | apply zb_) | exact HB.out)))); have n5_ := Z_.mk (ze_ (by repeat (first | (with_reducible first | exact HB.out | apply zc_ | apply za_ | apply zb_) | exact HB.out)) hb); clear HO_5; clear HO_6; clear HO_7; clear HO489; clear HB; have HO_5 := n0_; have HO_6 := n1_; have HO_7 := n2_; have HO489 := n3_; have HO492 := n4_; have HB := n5_; clear n0_ n1_ n2_ n3_ n4_ n5_))
             go_loopg [12, 13] k3 (fun kq v12 v13 w' => ∃ (x12_4 : Int) (x13_4 : Int), v12 = .int .i64 x12_4 ∧ v13 = .int .i64 x13_4 ∧ Z_ (laws_FnTonaryFind.l1 kq t459 t462 t465 t490 x12_4 x13_4 = some r) ∧ Z_ (kq ≤ k3) ∧ Z_ (Kd.N k38 38 w' w.heap.size (fun k_ => some k_ ≠ ((.slice Ao62 t465.length co62) : Value).ownBlock ∧ some k_ ≠ (v491 : Value).ownBlock) (.slice Ao11 t459.length co11) t459) ∧ Z_ (Kd.V k90 90 w' w.heap.size (fun k_ => some k_ ≠ ((.slice Ao11 t459.length co11) : Value).ownBlock ∧ some k_ ≠ ((.slice Ao62 t465.length co62) : Value).ownBlock ∧ some k_ ≠ (v491 : Value).ownBlock) (.slice Ao12 t462.length co12) t462) ∧ Z_ (Kd.R (Kd.int .i64) 3 w' w.heap.size (fun k_ => some k_ ≠ (v491 : Value).ownBlock) (.slice Ao62 t465.length co62) t465) ∧ Z_ (Kd.R (Kd.int .i64) 3 w' w.heap.size (fun k_ => some k_ ≠ ((.slice Ao62 t465.length co62) : Value).ownBlock) v491 t490) ∧ Z_ (Below w.heap.size w w'))
             case atStart => exact ⟨(0), (0), (by first | rfl | (simp; done) | (simp [*]; done)), (by first | rfl | (simp; done) | (simp [*]; done)), H', ⟨Nat.le_refl _⟩, ⟨by (with_reducible repeat (first | apply Kd.N_alloc | apply Kd.N_drewN | apply Kd.N_drew)); exact HO_5.out⟩, ⟨by (with_reducible repeat (first | apply Kd.V_alloc | apply Kd.V_drewN | apply Kd.V_drew)); exact Kd.V_mono HO_6.out (fun _ hk => ⟨hk.1.1, ⟨hk.1.2, hk.2⟩⟩)⟩, ⟨by (with_reducible repeat (first | apply Kd.R_alloc | apply Kd.R_drewN | apply Kd.R_drew)); exact Kd.R_mono HO_7.out (fun _ hk => hk.2)⟩, ⟨by (with_reducible repeat (first | apply Kd.R_alloc | apply Kd.R_drewN | apply Kd.R_drew)); exact Kd.R_mono HO492.out (fun _ hk => hk.2)⟩, ⟨by repeat (first | (with_reducible first | exact HB.out | apply zc_ | apply za_ | apply zb_) | exact HB.out)⟩⟩
             case round =>
              clear H'; try clear c2
              try clear p2
              try clear c3
              try clear c4
              try clear p4
              try clear q4
              try clear hx4
              try clear c5
              try clear q5
              try clear c6
              try clear p6
              try clear q6
              try clear c25
              try clear c25b0
              try clear c26
              try clear c27
              try clear c28
              try clear c31
              try clear c32
              try clear c33
              try clear c35
              try clear c41
              try clear c47
              try clear p47
              try clear q47
              try clear hx47
              try clear q55
              try clear c57
              try clear c57b0
              try clear c57b1
              try clear c59
              try clear c59b0
              try clear c59b1
              try clear c60
              try clear c60b0
              try clear c60b1
              try clear q63
              try clear p64
              try clear hx473_0
              try clear hx474_0
              try clear hx474_1
              try clear hx474_2
              try clear hx475_0
              try clear hx476_0
              try clear hx476_1
              try clear hx476_2
              try clear p473
              try clear p474
              try clear p475
              try clear p476
              try clear q473
              try clear q474
              try clear q475
              try clear q476
              try clear q55
              try clear q63
              obtain ⟨x12_4, x13_4, rfl, rfl, HA, HK4, HO_5, HO_6, HO_7, HO_11, HB⟩ := hrel; cases gk with
              | zero => exact absurd HA.out (by simp [laws_FnTonaryFind.l1])
              | succ k4 =>
               have H := HA.out; clear HA; simp only [laws_FnTonaryFind.l1] at H; have HC65 := Z_.mk H; clear H; go_upto_region 17 with (fail)
               go_cut [117] (fun v117 wc => ∃ (kq : Nat) (x117_64 : Bool), v117 = .bool x117_64 ∧ Z_ (laws_FnTonaryFind.j4 kq t459 t462 t465 t490 x12_4 x13_4 x117_64 = some r) ∧ Z_ (kq ≤ k4) ∧ Z_ (Kd.N k38 38 wc w.heap.size (fun k_ => some k_ ≠ ((.slice Ao62 t465.length co62) : Value).ownBlock ∧ some k_ ≠ (v491 : Value).ownBlock) (.slice Ao11 t459.length co11) t459) ∧ Z_ (Kd.V k90 90 wc w.heap.size (fun k_ => some k_ ≠ ((.slice Ao11 t459.length co11) : Value).ownBlock ∧ some k_ ≠ ((.slice Ao62 t465.length co62) : Value).ownBlock ∧ some k_ ≠ (v491 : Value).ownBlock) (.slice Ao12 t462.length co12) t462) ∧ Z_ (Kd.R (Kd.int .i64) 3 wc w.heap.size (fun k_ => some k_ ≠ (v491 : Value).ownBlock) (.slice Ao62 t465.length co62) t465) ∧ Z_ (Kd.R (Kd.int .i64) 3 wc w.heap.size (fun k_ => some k_ ≠ ((.slice Ao62 t465.length co62) : Value).ownBlock) v491 t490) ∧ Z_ (Below w.heap.size w wc))
               case first =>
                have H := HC65.out; clear HC65; by_cases c66 : x13_4 < (t490.length : Int)
                ·
                 rw [if_pos c66] at H; have c66b0 : decide (x13_4 < (t490.length : Int)) = true := decide_eq_true c66; clear c66; (first | rw [c66b0] | (simp only [i64_w, i32_w]; rw [c66b0]) | skip)
                 have H' := Z_.mk H; clear H; obtain ⟨Ao67, co67, eo67⟩ := Kd.R_slice HO_11.out; subst eo67; go_wp2; go_meet
                 case rel => exact ⟨_, (decide (x12_4 < (t465.length : Int))), (by first | rfl | (simp; done) | (simp [*]; done)), H', ⟨by have := HJ2.out; have := HJ8.out; have := HK3.out; have := HK4.out; first | omega | exact Nat.le_refl _⟩, ⟨by (with_reducible repeat (first | apply Kd.N_alloc | apply Kd.N_drewN | apply Kd.N_drew)); exact HO_5.out⟩, ⟨by (with_reducible repeat (first | apply Kd.V_alloc | apply Kd.V_drewN | apply Kd.V_drew)); exact HO_6.out⟩, ⟨by (with_reducible repeat (first | apply Kd.R_alloc | apply Kd.R_drewN | apply Kd.R_drew)); exact HO_7.out⟩, ⟨by (with_reducible repeat (first | apply Kd.R_alloc | apply Kd.R_drewN | apply Kd.R_drew)); exact HO_11.out⟩, ⟨by repeat (first | (with_reducible first | exact HB.out | apply zc_ | apply za_ | apply zb_) | exact HB.out)⟩⟩
                ·
                 rw [if_neg c66] at H; have c66b0 : decide (x13_4 < (t490.length : Int)) = false := decide_eq_false c66; clear c66; (first | rw [c66b0] | (simp only [i64_w, i32_w]; rw [c66b0]) | skip)
                 have H' := Z_.mk H; clear H; obtain ⟨Ao68, co68, eo68⟩ := Kd.R_slice HO_11.out; subst eo68; go_wp2; go_meet
                 case rel => exact ⟨_, (false), (by first | rfl | (simp; done) | (simp [*]; done)), H', ⟨by have := HJ2.out; have := HJ8.out; have := HK3.out; have := HK4.out; first | omega | exact Nat.le_refl _⟩, ⟨by (with_reducible repeat (first | apply Kd.N_alloc | apply Kd.N_drewN | apply Kd.N_drew)); exact HO_5.out⟩, ⟨by (with_reducible repeat (first | apply Kd.V_alloc | apply Kd.V_drewN | apply Kd.V_drew)); exact HO_6.out⟩, ⟨by (with_reducible repeat (first | apply Kd.R_alloc | apply Kd.R_drewN | apply Kd.R_drew)); exact HO_7.out⟩, ⟨by (with_reducible repeat (first | apply Kd.R_alloc | apply Kd.R_drewN | apply Kd.R_drew)); exact HO_11.out⟩, ⟨by repeat (first | (with_reducible first | exact HB.out | apply zc_ | apply za_ | apply zb_) | exact HB.out)⟩⟩
               case rest =>
                clear HC65; try clear c2
                try clear p2
                try clear c3
                try clear c4
                try clear p4
                try clear q4
                try clear hx4
                try clear c5
                try clear q5
                try clear c6
                try clear p6
                try clear q6
                try clear c25
                try clear c25b0
                try clear c26
                try clear c27
                try clear c28
                try clear c31
                try clear c32
                try clear c33
                try clear c35
                try clear c41
                try clear c47
                try clear p47
                try clear q47
                try clear hx47
                try clear q55
                try clear c57
                try clear c57b0
                try clear c57b1
                try clear c59
                try clear c59b0
                try clear c59b1
                try clear c60
                try clear c60b0
                try clear c60b1
                try clear q63
                try clear p64
                try clear c66
                try clear c66b0
                try clear hx473_0
                try clear hx474_0
                try clear hx474_1
                try clear hx474_2
                try clear hx475_0
                try clear hx476_0
                try clear hx476_1
                try clear hx476_2
                try clear p2
                try clear p4
                try clear p47
                try clear p473
                try clear p474
                try clear p475
                try clear p476
                try clear p6
                try clear p64
                try clear q4
                try clear q47
                try clear q473
                try clear q474
                try clear q475
                try clear q476
                try clear q5
                try clear q55
                try clear q6
                try clear q63
                obtain ⟨kq, x117_64, rfl, HA, HJ64, HO_5, HO_6, HO_7, HO_11, HB⟩ := hcut; cases kq with
                | zero => exact absurd HA.out (by simp [laws_FnTonaryFind.j4])
                | succ kj64 =>
                 have H := HA.out; clear HA; simp only [laws_FnTonaryFind.j4] at H; by_cases c69 : x117_64 = true
                 ·
                  subst c69; have H1 : (if 0 ≤ x13_4 then (if x13_4 < (t490.length : Int) then (if 0 ≤ x12_4 then (if x12_4 < (t465.length : Int) then (if (rd t490 x13_4) = (rd t465 x12_4) then (laws_FnTonaryFind.l1 kj64 t459 t462 t465 t490 (wrap64 (x12_4 + 1)) (wrap64 (x13_4 + 1))) else (laws_FnTonaryFind.l1 kj64 t459 t462 t465 t490 x12_4 (wrap64 (x13_4 + 1)))) else (none)) else (none)) else (none)) else (none)) = some r := by rw [if_pos rfl] at H; exact H
                  clear H; have H := H1; clear H1; by_cases c70 : 0 ≤ x13_4
                  ·
                   rw [if_pos c70] at H; have c70b0 : decide (0 ≤ x13_4) = true := decide_eq_true c70; clear c70; by_cases c71 : x13_4 < (t490.length : Int)
                   ·
                    rw [if_pos c71] at H; have c71b0 : decide (x13_4 < (t490.length : Int)) = true := decide_eq_true c71; clear c71; by_cases c72 : 0 ≤ x12_4
                    ·
                     rw [if_pos c72] at H; have c72b0 : decide (0 ≤ x12_4) = true := decide_eq_true c72; clear c72; by_cases c73 : x12_4 < (t465.length : Int)
                     ·
                      rw [if_pos c73] at H; have c73b0 : decide (x12_4 < (t465.length : Int)) = true := decide_eq_true c73; clear c73; by_cases c74 : (rd t490 x13_4) = (rd t465 x12_4)
                      ·
                       rw [if_pos c74] at H; have c74b0 : ((rd t490 x13_4) == (rd t465 x12_4)) = true := beq_iff_eq.mpr c74; have c74b1 : ((rd t490 x13_4) != (rd t465 x12_4)) = false := bne_eq_false_iff_eq.mpr c74; clear c74; have H' := Z_.mk H; clear H; try go_wp2
                       have n0_ := Z_.mk (Kd.N_drew HO_5.out); have n1_ := Z_.mk (Kd.V_drew HO_6.out); have n2_ := Z_.mk (Kd.R_drew HO_7.out); have n3_ := Z_.mk (Kd.R_drew HO_11.out); have n4_ := Z_.mk (zb_ HB.out); clear HO_5; clear HO_6; clear HO_7; clear HO_11; clear HB; have HO_5 := n0_; have HO_6 := n1_; have HO_7 := n2_; have HO_11 := n3_; have HB := n4_; clear n0_ n1_ n2_ n3_ n4_; obtain ⟨Ao76, co76, eo76⟩ := Kd.R_slice HO_11.out; (first | subst eo76 | (injection eo76 with f1_ f2_ f3_; have f4_ := f1_.symm; have f5_ := f3_.symm; clear f1_ f2_ f3_; subst f4_; subst f5_))
                       have p493 : 0 ≤ (x13_4 : Int) := of_decide_eq_true (by first | (with_reducible assumption) | assumption); have q493 : x13_4 < (t490.length : Int) := of_decide_eq_true (by first | (with_reducible assumption) | assumption); obtain ⟨ad493, e493, hx493_0⟩ := Kd.at_int (Kd.R_reads' HO_11.out).2.2 x13_4 p493 q493; cases e493; replace p493 := eq_true p493; replace q493 := eq_true q493; have p494 : 0 ≤ (x12_4 : Int) := of_decide_eq_true (by first | (with_reducible assumption) | assumption); have q494 : x12_4 < (t465.length : Int) := of_decide_eq_true (by first | (with_reducible assumption) | assumption); obtain ⟨ad494, e494, hx494_0⟩ := Kd.at_int (Kd.R_reads' HO_7.out).2.2 x12_4 p494 q494; cases e494; replace p494 := eq_true p494; replace q494 := eq_true q494; refine start_ (n := 9) (S := fun w' => w'.cell? (ad493.add (x13_4).toNat) = some (.int .i64 (rd t490 x13_4)) ∧ w'.cell? (ad494.add (x12_4).toNat) = some (.int .i64 (rd t465 x12_4))) (ds := []) (rowB 9 0) (by kernel_rfl) rfl rfl ⟨hx493_0, hx494_0⟩ (fun hHeld => ?_); refine with_tabW laws_FnTonaryFind.tab19 laws_FnTonaryFind.bits19 (fun HT_ HW_ => ?_); generalize wc.drew = w75 at HO_5 HO_6 HO_7 HO_11 HB hx493_0 hx494_0 hHeld ⊢; refine pure_ (i := 0) (N := some 120) (v := ?_) (a' := ?_) (rowB 9 1) rfl rfl (any_of HT_.out (by kernel_rfl)) (fun _ _ _ h => h) (Or.inl ⟨by rfl, ?_⟩) ?_ ?_; rotate_left; (· intro w'; go_simp; with_reducible rfl); rotate_left; (· simp only [Act.put, y1_, y2_, y3_, i64_w, i32_w]; rfl); refine pure_ (i := 1) (N := some 121) (v := ?_) (a' := ?_) (rowB 9 3) rfl rfl (any_of HT_.out (by kernel_rfl)) (fun _ _ _ h => h) (Or.inl ⟨by rfl, ?_⟩) ?_ ?_; rotate_left; (· intro w'; go_simp; with_reducible rfl); rotate_left; (· simp only [Act.put, y1_, y2_, y3_, i64_w, i32_w]; rfl); refine pure_ (i := 2) (N := some 122) (v := ?_) (a' := ?_) (rowB 9 7) rfl rfl (any_of HT_.out (by kernel_rfl)) (fun _ _ _ h => h) (Or.inl ⟨by rfl, ?_⟩) ?_ ?_; rotate_left; (· intro w'; go_simp; with_reducible rfl); rotate_left; (· simp only [Act.put, y1_, y2_, y3_, i64_w, i32_w]; rfl); refine pure_ (i := 4) (N := some 124) (v := ?_) (a' := ?_) (rowB 9 23) rfl rfl (any_of HT_.out (by kernel_rfl)) (fun _ _ _ h => h) (Or.inl ⟨by rfl, ?_⟩) ?_ ?_; rotate_left; (· intro w'; go_simp; with_reducible rfl); rotate_left; (· simp only [Act.put, y1_, y2_, y3_, i64_w, i32_w]; rfl); refine pure_ (i := 5) (N := some 125) (v := ?_) (a' := ?_) (rowB 9 55) rfl rfl (any_of HT_.out (by kernel_rfl)) (fun _ _ _ h => h) (Or.inl ⟨by rfl, ?_⟩) ?_ ?_; rotate_left; (· intro w'; go_simp; with_reducible rfl); rotate_left; (· simp only [Act.put, y1_, y2_, y3_, i64_w, i32_w]; rfl); refine pure_ (i := 6) (N := some 126) (v := ?_) (a' := ?_) (rowB 9 119) rfl rfl (any_of HT_.out (by kernel_rfl)) (fun _ _ _ h => h) (Or.inl ⟨by rfl, ?_⟩) ?_ ?_; rotate_left; (· intro w'; go_simp; with_reducible rfl); rotate_left; (· simp only [Act.put, y1_, y2_, y3_, i64_w, i32_w]; rfl); refine take_ (i := 3) (N := some 123) (v := ?_) (a' := ?_) (rowB 9 127) rfl rfl (take_ofW HT_.out HW_.out (by kernel_rfl)) (fun _ _ _ h => h) (Or.inl ⟨by rfl, ?_⟩) hHeld ?_ ?_; rotate_left; (· rintro w' ⟨s0, s1⟩; go_simp; with_reducible rfl); rotate_left; (· simp only [Act.put, y1_, y2_, y3_, i64_w, i32_w]; rfl); refine take_ (i := 7) (N := some 127) (v := ?_) (a' := ?_) (rowB 9 255) rfl rfl (take_ofW HT_.out HW_.out (by kernel_rfl)) (fun _ _ _ h => h) (Or.inl ⟨by rfl, ?_⟩) hHeld ?_ ?_; rotate_left; (· rintro w' ⟨s0, s1⟩; go_simp; with_reducible rfl); rotate_left; (· simp only [Act.put, y1_, y2_, y3_, i64_w, i32_w]; rfl); refine pure_ (i := 8) (N := some 128) (v := ?_) (a' := ?_) (rowB 9 511) rfl rfl (any_of HT_.out (by kernel_rfl)) (fun _ _ _ h => h) (Or.inl ⟨by rfl, ?_⟩) ?_ ?_; rotate_left; (· intro w'; go_simp; with_reducible rfl); rotate_left; (· simp only [Act.put, y1_, y2_, y3_, i64_w, i32_w]; rfl); refine done_ (done_of HT_.out (by kernel_rfl)) ?_; try go_wp2
                       go_roundg kj64
                       case measure => have := HJ2.out; have := HJ8.out; have := HK3.out; have := HK4.out; have := HJ64.out; omega
                       case rel => exact ⟨(wrap64 (x12_4 + 1)), (wrap64 (x13_4 + 1)), (by first | rfl | (simp; done) | (simp [*]; done)), (by first | rfl | (simp; done) | (simp [*]; done)), H', ⟨by have := HJ2.out; have := HJ8.out; have := HK3.out; have := HK4.out; have := HJ64.out; omega⟩, ⟨by (with_reducible repeat (first | apply Kd.N_alloc | apply Kd.N_drewN | apply Kd.N_drew)); exact HO_5.out⟩, ⟨by (with_reducible repeat (first | apply Kd.V_alloc | apply Kd.V_drewN | apply Kd.V_drew)); exact HO_6.out⟩, ⟨by (with_reducible repeat (first | apply Kd.R_alloc | apply Kd.R_drewN | apply Kd.R_drew)); exact HO_7.out⟩, ⟨by (with_reducible repeat (first | apply Kd.R_alloc | apply Kd.R_drewN | apply Kd.R_drew)); exact HO_11.out⟩, ⟨by repeat (first | (with_reducible first | exact HB.out | apply zc_ | apply za_ | apply zb_) | exact HB.out)⟩⟩
                      ·
                       rw [if_neg c74] at H; have c74b0 : ((rd t490 x13_4) == (rd t465 x12_4)) = false := beq_eq_false_iff_ne.mpr c74; have c74b1 : ((rd t490 x13_4) != (rd t465 x12_4)) = true := bne_iff_ne.mpr c74; have H' := Z_.mk H; clear H; try go_wp2
                       have n0_ := Z_.mk (Kd.N_drew HO_5.out); have n1_ := Z_.mk (Kd.V_drew HO_6.out); have n2_ := Z_.mk (Kd.R_drew HO_7.out); have n3_ := Z_.mk (Kd.R_drew HO_11.out); have n4_ := Z_.mk (zb_ HB.out); clear HO_5; clear HO_6; clear HO_7; clear HO_11; clear HB; have HO_5 := n0_; have HO_6 := n1_; have HO_7 := n2_; have HO_11 := n3_; have HB := n4_; clear n0_ n1_ n2_ n3_ n4_; obtain ⟨Ao78, co78, eo78⟩ := Kd.R_slice HO_11.out; (first | subst eo78 | (injection eo78 with f1_ f2_ f3_; have f4_ := f1_.symm; have f5_ := f3_.symm; clear f1_ f2_ f3_; subst f4_; subst f5_))
                       have p493 : 0 ≤ (x13_4 : Int) := of_decide_eq_true (by first | (with_reducible assumption) | assumption); have q493 : x13_4 < (t490.length : Int) := of_decide_eq_true (by first | (with_reducible assumption) | assumption); obtain ⟨ad493, e493, hx493_0⟩ := Kd.at_int (Kd.R_reads' HO_11.out).2.2 x13_4 p493 q493; cases e493; replace p493 := eq_true p493; replace q493 := eq_true q493; have p494 : 0 ≤ (x12_4 : Int) := of_decide_eq_true (by first | (with_reducible assumption) | assumption); have q494 : x12_4 < (t465.length : Int) := of_decide_eq_true (by first | (with_reducible assumption) | assumption); obtain ⟨ad494, e494, hx494_0⟩ := Kd.at_int (Kd.R_reads' HO_7.out).2.2 x12_4 p494 q494; cases e494; replace p494 := eq_true p494; replace q494 := eq_true q494; refine start_ (n := 9) (S := fun w' => w'.cell? (ad493.add (x13_4).toNat) = some (.int .i64 (rd t490 x13_4)) ∧ w'.cell? (ad494.add (x12_4).toNat) = some (.int .i64 (rd t465 x12_4))) (ds := []) (rowB 9 0) (by kernel_rfl) rfl rfl ⟨hx493_0, hx494_0⟩ (fun hHeld => ?_); refine with_tabW laws_FnTonaryFind.tab19 laws_FnTonaryFind.bits19 (fun HT_ HW_ => ?_); generalize wc.drew = w77 at HO_5 HO_6 HO_7 HO_11 HB hx493_0 hx494_0 hHeld ⊢; refine pure_ (i := 0) (N := some 120) (v := ?_) (a' := ?_) (rowB 9 1) rfl rfl (any_of HT_.out (by kernel_rfl)) (fun _ _ _ h => h) (Or.inl ⟨by rfl, ?_⟩) ?_ ?_; rotate_left; (· intro w'; go_simp; with_reducible rfl); rotate_left; (· simp only [Act.put, y1_, y2_, y3_, i64_w, i32_w]; rfl); refine pure_ (i := 1) (N := some 121) (v := ?_) (a' := ?_) (rowB 9 3) rfl rfl (any_of HT_.out (by kernel_rfl)) (fun _ _ _ h => h) (Or.inl ⟨by rfl, ?_⟩) ?_ ?_; rotate_left; (· intro w'; go_simp; with_reducible rfl); rotate_left; (· simp only [Act.put, y1_, y2_, y3_, i64_w, i32_w]; rfl); refine pure_ (i := 2) (N := some 122) (v := ?_) (a' := ?_) (rowB 9 7) rfl rfl (any_of HT_.out (by kernel_rfl)) (fun _ _ _ h => h) (Or.inl ⟨by rfl, ?_⟩) ?_ ?_; rotate_left; (· intro w'; go_simp; with_reducible rfl); rotate_left; (· simp only [Act.put, y1_, y2_, y3_, i64_w, i32_w]; rfl); refine pure_ (i := 4) (N := some 124) (v := ?_) (a' := ?_) (rowB 9 23) rfl rfl (any_of HT_.out (by kernel_rfl)) (fun _ _ _ h => h) (Or.inl ⟨by rfl, ?_⟩) ?_ ?_; rotate_left; (· intro w'; go_simp; with_reducible rfl); rotate_left; (· simp only [Act.put, y1_, y2_, y3_, i64_w, i32_w]; rfl); refine pure_ (i := 5) (N := some 125) (v := ?_) (a' := ?_) (rowB 9 55) rfl rfl (any_of HT_.out (by kernel_rfl)) (fun _ _ _ h => h) (Or.inl ⟨by rfl, ?_⟩) ?_ ?_; rotate_left; (· intro w'; go_simp; with_reducible rfl); rotate_left; (· simp only [Act.put, y1_, y2_, y3_, i64_w, i32_w]; rfl); refine pure_ (i := 6) (N := some 126) (v := ?_) (a' := ?_) (rowB 9 119) rfl rfl (any_of HT_.out (by kernel_rfl)) (fun _ _ _ h => h) (Or.inl ⟨by rfl, ?_⟩) ?_ ?_; rotate_left; (· intro w'; go_simp; with_reducible rfl); rotate_left; (· simp only [Act.put, y1_, y2_, y3_, i64_w, i32_w]; rfl); refine take_ (i := 3) (N := some 123) (v := ?_) (a' := ?_) (rowB 9 127) rfl rfl (take_ofW HT_.out HW_.out (by kernel_rfl)) (fun _ _ _ h => h) (Or.inl ⟨by rfl, ?_⟩) hHeld ?_ ?_; rotate_left; (· rintro w' ⟨s0, s1⟩; go_simp; with_reducible rfl); rotate_left; (· simp only [Act.put, y1_, y2_, y3_, i64_w, i32_w]; rfl); refine take_ (i := 7) (N := some 127) (v := ?_) (a' := ?_) (rowB 9 255) rfl rfl (take_ofW HT_.out HW_.out (by kernel_rfl)) (fun _ _ _ h => h) (Or.inl ⟨by rfl, ?_⟩) hHeld ?_ ?_; rotate_left; (· rintro w' ⟨s0, s1⟩; go_simp; with_reducible rfl); rotate_left; (· simp only [Act.put, y1_, y2_, y3_, i64_w, i32_w]; rfl); refine pure_ (i := 8) (N := some 128) (v := ?_) (a' := ?_) (rowB 9 511) rfl rfl (any_of HT_.out (by kernel_rfl)) (fun _ _ _ h => h) (Or.inl ⟨by rfl, ?_⟩) ?_ ?_; rotate_left; (· intro w'; go_simp; with_reducible rfl); rotate_left; (· simp only [Act.put, y1_, y2_, y3_, i64_w, i32_w]; rfl); refine done_ (done_of HT_.out (by kernel_rfl)) ?_; try go_wp2
                       go_roundg kj64
                       case measure => have := HJ2.out; have := HJ8.out; have := HK3.out; have := HK4.out; have := HJ64.out; omega
                       case rel => exact ⟨(x12_4), (wrap64 (x13_4 + 1)), (by first | rfl | (simp; done) | (simp [*]; done)), (by first | rfl | (simp; done) | (simp [*]; done)), H', ⟨by have := HJ2.out; have := HJ8.out; have := HK3.out; have := HK4.out; have := HJ64.out; omega⟩, ⟨by (with_reducible repeat (first | apply Kd.N_alloc | apply Kd.N_drewN | apply Kd.N_drew)); exact HO_5.out⟩, ⟨by (with_reducible repeat (first | apply Kd.V_alloc | apply Kd.V_drewN | apply Kd.V_drew)); exact HO_6.out⟩, ⟨by (with_reducible repeat (first | apply Kd.R_alloc | apply Kd.R_drewN | apply Kd.R_drew)); exact HO_7.out⟩, ⟨by (with_reducible repeat (first | apply Kd.R_alloc | apply Kd.R_drewN | apply Kd.R_drew)); exact HO_11.out⟩, ⟨by repeat (first | (with_reducible first | exact HB.out | apply zc_ | apply za_ | apply zb_) | exact HB.out)⟩⟩
                     ·
                      rw [if_neg c73] at H; exact absurd H (by simp)
                    ·
                     rw [if_neg c72] at H; exact absurd H (by simp)
                   ·
                    rw [if_neg c71] at H; exact absurd H (by simp)
                  ·
                   rw [if_neg c70] at H; exact absurd H (by simp)
                 ·
                  replace c69 := Bool.eq_false_iff.mpr c69; subst c69; have H1 : ((impl_MelodyMove.f t462 3).bind fun bt495 => (if x12_4 = (t465.length : Int) then (if bt495.2 = true then ((impl_TonaryFind.f kj64 t459 bt495.1).bind fun t499 => ((laws_sameInts.f kj64 t499 t465).bind fun t502 => (some t502))) else (some true)) else (some false))) = some r := by rw [if_neg (show ¬ (false = true) by decide)] at H; exact H
                  clear H; have H := H1; clear H1; replace H := Option.bind_eq_some_iff.mp H; obtain ⟨⟨t495, t496⟩, A790, H⟩ := H; replace H : (if x12_4 = (t465.length : Int) then (if t496 = true then ((impl_TonaryFind.f kj64 t459 t495).bind fun t499 => ((laws_sameInts.f kj64 t499 t465).bind fun t502 => (some t502))) else (some true)) else (some false)) = some r := H; have A79 := Z_.mk A790; clear A790; by_cases c80 : x12_4 = (t465.length : Int)
                  ·
                   rw [if_pos c80] at H; have c80b0 : (x12_4 == (t465.length : Int)) = true := beq_iff_eq.mpr c80; have c80b1 : (x12_4 != (t465.length : Int)) = false := bne_eq_false_iff_eq.mpr c80; clear c80; by_cases c81 : t496 = true
                   ·
                    subst c81; have H1 : ((impl_TonaryFind.f kj64 t459 t495).bind fun t499 => ((laws_sameInts.f kj64 t499 t465).bind fun t502 => (some t502))) = some r := by rw [if_pos rfl] at H; exact H
                    clear H; have H := H1; clear H1; replace H := Option.bind_eq_some_iff.mp H; obtain ⟨t499, A820, H⟩ := H; replace H : ((laws_sameInts.f kj64 t499 t465).bind fun t502 => (some t502)) = some r := H; have A82 := Z_.mk A820; clear A820; replace H := Option.bind_eq_some_iff.mp H; obtain ⟨t502, A830, H⟩ := H; replace H : (some t502) = some r := H; have A83 := Z_.mk A830; clear A830; obtain rfl := Option.some.inj H; go_wp2_with (first | ((with_reducible refine zp_ (f := 42) rfl ?_); refine goesL_ (some 133) rfl rfl Tryd.func42 (by kernel_rfl) rfl #[.slice Ao12 t462.length co12, .int .i64 3] rfl (by (try simp only [List.map_toArray, List.map_cons, List.map_nil]); first | done | rfl | (simp only [List.length_drop, List.length_take]; rfl)) ?_; (with_reducible refine (impl_MelodyMove.calls _ _ t462 3 t495 true _ ?side1 ?side2 A79.out (ht := HT.out.below (by repeat (first | (with_reducible first | exact HB.out | apply zc_ | apply za_ | apply zb_) | exact HB.out)))).mono ?_); (case side1 => repeat (first | exact (Kd.V_reads' HO_6.out).2.2 | (with_reducible refine Kd.C_alloc ?_ _) | (with_reducible refine Kd.C_drewN ?_ _) | (with_reducible refine Kd.C_drew ?_))); (case side2 => exact (Kd.V_reads' HO_6.out).2.1); rintro e w84 ⟨v497, rfl, ho0, hb⟩; refine ⟨_, rfl, ?_⟩; have n0_ := Z_.mk (Kd.N_elder' (by (with_reducible repeat (first | apply Kd.N_alloc | apply Kd.N_drewN | apply Kd.N_drew)); exact HO_5.out) (Kd.R_base ho0) hb); have n1_ := Z_.mk (Kd.V_elder' (by (with_reducible repeat (first | apply Kd.V_alloc | apply Kd.V_drewN | apply Kd.V_drew)); exact HO_6.out) (Kd.R_base ho0) hb); have n2_ := Z_.mk (Kd.R_below (by (with_reducible repeat (first | apply Kd.R_alloc | apply Kd.R_drewN | apply Kd.R_drew)); exact HO_7.out) hb); have n3_ := Z_.mk (Kd.R_below (by (with_reducible repeat (first | apply Kd.R_alloc | apply Kd.R_drewN | apply Kd.R_drew)); exact HO_11.out) hb); have n4_ := Z_.mk (Kd.R_lower ho0 (zj_ (by repeat (first | (with_reducible first | exact HB.out | apply zc_ | apply za_ | apply zb_) | exact HB.out)))); have n5_ := Z_.mk (ze_ (by repeat (first | (with_reducible first | exact HB.out | apply zc_ | apply za_ | apply zb_) | exact HB.out)) hb); clear HO_5; clear HO_6; clear HO_7; clear HO_11; clear HB; have HO_5 := n0_; have HO_6 := n1_; have HO_7 := n2_; have HO_11 := n3_; have HO498 := n4_; have HB := n5_; clear n0_ n1_ n2_ n3_ n4_ n5_; obtain ⟨Ao85, co85, eo85⟩ := Kd.R_slice HO498.out; subst eo85) | (go_at_call 31; (with_reducible refine (impl_TonaryFind.calls kj64 _ _ t459 _ _ t495 t499 _ ?side1 ?side2 ?side3 ?side4 A82.out (ht := HT.out.below (by repeat (first | (with_reducible first | exact HB.out | apply zc_ | apply za_ | apply zb_) | exact HB.out)))).mono ?_); (case side1 => repeat (first | exact (Kd.N_reads' HO_5.out).2.2 | (with_reducible refine Kd.C_alloc ?_ _) | (with_reducible refine Kd.C_drewN ?_ _) | (with_reducible refine Kd.C_drew ?_))); (case side2 => exact (Kd.N_reads' HO_5.out).2.1); (case side3 => repeat (first | exact (Kd.R_reads' HO498.out).2.2 | (with_reducible refine Kd.C_alloc ?_ _) | (with_reducible refine Kd.C_drewN ?_ _) | (with_reducible refine Kd.C_drew ?_))); (case side4 => exact (Kd.R_reads' HO498.out).2.1); rintro e w86 ⟨v500, rfl, ho0, hb⟩; have n0_ := Z_.mk (Kd.N_elder' (by (with_reducible repeat (first | apply Kd.N_alloc | apply Kd.N_drewN | apply Kd.N_drew)); exact HO_5.out) (Kd.R_base ho0) hb); have n1_ := Z_.mk (Kd.V_elder' (by (with_reducible repeat (first | apply Kd.V_alloc | apply Kd.V_drewN | apply Kd.V_drew)); exact HO_6.out) (Kd.R_base ho0) hb); have n2_ := Z_.mk (Kd.R_elder' (by (with_reducible repeat (first | apply Kd.R_alloc | apply Kd.R_drewN | apply Kd.R_drew)); exact HO_7.out) (Kd.R_base ho0) hb); have n3_ := Z_.mk (Kd.R_elder' (by (with_reducible repeat (first | apply Kd.R_alloc | apply Kd.R_drewN | apply Kd.R_drew)); exact HO_11.out) (Kd.R_base ho0) hb); have n4_ := Z_.mk (Kd.R_below (by (with_reducible repeat (first | apply Kd.R_alloc | apply Kd.R_drewN | apply Kd.R_drew)); exact HO498.out) hb); have n5_ := Z_.mk (Kd.R_lower (Kd.R_new' (Kd.R_new' ho0 (Kd.R_lt (by (with_reducible repeat (first | apply Kd.R_alloc | apply Kd.R_drewN | apply Kd.R_drew)); exact HO_7.out))) (Kd.R_lt (by (with_reducible repeat (first | apply Kd.R_alloc | apply Kd.R_drewN | apply Kd.R_drew)); exact HO_11.out))) (zj_ (by repeat (first | (with_reducible first | exact HB.out | apply zc_ | apply za_ | apply zb_) | exact HB.out)))); have n6_ := Z_.mk (ze_ (by repeat (first | (with_reducible first | exact HB.out | apply zc_ | apply za_ | apply zb_) | exact HB.out)) hb); clear HO_5; clear HO_6; clear HO_7; clear HO_11; clear HO498; clear HB; have HO_5 := n0_; have HO_6 := n1_; have HO_7 := n2_; have HO_11 := n3_; have HO498 := n4_; have HO501 := n5_; have HB := n6_; clear n0_ n1_ n2_ n3_ n4_ n5_ n6_; obtain ⟨Ao87, co87, eo87⟩ := Kd.R_slice HO501.out; subst eo87) | (go_at_call 40; (with_reducible refine (laws_sameInts.calls kj64 _ _ t499 _ _ t465 t502 _ ?side1 ?side2 ?side3 ?side4 A83.out).mono ?_); (case side1 => repeat (first | exact (Kd.R_reads' HO501.out).2.2 | (with_reducible refine Kd.C_alloc ?_ _) | (with_reducible refine Kd.C_drewN ?_ _) | (with_reducible refine Kd.C_drew ?_))); (case side2 => exact (Kd.R_reads' HO501.out).2.1); (case side3 => repeat (first | exact (Kd.R_reads' HO_7.out).2.2 | (with_reducible refine Kd.C_alloc ?_ _) | (with_reducible refine Kd.C_drewN ?_ _) | (with_reducible refine Kd.C_drew ?_))); (case side4 => exact (Kd.R_reads' HO_7.out).2.1); rintro e w' ⟨rfl, ⟨nd, rfl⟩⟩))
                    go_ret
                    exact ⟨by first | rfl | (simp [zn_, zm_] <;> rfl) | (simp only [← hji58]; first | rfl | (simp [zn_, zm_] <;> rfl)) | (simp [*, zn_, zm_] <;> rfl), by repeat (first | (with_reducible first | exact HB.out | apply zc_ | apply za_ | apply zb_) | exact HB.out)⟩
                   ·
                    replace c81 := Bool.eq_false_iff.mpr c81; subst c81; have H1 : (some true) = some r := by rw [if_neg (show ¬ (false = true) by decide)] at H; exact H
                    clear H; have H := H1; clear H1; obtain rfl := Option.some.inj H; go_wp2_with (first | ((with_reducible refine zp_ (f := 42) rfl ?_); refine goesL_ (some 133) rfl rfl Tryd.func42 (by kernel_rfl) rfl #[.slice Ao12 t462.length co12, .int .i64 3] rfl (by (try simp only [List.map_toArray, List.map_cons, List.map_nil]); first | done | rfl | (simp only [List.length_drop, List.length_take]; rfl)) ?_; (with_reducible refine (impl_MelodyMove.calls _ _ t462 3 t495 false _ ?side1 ?side2 A79.out (ht := HT.out.below (by repeat (first | (with_reducible first | exact HB.out | apply zc_ | apply za_ | apply zb_) | exact HB.out)))).mono ?_); (case side1 => repeat (first | exact (Kd.V_reads' HO_6.out).2.2 | (with_reducible refine Kd.C_alloc ?_ _) | (with_reducible refine Kd.C_drewN ?_ _) | (with_reducible refine Kd.C_drew ?_))); (case side2 => exact (Kd.V_reads' HO_6.out).2.1); rintro e w88 ⟨v497, rfl, ho0, hb⟩; refine ⟨_, rfl, ?_⟩; have n0_ := Z_.mk (Kd.N_elder' (by (with_reducible repeat (first | apply Kd.N_alloc | apply Kd.N_drewN | apply Kd.N_drew)); exact HO_5.out) (Kd.R_base ho0) hb); have n1_ := Z_.mk (Kd.V_elder' (by (with_reducible repeat (first | apply Kd.V_alloc | apply Kd.V_drewN | apply Kd.V_drew)); exact HO_6.out) (Kd.R_base ho0) hb); have n2_ := Z_.mk (Kd.R_below (by (with_reducible repeat (first | apply Kd.R_alloc | apply Kd.R_drewN | apply Kd.R_drew)); exact HO_7.out) hb); have n3_ := Z_.mk (Kd.R_below (by (with_reducible repeat (first | apply Kd.R_alloc | apply Kd.R_drewN | apply Kd.R_drew)); exact HO_11.out) hb); have n4_ := Z_.mk (Kd.R_lower ho0 (zj_ (by repeat (first | (with_reducible first | exact HB.out | apply zc_ | apply za_ | apply zb_) | exact HB.out)))); have n5_ := Z_.mk (ze_ (by repeat (first | (with_reducible first | exact HB.out | apply zc_ | apply za_ | apply zb_) | exact HB.out)) hb); clear HO_5; clear HO_6; clear HO_7; clear HO_11; clear HB; have HO_5 := n0_; have HO_6 := n1_; have HO_7 := n2_; have HO_11 := n3_; have HO498 := n4_; have HB := n5_; clear n0_ n1_ n2_ n3_ n4_ n5_))
                    go_ret
                    exact ⟨by first | rfl | (simp [zn_, zm_] <;> rfl) | (simp only [← hji58]; first | rfl | (simp [zn_, zm_] <;> rfl)) | (simp [*, zn_, zm_] <;> rfl), by repeat (first | (with_reducible first | exact HB.out | apply zc_ | apply za_ | apply zb_) | exact HB.out)⟩
                  ·
                   rw [if_neg c80] at H; exact absurd (H.trans (congrArg some HRR.out)) (by simp)
            ·
             rw [if_neg c60] at H; exact absurd H (by simp)
           ·
            rw [if_neg c59] at H; exact absurd H (by simp)

end Go.Proofs.YtmacedbpdhkagaaDoor.PFnTonaryFind
namespace Go.Proofs.YtmacedbpdhkagaaDoor.Pure
set_option linter.unusedVariables false
set_option linter.unusedSimpArgs false
open Go Go.RowKit Go.Proofs.YtmacedbpdhkagaaDoor.PFnTonaryFind Go.Proofs.YtmacedbpdhkagaaDoorW.PrintWords Go.Proofs.YtmacedbpdhkagaaDoorW.PrintLast Go.Proofs.YtmacedbpdhkagaaDoorW.PrintMore

theorem spec_l6In_eq (a b c : Int) : spec_l6In.f a b c = some (decide (b ≤ a ∧ a ≤ c)) := by
 unfold spec_l6In.f
 by_cases h : a ≥ b
 ·
  rw [if_pos h]; simp [show b ≤ a from h]
 ·
  rw [if_neg h]; simp [show ¬ b ≤ a from h]

theorem spec_ToneValid_eq (a : Int) (b : Bool) : spec_ToneValid.f a b = some (toneOk ⟨a, b⟩) := by
 unfold spec_ToneValid.f toneOk
 rw [spec_l6In_eq]
 by_cases h : 0 ≤ a ∧ a ≤ 20
 ·
  cases b <;> simp [h, spec_l1Letter.f]
 ·
  simp [h]
theorem spec_MelodyValid_ev (m : List S90) (hm : m.length ≤ 1000000000000) : Ev (fun k => spec_MelodyValid.f k m) (melOk m) := by
 unfold spec_MelodyValid.f
 have := Ev.over z90 m (fun k (_ : Unit) i => spec_MelodyValid.l0 k m i) (fun _ l => l.all toneOk && decide (m.length ≤ 24)) (fun _ _ => True) (by
  intro s _
  refine Ev.succ ?_
  simp only [spec_MelodyValid.l0]
  refine Ev.eqr (Ev.neg (by omega) (Ev.now _)) ?_
  simp; omega) (by
  intro s i rest _ hi _ ih
  refine Ev.succ ?_
  simp only [spec_MelodyValid.l0]
  refine Ev.pos (by omega) (Ev.pos (by omega) (Ev.conb (spec_ToneValid_eq _ _) ?_))
  show Ev _ (toneOk (rd_T90 m i) && _ && _)
  cases ht : toneOk (rd_T90 m i)
  ·
   exact Ev.neg (by simp [ht]) (Ev.now _)
  ·
   refine Ev.pos (by simp [ht]) ?_
   rw [w64 (by omega) (by omega)]
   simpa using ih () trivial) 0 () (Nat.zero_le _) trivial
 refine Ev.eqr (by simpa using this) ?_
 unfold melOk
 rw [Bool.and_comm]

theorem spec_l1Height_eq {t : S90} (h : toneOk t = true) : spec_l1Height.f t.f0 t.f1 = some (hgt t) := by
 have h1 := toneOk_bd h
 have h2 := lh_bd t.f0
 have h3 := div7 h1.1 h1.2
 have h4 := mod7 h1.1
 unfold spec_l1Height.f
 have e : spec_l1Letter.f t.f0 = some (Int.tmod t.f0 7) := rfl
 have er : rd ([0, 2, 4, 5, 7, 9, 10] : List Int) (Int.tmod t.f0 7) = lh t.f0 := rfl
 simp only [Option.bind_some]
 rw [e]
 simp only [Option.bind_some]
 rw [if_pos h4.1, if_pos (by simp; omega), er, w64 (x := Int.tdiv t.f0 7) (by omega) (by omega), w64 (x := 12 * Int.tdiv t.f0 7) (by omega) (by omega), w64 (x := 12 * Int.tdiv t.f0 7 + lh t.f0) (by omega) (by omega), w64 (x := 12 * Int.tdiv t.f0 7 + lh t.f0 - 1) (by omega) (by omega)]
 unfold hgt
 split
 ·
  congr 1; omega
 ·
  congr 1; omega
theorem spec_l2Moved_ev (m : List S90) (k semis : Int) (hm : melOk m = true) (hk : -20 ≤ k ∧ k ≤ 20) (hs : -100 ≤ semis ∧ semis ≤ 100) : Ev (fun n => spec_l2Moved.f n m k semis) (movedP k semis m) := by
 unfold spec_l2Moved.f
 have hl := melOk_len hm
 have hall := melOk_all hm
 have := Ev.over z90 m (fun n (y : List S90) i => spec_l2Moved.l0 n m k semis y i) (fun y rest => match mvAll k semis rest with | some l => (y ++ l, true) | none => ([], false)) (fun i y => y.length = i) (by
  intro y _
  refine Ev.succ ?_
  simp only [spec_l2Moved.l0]
  exact Ev.neg (by omega) (Ev.eqr (Ev.now _) (by simp [mvAll]))) (by
  intro y i rest hy hi hdr ih
  have hrd : rd_T90 m (i : Int) = m.getD i z90 := rfl
  have ht : toneOk (m.getD i z90) = true := by
   refine List.all_eq_true.1 hall _ ?_
   rw [List.getD_eq_getElem?_getD, List.getElem?_eq_getElem hi]; exact List.getElem_mem hi
  have hb := toneOk_bd ht
  have hh := hgt_bd ht
  refine Ev.succ ?_
  simp only [spec_l2Moved.l0]
  refine Ev.pos (by omega) ?_
  -- found: on to the next tone
  have found : ∀ (z : List S90) (s : Int), s = 1 ∨ s = 2 → Ev (fun n => spec_l2Moved.l0 n m k semis z ((i : Int) + 1)) (match mvAll k semis rest with | some l => (z ++ l, true) | none => ([], false)) → Ev (fun n => spec_l2Moved.l1 n m k semis z (i : Int) true s) (match mvAll k semis rest with | some l => (z ++ l, true) | none => ([], false)) := by
   intro z s hs h
   have go : Ev (fun n => spec_l2Moved.j2 n m k semis z (i : Int) true s false) (match mvAll k semis rest with | some l => (z ++ l, true) | none => ([], false)) := by
    refine Ev.succ ?_
    simp only [spec_l2Moved.j2]
    rw [w64 (x := (i : Int) + 1) (by omega) (by omega)]
    exact Ev.neg (by simp) (Ev.pos trivial h)
   refine Ev.succ ?_
   simp only [spec_l2Moved.l1, Bool.not_true]
   rcases hs with rfl | rfl
   ·
    exact Ev.pos (by decide) go
   ·
    exact Ev.neg (by decide) go
  -- one try
  have one : ∀ (s : Int) (b : Bool) (R : List S90 × Bool), (s = 0 ∨ s = 1) → (s == 1) = b → (mvGood k semis (m.getD i z90) b = true → Ev (fun n => spec_l2Moved.l1 n m k semis (y ++ [mvT (m.getD i z90) k b]) (i : Int) true (s + 1)) R) → (¬ mvGood k semis (m.getD i z90) b = true → Ev (fun n => spec_l2Moved.l1 n m k semis y (i : Int) false (s + 1)) R) → Ev (fun n => spec_l2Moved.l1 n m k semis y (i : Int) false s) R := by
   intro s b R hs hsb hyes hno
   refine Ev.succ ?_
   simp only [spec_l2Moved.l1, Bool.not_false]
   refine Ev.pos (by omega) (Ev.succ ?_)
   simp only [spec_l2Moved.j2]
   rw [hrd, w64 (x := s + 1) (by omega) (by omega), hsb]
   generalize m.getD i z90 = t at ht hb hh hyes hno
   rw [w64 (x := t.f0 + k) (by omega) (by omega)]
   refine Ev.pos trivial (Ev.pos (by omega) (Ev.pos (by omega) (Ev.conb (spec_ToneValid_eq _ _) ?_)))
   have e : (⟨t.f0 + k, b⟩ : S90) = mvT t k b := rfl
   rw [e]
   unfold mvGood at hyes hno
   cases hv : toneOk (mvT t k b)
   ·
    exact Ev.neg (by simp) (hno (by rw [hv]; simp))
   ·
    have hh2 := hgt_bd hv
    have e1 : spec_l1Height.f (t.f0 + k) b = some (hgt (mvT t k b)) := spec_l1Height_eq (t := mvT t k b) hv
    refine Ev.pos rfl (Ev.conb e1 (Ev.conb (spec_l1Height_eq ht) ?_))
    rw [w64 (x := hgt (mvT t k b) - hgt t) (by omega) (by omega)]
    by_cases hc : hgt (mvT t k b) - hgt t = semis
    ·
     exact Ev.pos hc (Ev.pos (by omega) (hyes (by rw [hv, decide_eq_true hc]; rfl)))
    ·
     exact Ev.neg hc (hno (by rw [decide_eq_false hc]; simp))
  simp only [mvAll]
  refine one 0 false _ (.inl rfl) rfl (fun h => ?_) (fun h => one (0 + 1) true _ (.inr rfl) rfl (fun h' => ?_) (fun h' => ?_))
  ·
   rw [if_pos h]
   have := found (y ++ [mvT (m.getD i z90) k false]) (0 + 1) (.inl rfl) (ih _ (by rw [List.length_append, List.length_singleton]; omega))
   refine Ev.eqr this ?_
   cases mvAll k semis rest <;> simp
  ·
   rw [if_neg h, if_pos h']
   have := found (y ++ [mvT (m.getD i z90) k true]) (0 + 1 + 1) (.inr rfl) (ih _ (by rw [List.length_append, List.length_singleton]; omega))
   refine Ev.eqr this ?_
   cases mvAll k semis rest <;> simp
  ·
   rw [if_neg h, if_neg h']
   refine Ev.succ ?_
   simp only [spec_l2Moved.l1]
   refine Ev.neg (by decide) (Ev.succ ?_)
   simp only [spec_l2Moved.j2]
   exact Ev.neg (by simp) (Ev.neg (by simp) (Ev.now _))) 0 [] (Nat.zero_le _) rfl
 refine Ev.eqr (by simpa using this) ?_
 unfold movedP
 cases mvAll k semis m <;> rfl
theorem spec_MelodyMove_ev (m : List S90) (k : Int) (hml : m.length ≤ 1000000000000) : Ev (fun n => spec_MelodyMove.f n m k) (mmove m k) := by
 unfold spec_MelodyMove.f mmove
 by_cases h0 : (m.length : Int) = 0
 ·
  have e : m = [] := List.eq_nil_of_length_eq_zero (by omega)
  subst e
  exact Ev.pos rfl (Ev.now _)
 refine Ev.neg h0 (Ev.bind (spec_MelodyValid_ev m hml) ?_)
 have no : Ev (fun n => spec_MelodyMove.j0 n m k true) (([] : List S90), false) := by
  refine Ev.succ ?_
  simp only [spec_MelodyMove.j0]
  exact Ev.pos trivial (Ev.now _)
 cases hok : melOk m
 ·
  exact Ev.neg (by simp) (Ev.eqr no (by simp))
 refine Ev.pos rfl (Ev.conb (spec_l6In_eq _ _ _) ?_)
 rw [if_pos rfl, if_neg (by omega)]
 by_cases hk : -20 ≤ k ∧ k ≤ 20
 ·
  rw [decide_eq_true hk, if_pos hk]
  refine Ev.succ ?_
  simp only [spec_MelodyMove.j0]
  refine Ev.neg (by simp) ?_
  have hl := melOk_len hok
  have ht : toneOk (rd_T90 m 0) = true := List.all_eq_true.1 (melOk_all hok) _ (by
   unfold rd_T90
   rw [List.getD_eq_getElem?_getD, List.getElem?_eq_getElem (by simp; omega)]; exact List.getElem_mem _)
  have hb := toneOk_bd ht
  have hh := hgt_bd ht
  have one : ∀ (s : Int) (b : Bool) (R : List S90 × Bool), (s = 0 ∨ s = 1) → (s == 1) = b → (mmTry m k b = true → R = (mmOf m k b, true)) → (¬ mmTry m k b = true → Ev (fun n => spec_MelodyMove.l0 n m k (s + 1)) R) → Ev (fun n => spec_MelodyMove.l0 n m k s) R := by
   intro s b R hs hsb hyes hno
   refine Ev.succ ?_
   simp only [spec_MelodyMove.l0]
   rw [w64 (x := s + 1) (by omega) (by omega), hsb]
   unfold mmTry mmOf at hyes
   unfold mmTry at hno
   generalize hT : rd_T90 m 0 = t at ht hb hh hyes hno
   rw [w64 (x := t.f0 + k) (by omega) (by omega)]
   refine Ev.pos (by omega) (Ev.pos (by omega) (Ev.conb (spec_ToneValid_eq _ _) ?_))
   have e : (⟨t.f0 + k, b⟩ : S90) = mvT t k b := rfl
   rw [e]
   cases hv : toneOk (mvT t k b)
   ·
    exact Ev.neg (by simp) (hno (by rw [hv]; simp))
   ·
    have hh2 := hgt_bd hv
    have e1 : spec_l1Height.f (t.f0 + k) b = some (hgt (mvT t k b)) := spec_l1Height_eq (t := mvT t k b) hv
    refine Ev.pos rfl (Ev.conb e1 (Ev.conb (spec_l1Height_eq ht) ?_))
    rw [w64 (x := hgt (mvT t k b) - hgt t) (by omega) (by omega)]
    refine Ev.bind (spec_l2Moved_ev m k _ hok hk (by omega)) ?_
    cases hp : (movedP k (hgt (mvT t k b) - hgt t) m).2
    ·
     exact Ev.neg (by simp) (hno (by rw [hp]; simp))
    ·
     exact Ev.pos rfl (Ev.eqr (Ev.now _) (hyes (by rw [hv, hp]; rfl)).symm)
  refine one 0 false _ (.inl rfl) rfl (fun h => by rw [if_pos h]) (fun h => one (0 + 1) true _ (.inr rfl) rfl (fun h' => by rw [if_neg h, if_pos h']) (fun h' => ?_))
  rw [if_neg h, if_neg h']
  refine Ev.succ ?_
  simp only [spec_MelodyMove.l0]
  exact Ev.neg (by decide) (Ev.now _)
 ·
  rw [decide_eq_false hk, if_neg hk]
  exact no

theorem spec_MelodySteps_ev (m : List S90) (hm : m.length ≤ 1000000000000) : Ev (fun k => spec_MelodySteps.f k m) (mdiffs stepD m) := by
 unfold spec_MelodySteps.f mdiffs
 cases m with
 | nil =>
  refine Ev.succ ?_
  simp only [spec_MelodySteps.l0]
  refine Ev.eqr (Ev.neg (by simp) (Ev.now _)) ?_
  split <;> rfl
 | cons x l =>
  cases hok : melOk (x :: l)
  ·
   refine Ev.succ ?_
   simp only [spec_MelodySteps.l0]
   by_cases h : (1 : Int) < ((x :: l).length : Int)
   ·
    refine Ev.pos h (Ev.bind (spec_MelodyValid_ev _ hm) ?_)
    rw [hok]
    exact Ev.neg (by simp) (Ev.eqr (Ev.now _) (by simp))
   ·
    exact Ev.neg h (Ev.eqr (Ev.now _) (by simp))
  ·
   have hl := melOk_len hok
   simp only [List.length_cons] at hl
   have := Ev.over z90 l (fun k (s : List Int × S90) q => spec_MelodySteps.l0 k (x :: l) s.1 (q + 1)) (fun s rest => s.1 ++ diffs stepD (s.2 :: rest)) (fun i s => s.1.length = i ∧ s.2 = (x :: l).getD i z90) (by
    rintro ⟨s, p⟩ ⟨h1, h2⟩
    refine Ev.succ ?_
    simp only [spec_MelodySteps.l0]
    refine Ev.neg (by simp) (Ev.eqr (Ev.now _) ?_)
    simp [diffs]) (by
    rintro ⟨s, p⟩ i rest ⟨h1, h2⟩ hi hdr ih
    have h1 : s.length = i := h1
    have h2 : p = (x :: l).getD i z90 := h2
    refine Ev.succ ?_
    simp only [spec_MelodySteps.l0]
    rw [w64 (x := (i : Int) + 1 - 1) (by omega) (by omega), w64 (x := (i : Int) + 1 + 1) (by omega) (by omega)]
    refine Ev.pos (by simp; omega) (Ev.bind (spec_MelodyValid_ev _ hm) ?_)
    rw [hok]
    refine Ev.pos rfl (Ev.pos (by omega) (Ev.pos (by omega) (Ev.pos (by simp; omega) (Ev.pos (by omega) ?_))))
    have e1 : rd_T90 (x :: l) ((i : Int) + 1) = l.getD i z90 := by
     unfold rd_T90
     rw [show ((i : Int) + 1).toNat = i + 1 by omega]; rfl
    have e2 : rd_T90 (x :: l) ((i : Int) + 1 - 1) = p := by
     unfold rd_T90
     rw [show ((i : Int) + 1 - 1).toNat = i by omega, h2]
    rw [e1, e2]
    refine Ev.eqr (ih (s ++ [wrap64 ((l.getD i z90).f0 - p.f0)], l.getD i z90) ⟨by simp [h1], rfl⟩) ?_
    simp [diffs, stepD]) 0 ([], x) (Nat.zero_le _) ⟨rfl, rfl⟩
   refine Ev.eqr (by simpa using this) (by simp)

theorem spec_l2Same_ev (a b : List Int) (hl : a.length ≤ 1000000000000) : Ev (fun k => spec_l2Same.f k a b) (a == b) := by
 unfold spec_l2Same.f
 by_cases hlen : (a.length : Int) = (b.length : Int)
 ·
  refine Ev.pos hlen ?_
  have := Ev.over (0 : Int) a (fun k (_ : Unit) i => spec_l2Same.l0 k a b i) (fun _ rest => rest == b.drop (a.length - rest.length)) (fun _ _ => True) (by
   intro s _
   refine Ev.succ ?_
   simp only [spec_l2Same.l0]
   refine Ev.eqr (Ev.neg (by omega) (Ev.now _)) ?_
   have : b.drop a.length = [] := List.drop_eq_nil_of_le (by omega)
   simp [this]) (by
   intro s i rest _ hi hdr ih
   have hrl : rest.length + 1 + i = a.length := by
    have := congrArg List.length hdr
    simp at this; omega
   refine Ev.succ ?_
   simp only [spec_l2Same.l0]
   rw [w64 (by omega) (by omega)]
   refine Ev.pos (by omega) (Ev.pos (by omega) (Ev.pos (by omega) ?_))
   have hra : rd a (i : Int) = a.getD i 0 := rfl
   have hrb : rd b (i : Int) = b.getD i 0 := rfl
   rw [hra, hrb]
   have e2 : a.length - (a.getD i 0 :: rest).length = i := by simp; omega
   have e1 : a.length - rest.length = i + 1 := by omega
   have e3 : b.drop i = b.getD i 0 :: b.drop (i + 1) := by
    rw [List.drop_eq_getElem_cons (by omega), List.getD_eq_getElem?_getD, List.getElem?_eq_getElem (by omega)]; rfl
   rw [e2, e3]
   have ih := ih () trivial
   rw [e1] at ih
   by_cases h : a.getD i 0 = b.getD i 0
   ·
    refine Ev.pos h (Ev.eqr ih ?_)
    rw [h, Bool.eq_iff_iff]; simp
   ·
    refine Ev.neg h (Ev.eqr (Ev.now _) ?_)
    symm; rw [beq_eq_false_iff_ne]; intro hc; exact h (List.cons.inj hc).1) 0 () (Nat.zero_le _) trivial
  simpa using this
 ·
  refine Ev.neg hlen (Ev.eqr (Ev.now _) ?_)
  symm; rw [beq_eq_false_iff_ne]; rintro rfl; exact hlen rfl
theorem spec_MelodySemis_ev (m : List S90) (hok : melOk m = true) : Ev (fun k => spec_MelodySemis.f k m) (mdiffs semD m) := by
 have hl := melOk_len hok
 have hall := List.all_eq_true.1 (melOk_all hok)
 unfold spec_MelodySemis.f mdiffs
 rw [if_pos hok]
 have fin : ∀ (X : List Int) (q : Int), Ev (fun k => spec_MelodySemis.j1 k m X q false) X := by
  intro X q
  refine Ev.succ ?_
  simp only [spec_MelodySemis.j1]
  exact Ev.neg (by simp) (Ev.now _)
 cases m with
 | nil =>
  refine Ev.succ ?_
  simp only [spec_MelodySemis.l0]
  exact Ev.neg (by simp) (fin _ _)
 | cons x l =>
  have := Ev.over z90 l (fun k (s : List Int × S90) q => spec_MelodySemis.l0 k (x :: l) s.1 (q + 1)) (fun s rest => s.1 ++ diffs semD (s.2 :: rest)) (fun i s => s.1.length = i ∧ s.2 = (x :: l).getD i z90) (by
   rintro ⟨s, p⟩ ⟨h1, h2⟩
   refine Ev.succ ?_
   simp only [spec_MelodySemis.l0]
   refine Ev.neg (by simp) (Ev.eqr (fin _ _) ?_)
   simp [diffs]) (by
   rintro ⟨s, p⟩ i rest ⟨h1, h2⟩ hi hdr ih
   have h1 : s.length = i := h1
   have h2 : p = (x :: l).getD i z90 := h2
   simp only [List.length_cons] at hl
   refine Ev.succ ?_
   simp only [spec_MelodySemis.l0]
   refine Ev.pos (by simp; omega) (Ev.bind (spec_MelodyValid_ev _ (by simp only [List.length_cons]; omega)) ?_)
   rw [hok]
   refine Ev.succ ?_
   simp only [spec_MelodySemis.j1]
   rw [w64 (x := (i : Int) + 1 - 1) (by omega) (by omega), w64 (x := (i : Int) + 1 + 1) (by omega) (by omega)]
   have e1 : rd_T90 (x :: l) ((i : Int) + 1) = l.getD i z90 := by
    unfold rd_T90
    rw [show ((i : Int) + 1).toNat = i + 1 by omega]; rfl
   have e2 : rd_T90 (x :: l) ((i : Int) + 1 - 1) = p := by
    unfold rd_T90
    rw [show ((i : Int) + 1 - 1).toNat = i by omega, h2]
   rw [e1, e2]
   have o1 : toneOk (l.getD i z90) = true := by
    refine hall _ (List.mem_cons_of_mem _ ?_)
    rw [List.getD_eq_getElem?_getD, List.getElem?_eq_getElem hi]; exact List.getElem_mem hi
   have o2 : toneOk p = true := by
    rw [h2]
    refine hall _ ?_
    rw [List.getD_eq_getElem?_getD, List.getElem?_eq_getElem (show i < (x :: l).length by simp only [List.length_cons]; omega)]; exact List.getElem_mem _
   refine Ev.pos trivial (Ev.pos (by omega) (Ev.pos (by simp only [List.length_cons]; omega) (Ev.conb (spec_l1Height_eq o1) (Ev.pos (by omega) (Ev.pos (by simp only [List.length_cons]; omega) (Ev.conb (spec_l1Height_eq o2) (Ev.pos (by omega) ?_)))))))
   refine Ev.eqr (ih (s ++ [wrap64 (hgt (l.getD i z90) - hgt p)], l.getD i z90) ⟨by simp [h1], rfl⟩) ?_
   simp [diffs, semD]) 0 ([], x) (Nat.zero_le _) ⟨rfl, rfl⟩
  refine Ev.eqr (by simpa using this) (by simp)
theorem spec_MelodySame_ev (a b : List S90) (ha : a.length ≤ 1000000000000) (hb : b.length ≤ 1000000000000) : Ev (fun k => spec_MelodySame.f k a b) (msame a b) := by
 unfold spec_MelodySame.f msame
 refine Ev.bind (spec_MelodyValid_ev a ha) ?_
 cases h1 : melOk a
 ·
  exact Ev.neg (by simp) (Ev.eqr (Ev.now _) rfl)
 refine Ev.pos rfl (Ev.bind (spec_MelodyValid_ev b hb) ?_)
 cases h2 : melOk b
 ·
  exact Ev.neg (by simp) (Ev.eqr (Ev.now _) rfl)
 refine Ev.pos rfl ?_
 by_cases h3 : a.length = b.length
 case neg => exact Ev.neg (by omega) (Ev.eqr (Ev.now _) (by rw [decide_eq_false h3]; rfl))
 rw [decide_eq_true h3]
 refine Ev.pos (by omega) (Ev.bind (spec_MelodySemis_ev a h1) (Ev.bind (spec_MelodySemis_ev b h2) (Ev.bind (spec_l2Same_ev _ _ (by have := mdiffs_len semD a; omega)) ?_)))
 cases h4 : mdiffs semD a == mdiffs semD b
 ·
  exact Ev.neg (by simp) (Ev.eqr (Ev.now _) rfl)
 exact Ev.pos rfl (Ev.bind (spec_MelodySteps_ev a ha) (Ev.bind (spec_MelodySteps_ev b hb) (Ev.bind (spec_l2Same_ev _ _ (by have := mdiffs_len stepD a; omega)) (Ev.eqr (Ev.now _) (by simp)))))

theorem spec_l5Mode_eq (mode : Int) : spec_l5Mode.f mode = some (mOk mode) := by
 unfold spec_l5Mode.f
 rw [spec_l6In_eq]; rfl
theorem spec_l5Entry_ev (e : S38) (hs : e.f0.size ≤ 9000000000000000) (hl : e.f2.length ≤ 1000000000000) : Ev (fun n => spec_l5Entry.f n e.f0 e.f1 e.f2) (entOk e) := by
 unfold spec_l5Entry.f
 have key : ∀ d i : Nat, i + d = e.f0.size → Ev (fun n => spec_l5Entry.l0 n (i : Int) e.f0 e.f1 e.f2) (lowB (e.f0.data.toList.drop i) && (decide (1 ≤ e.f0.size ∧ e.f0.size ≤ 10) && (mOk e.f1 && (melOk e.f2 && decide (1 ≤ e.f2.length ∧ e.f2.length ≤ 8))))) := by
  intro d
  induction d with
  | zero =>
   intro i hi
   refine Ev.succ ?_
   simp only [spec_l5Entry.l0]
   rw [List.drop_of_length_le (by simp; omega)]
   refine Ev.neg (by omega) (Ev.conb (spec_l6In_eq _ _ _) ?_)
   rw [show (decide ((1 : Int) ≤ (e.f0.size : Int) ∧ (e.f0.size : Int) ≤ 10)) = decide (1 ≤ e.f0.size ∧ e.f0.size ≤ 10) from decide_eq_decide.2 (by omega)]
   show Ev _ (true && _)
   rw [Bool.true_and]
   cases decide (1 ≤ e.f0.size ∧ e.f0.size ≤ 10)
   ·
    exact Ev.neg (by simp) (Ev.now _)
   refine Ev.pos rfl (Ev.conb (spec_l5Mode_eq _) ?_)
   rw [Bool.true_and]
   cases mOk e.f1
   ·
    exact Ev.neg (by simp) (Ev.now _)
   refine Ev.pos rfl (Ev.bind (spec_MelodyValid_ev e.f2 hl) ?_)
   rw [Bool.true_and]
   cases melOk e.f2
   ·
    exact Ev.neg (by simp) (Ev.now _)
   refine Ev.pos rfl (Ev.conb (spec_l6In_eq _ _ _) (Ev.eqr (Ev.now _) ?_))
   rw [Bool.true_and]
   exact decide_eq_decide.2 (by omega)
  | succ d ih =>
   intro i hi
   obtain ⟨c, hc, hdr⟩ := bt_get e.f0 i (by omega)
   refine Ev.succ ?_
   simp only [spec_l5Entry.l0]
   rw [hc, hdr, w64 (x := (i : Int) + 1) (by omega) (by omega)]
   have e2 : lowB (c :: e.f0.data.toList.drop (i + 1)) = (decide (97 ≤ c.toNat ∧ c.toNat ≤ 122) && lowB (e.f0.data.toList.drop (i + 1))) := rfl
   rw [e2]
   refine Ev.pos (by omega) (Ev.pos (by omega) ?_)
   by_cases h97 : (c.toNat : Int) < 97
   ·
    refine Ev.pos h97 (Ev.eqr (Ev.now _) ?_)
    rw [decide_eq_false (by omega)]; rfl
   refine Ev.neg h97 ?_
   by_cases h122 : (c.toNat : Int) > 122
   ·
    refine Ev.pos h122 (Ev.eqr (Ev.now _) ?_)
    rw [decide_eq_false (by omega)]; rfl
   refine Ev.neg h122 ?_
   rw [decide_eq_true (show 97 ≤ c.toNat ∧ c.toNat ≤ 122 by omega), Bool.true_and]
   exact ih (i + 1) (by omega)
 refine Ev.eqr (key e.f0.size 0 (by omega)) ?_
 unfold entOk
 rw [List.drop_zero]
 cases lowB e.f0.data.toList <;> cases mOk e.f1 <;> cases melOk e.f2 <;> cases decide (1 ≤ e.f0.size ∧ e.f0.size ≤ 10) <;> cases decide (1 ≤ e.f2.length ∧ e.f2.length ≤ 8) <;> rfl
theorem spec_l5Before_eq (p e : S38) : spec_l5Before.f p.f0 p.f1 p.f2 e.f0 e.f1 e.f2 = some (befE p e) := by
 unfold spec_l5Before.f befE nmLt
 by_cases h1 : p.f1 < e.f1
 ·
  rw [if_pos h1, if_pos h1]
 rw [if_neg h1, if_neg h1]
 by_cases h2 : p.f1 = e.f1
 ·
  rw [if_pos h2, if_pos h2]
 ·
  rw [if_neg h2, if_neg h2]
theorem spec_TonaryValid_ev (L : List S38) (hl : L.length ≤ 1000000000000) (hz : entSz L = true) : Ev (fun n => spec_TonaryValid.f n L) (tonOk L) := by
 have HZ := entSz_all hz
 unfold spec_TonaryValid.f
 have key : ∀ d i : Nat, i + d = L.length → Ev (fun n => spec_TonaryValid.l0 n L (i : Int)) (tOkFrom (prevOf L i) (L.drop i) && decide (L.length ≤ 20)) := by
  intro d
  induction d with
  | zero =>
   intro i hi
   refine Ev.succ ?_
   simp only [spec_TonaryValid.l0]
   rw [List.drop_of_length_le (by omega)]
   refine Ev.neg (by omega) (Ev.eqr (Ev.now _) ?_)
   have : tOkFrom (prevOf L i) [] = true := by cases prevOf L i <;> rfl
   rw [this, Bool.true_and]
   exact decide_eq_decide.2 (by omega)
  | succ d ih =>
   intro i hi
   have hlt : i < L.length := by omega
   have hzi := HZ _ (rd_ent L i hlt)
   have ih := ih (i + 1) (by omega)
   rw [prev_next] at ih
   refine Ev.succ ?_
   simp only [spec_TonaryValid.l0]
   rw [rd_drop L i hlt, w64 (x := (i : Int) + 1) (by omega) (by omega)]
   refine Ev.pos (by omega) (Ev.pos (by omega) (Ev.bind (spec_l5Entry_ev (rd_T38 L (i : Int)) hzi.1 hzi.2) ?_))
   cases hve : entOk (rd_T38 L (i : Int))
   ·
    refine Ev.neg (by simp) (Ev.eqr (Ev.now _) ?_)
    cases prevOf L i <;> (simp only [tOkFrom]; rw [hve]; rfl)
   refine Ev.pos rfl ?_
   by_cases h0 : (i : Int) > 0
   ·
    refine Ev.pos h0 ?_
    rw [w64 (x := (i : Int) - 1) (by omega) (by omega)]
    have hp : prevOf L i = some (rd_T38 L ((i : Int) - 1)) := by unfold prevOf; rw [if_neg (by omega)]
    refine Ev.pos (by omega) (Ev.pos (by omega) (Ev.conb (spec_l5Before_eq _ _) ?_))
    rw [hp]
    simp only [tOkFrom]
    rw [hve, Bool.true_and]
    cases befE (rd_T38 L ((i : Int) - 1)) (rd_T38 L (i : Int))
    ·
     exact Ev.neg (by simp) (Ev.now _)
    ·
     refine Ev.pos rfl ?_
     rw [Bool.true_and]
     exact ih
   ·
    refine Ev.neg h0 ?_
    have hp : prevOf L i = none := by unfold prevOf; rw [if_pos (by omega)]
    rw [hp]
    simp only [tOkFrom]
    rw [hve, Bool.true_and]
    exact ih
 refine Ev.eqr (key L.length 0 (by omega)) ?_
 unfold tonOk
 rw [Bool.and_comm, List.drop_zero]; rfl

def tfHit (m : List S90) (e : S38) : Bool := decide (m.length ≤ e.f2.length) && msame (e.f2.take m.length) m
def tfFrom (m : List S90) : Int → List S38 → List Int
 | _, [] => []
 | i, e :: es => if tfHit m e = true then i :: tfFrom m (i + 1) es else tfFrom m (i + 1) es
def tonFind (L : List S38) (m : List S90) : List Int := if (tonOk L && melOk m) = true then tfFrom m 0 L else []
theorem tfFrom_len (m : List S90) : ∀ (L : List S38) i, (tfFrom m i L).length ≤ L.length
 | [], _ => by simp [tfFrom]
 | e :: es, i => by
  have := tfFrom_len m es (i + 1)
  unfold tfFrom; split
  ·
   simp only [List.length_cons]; omega
  ·
   simp only [List.length_cons]; omega
theorem tonFind_len (L : List S38) (m : List S90) : (tonFind L m).length ≤ L.length := by
 unfold tonFind; split
 ·
  exact tfFrom_len m L 0
 ·
  simp
theorem spec_TonaryFind_ev (L : List S38) (m : List S90) (hll : L.length ≤ 1000000000) (hz : entSz L = true) (hm : m.length ≤ 1000000000000) : Ev (fun n => spec_TonaryFind.f n L m) (tonFind L m) := by
 have hv := spec_TonaryValid_ev L (by omega) hz
 have hmv := spec_MelodyValid_ev m hm
 unfold spec_TonaryFind.f tonFind
 have none : (tonOk L && melOk m) = false → ∀ X, Ev (fun n => spec_TonaryFind.l0 n L m X 0) X := by
  intro hk X
  refine Ev.succ ?_
  simp only [spec_TonaryFind.l0]
  have no : Ev (fun k => spec_TonaryFind.j1 k L m X 0 false) X := by
   refine Ev.succ ?_
   simp only [spec_TonaryFind.j1]
   exact Ev.neg (by simp) (Ev.now _)
  by_cases h0 : (0 : Int) < (L.length : Int)
  ·
   refine Ev.pos h0 (Ev.bind hv ?_)
   cases h1 : tonOk L
   ·
    exact Ev.neg (by simp) no
   ·
    rw [h1] at hk
    have h2 : melOk m = false := by simpa using hk
    rw [h2] at hmv
    exact Ev.pos rfl (Ev.bind hmv no)
  ·
   exact Ev.neg h0 no
 cases hk : (tonOk L && melOk m)
 ·
  rw [if_neg (by decide)]
  exact none hk []
 rw [if_pos rfl]
 obtain ⟨h1, h2⟩ : tonOk L = true ∧ melOk m = true := by simpa using hk
 rw [h1] at hv
 rw [h2] at hmv
 clear none
 have key : ∀ (d i : Nat) (X : List Int), i + d = L.length → X.length ≤ i → Ev (fun n => spec_TonaryFind.l0 n L m X (i : Int)) (X ++ tfFrom m (i : Int) (L.drop i)) := by
  intro d
  induction d with
  | zero =>
   intro i X hi hX
   refine Ev.succ ?_
   simp only [spec_TonaryFind.l0]
   refine Ev.neg (by omega) ?_
   refine Ev.succ ?_
   simp only [spec_TonaryFind.j1]
   rw [List.drop_of_length_le (by omega)]
   refine Ev.neg (by simp) (Ev.eqr (Ev.now _) ?_)
   simp [tfFrom]
  | succ d ih =>
   intro i X hi hX
   have hlt : i < L.length := by omega
   have hm' := rd_ent L i hlt
   have hg := entSz_all hz _ hm'
   refine Ev.succ ?_
   simp only [spec_TonaryFind.l0]
   refine Ev.pos (by omega) (Ev.bind hv (Ev.pos rfl (Ev.bind hmv ?_)))
   refine Ev.succ ?_
   simp only [spec_TonaryFind.j1]
   rw [rd_drop L i hlt, w64 (x := (i : Int) + 1) (by omega) (by omega)]
   have ih1 := fun X hX => ih (i + 1) X (by omega) hX
   rw [show ((i + 1 : Nat) : Int) = (i : Int) + 1 by omega] at ih1
   generalize rd_T38 L (i : Int) = e at hg
   unfold tfFrom tfHit
   refine Ev.pos (by simp) (Ev.pos (by omega) (Ev.pos (by omega) ?_))
   by_cases hle : m.length ≤ e.f2.length
   ·
    rw [decide_eq_true hle, Bool.true_and]
    refine Ev.pos (by omega) (Ev.pos (by omega) (Ev.pos (by omega) ?_))
    rw [Int.toNat_natCast]
    refine Ev.bind (spec_MelodySame_ev _ m (by rw [List.length_take]; omega) hm) ?_
    cases hs : msame (e.f2.take m.length) m
    ·
     refine Ev.neg (by simp) ?_
     rw [if_neg (by simp)]
     exact ih1 X (by omega)
    ·
     refine Ev.pos rfl (Ev.pos (by omega) ?_)
     rw [if_pos rfl]
     refine Ev.eqr (ih1 _ (by rw [List.length_append, List.length_singleton]; omega)) ?_
     simp
   ·
    rw [decide_eq_false hle, Bool.false_and, if_neg (by simp)]
    refine Ev.neg (by omega) ?_
    exact ih1 X (by omega)
 have := key L.length 0 [] (by omega) (by simp)
 simpa using this
theorem impl_TonaryFind_ev (L : List S38) (m : List S90) (hll : L.length ≤ 1000000000) (hz : entSz L = true) (hm : m.length ≤ 1000000000000) : Ev (fun n => impl_TonaryFind.f n L m) (tonFind L m) := by
 have hv : impl_TonaryValid.f L = some (tonOk L) := if_pos hz
 have hmv := impl_MelodyValid_ev m
 unfold impl_TonaryFind.f tonFind
 refine Ev.conb rfl (Ev.conb hv ?_)
 have none : Ev (fun k => impl_TonaryFind.j0 k L m [] true) [] := by
  refine Ev.succ ?_
  simp only [impl_TonaryFind.j0]
  exact Ev.pos (by simp) (Ev.now _)
 cases h1 : tonOk L
 ·
  rw [if_neg (by simp)]
  exact Ev.neg (by simp) none
 refine Ev.pos rfl (Ev.bind hmv ?_)
 cases h2 : melOk m
 ·
  rw [if_neg (by simp)]
  exact none
 rw [if_pos (show (true && true) = true from rfl)]
 refine Ev.succ ?_
 simp only [impl_TonaryFind.j0]
 refine Ev.neg (by simp) ?_
 have key : ∀ (d i : Nat) (X : List Int), i + d = L.length → X.length ≤ i → Ev (fun n => impl_TonaryFind.l0 n m X L (L.length : Int) (i : Int)) (X ++ tfFrom m (i : Int) (L.drop i)) := by
  intro d
  induction d with
  | zero =>
   intro i X hi hX
   refine Ev.succ ?_
   simp only [impl_TonaryFind.l0]
   rw [List.drop_of_length_le (by omega)]
   refine Ev.neg (by omega) (Ev.eqr (Ev.now _) ?_)
   simp [tfFrom]
  | succ d ih =>
   intro i X hi hX
   have hlt : i < L.length := by omega
   have hm' := rd_ent L i hlt
   have hg := entSz_all hz _ hm'
   refine Ev.succ ?_
   simp only [impl_TonaryFind.l0]
   rw [rd_drop L i hlt, w64 (x := (i : Int) + 1) (by omega) (by omega)]
   have ih1 := fun X hX => ih (i + 1) X (by omega) hX
   rw [show ((i + 1 : Nat) : Int) = (i : Int) + 1 by omega] at ih1
   generalize rd_T38 L (i : Int) = e at hg
   unfold tfFrom tfHit
   refine Ev.pos (by omega) (Ev.pos (by omega) (Ev.pos (by omega) ?_))
   by_cases hle : m.length ≤ e.f2.length
   ·
    rw [decide_eq_true hle, Bool.true_and]
    refine Ev.pos (by omega) (Ev.pos (by omega) (Ev.pos (by omega) ?_))
    rw [Int.toNat_natCast]
    have hms : impl_MelodySame.f (e.f2.take m.length) m = some (msame (e.f2.take m.length) m) := if_pos ⟨by rw [List.length_take]; omega, hm⟩
    refine Ev.conb hms ?_
    cases hs : msame (e.f2.take m.length) m
    ·
     refine Ev.neg (by simp) ?_
     rw [if_neg (by simp)]
     exact ih1 X (by omega)
    ·
     refine Ev.pos rfl (Ev.pos (by omega) ?_)
     rw [if_pos rfl]
     refine Ev.eqr (ih1 _ (by rw [List.length_append, List.length_singleton]; omega)) ?_
     simp
   ·
    rw [decide_eq_false hle, Bool.false_and, if_neg (by simp)]
    refine Ev.neg (by omega) ?_
    exact ih1 X (by omega)
 have := key L.length 0 [] (by omega) (by simp)
 simpa using this

end Go.Proofs.YtmacedbpdhkagaaDoor.Pure
