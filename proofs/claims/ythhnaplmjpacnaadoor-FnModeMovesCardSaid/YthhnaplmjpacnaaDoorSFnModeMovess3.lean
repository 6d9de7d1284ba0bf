/- Lemmas for the law FnModeMoves. -/
import Derived.Test.YthhnaplmjpacnaaDoorSFnModeMovess2
namespace Go.Proofs.YthhnaplmjpacnaaDoor.PFnModeMoves
open Go.RowKit Go.Proofs.YthhnaplmjpacnaaDoorW.PrintWords Go.Proofs.YthhnaplmjpacnaaDoorW.PrintLast Go.Proofs.YthhnaplmjpacnaaDoorW.PrintMore Go.Proofs.YthhnaplmjpacnaaDoor.Pure
attribute [local go_sem] max2_int min2_int max_two min_two max_three min_three max_four min_four   -- for this text's walks alone
set_option linter.unusedVariables false
set_option linter.unusedSimpArgs false

mutual
def laws_FnModeMoves.j0 : Nat → List (S29) → List Int → List Int → Bool → Option (Bool)
 | 0, _, _, _, _ => none
 | k + 1, x3, x4, x5, x30 => if x30 = true then ((laws_sameInts.f k x4 x5).bind fun t287 => (some t287)) else (laws_FnModeMoves.l0 k x3 x4 false 0)
def laws_FnModeMoves.l0 : Nat → List (S29) → List Int → Bool → Int → Option (Bool)
 | 0, _, _, _, _ => none
 | k + 1, x3, x4, x6, x7 => if x7 < (x4.length : Int) then (if 0 ≤ x7 then ((impl_MelodyMove.f x3 (rd x4 x7)).bind fun bt296 => (if 0 ≤ (wrap64 ((x3.length : Int) - 1)) then (if (wrap64 ((x3.length : Int) - 1)) < (x3.length : Int) then (if bt296.2 = true then (if (wrap64 (((rd_T29 x3 (wrap64 ((x3.length : Int) - 1))).f0) + (rd x4 x7))) < 4 then (some false) else (if (wrap64 (((rd_T29 x3 (wrap64 ((x3.length : Int) - 1))).f0) + (rd x4 x7))) > 7 then (some false) else ((impl_ModeAll.f bt296.1).bind fun t302 => (if (t302.length : Int) = 0 then (some false) else (if x7 > 0 then (if 0 ≤ (wrap64 (x7 - 1)) then (if (wrap64 (x7 - 1)) < (x4.length : Int) then (if (rd x4 x7) ≤ (rd x4 (wrap64 (x7 - 1))) then (some false) else (if x6 = true then (laws_FnModeMoves.l0 k x3 x4 true (wrap64 (x7 + 1))) else (laws_FnModeMoves.l0 k x3 x4 ((rd x4 x7) == 0) (wrap64 (x7 + 1))))) else (none)) else (none)) else (if x6 = true then (laws_FnModeMoves.l0 k x3 x4 true (wrap64 (x7 + 1))) else (laws_FnModeMoves.l0 k x3 x4 ((rd x4 x7) == 0) (wrap64 (x7 + 1))))))))) else (some false)) else (none)) else (none))) else (none)) else ((impl_MelodyMove.f x3 0).bind fun bt288 => (if (x4.length : Int) ≤ 4 then (if bt288.2 = true then ((impl_ModeAll.f bt288.1).bind fun t292 => (some (x6 == (decide ((t292.length : Int) > 0))))) else (some false)) else (some false)))
end
def laws_FnModeMoves.f (k : Nat) (l0 : List Int) : Option (Bool) := if (l0.length : Int) > 1048576 then (some true) else ((spec_DrawModeMoves.f k l0).bind fun t277 => ((impl_ModeMoves.f t277).bind fun t280 => ((spec_ModeMoves.f k t277).bind fun t283 => ((laws_sameInts.f k t280 t283).bind fun t286 => (if t286 = true then (laws_FnModeMoves.j0 k t277 t280 t283 ((t280.length : Int) == 0)) else (laws_FnModeMoves.j0 k t277 t280 t283 true))))))
def laws_FnModeMoves.T13 : Bool × List (List Nat × List Nat) := (true, [([], []), ([], []), ([1], [1]), ([2], [2]), ([0, 3], [0, 3]), ([4], [4]), ([5], [5]), ([], []), ([], []), ([7, 8], [7, 8]), ([9], [9]), ([6, 10], [6, 10]), ([11, 0, 1, 2, 3, 4, 5, 6, 7, 8, 9, 10, 11], [11])])
def laws_FnModeMoves.B13 : List Nat := [0, 0, 2, 6, 15, 31, 63, 0, 0, 384, 896, 2047, 4095]
theorem laws_FnModeMoves.tab13 : rtab .any (opsOf Tryd.f9 13) = laws_FnModeMoves.T13 := by kernel_rfl
theorem laws_FnModeMoves.bits13 : waitsOk laws_FnModeMoves.T13.2 laws_FnModeMoves.B13 = true := by kernel_rfl
def laws_FnModeMoves.T14 : Bool × List (List Nat × List Nat) := (true, [([], []), ([0], [0]), ([1], [1]), ([2], [2]), ([3, 2], [2, 3]), ([2, 4], [2, 4]), ([5, 2], [5]), ([6], [6]), ([7, 6], [6, 7]), ([6, 8], [6, 8]), ([9, 6], [9]), ([10], [10]), ([11, 10, 10], [10, 11]), ([12, 10], [10, 12]), ([13, 10], [10, 13]), ([10, 14], [10, 14]), ([15, 12], [15]), ([16], [16]), ([17, 16], [16, 17]), ([18, 16, 16], [16, 18]), ([19], [19]), ([19], [19]), ([20, 21, 19], [19, 20, 21]), ([22, 19], [19, 22]), ([19], [19]), ([19], [19]), ([25, 19], [19, 25]), ([24, 26, 19], [19, 24, 26]), ([27, 19], [19, 27]), ([23, 28, 19], [19, 23, 28]), ([19, 29, 16], [16, 19, 29]), ([16, 30], [16, 30])])
def laws_FnModeMoves.B14 : List Nat := [0, 1, 3, 7, 15, 31, 63, 127, 255, 511, 1023, 2047, 4095, 8191, 16383, 32767, 65535, 131071, 262143, 524287, 1048575, 1048575, 4194303, 8388607, 1048575, 1048575, 34603007, 118489087, 252706815, 536870911, 1073741823, 2147483647]
theorem laws_FnModeMoves.tab14 : rtab .any (opsOf Tryd.f9 14) = laws_FnModeMoves.T14 := by kernel_rfl
theorem laws_FnModeMoves.bits14 : waitsOk laws_FnModeMoves.T14.2 laws_FnModeMoves.B14 = true := by kernel_rfl
set_option maxHeartbeats 8000000 in
set_option maxRecDepth 100000 in
theorem laws_FnModeMoves.calls (k : Nat) (A0 : Option Addr) (c0 : Nat) (l0 : List Int) (r : Bool) (w : World) (ht : DTab w) (hr0 : Kd.C (Kd.int .u8) w A0 l0.length l0) (hc0 : l0.length ≤ c0) (hr : r = true) (h : laws_FnModeMoves.f k l0 = some r) :
 Calls Tryd.prog 9 #[.slice A0 l0.length c0] w fun e w' => e = .returned (.bool r) ∧ Below w.heap.size w w' := by
 have HRR := Aside0.mk hr; clear hr; have HT := Aside0.mk ht; clear ht; have HR0 := Aside0.mk hr0; have HC0 := Aside0.mk hc0; clear hr0 hc0; have HB := Aside0.mk (Below.refl w.heap.size w); have H : (if (l0.length : Int) > 1048576 then (some true) else ((spec_DrawModeMoves.f k l0).bind fun t277 => ((impl_ModeMoves.f t277).bind fun t280 => ((spec_ModeMoves.f k t277).bind fun t283 => ((laws_sameInts.f k t280 t283).bind fun t286 => (if t286 = true then (laws_FnModeMoves.j0 k t277 t280 t283 ((t280.length : Int) == 0)) else (laws_FnModeMoves.j0 k t277 t280 t283 true))))))) = some r := h; clear h; by_cases c2 : (l0.length : Int) > 1048576
 ·
  rw [if_pos c2] at H; have c2b0 : decide (1048576 < (l0.length : Int)) = true := decide_eq_true c2; have c2b1 : decide (1048576 < l0.length) = true := decide_eq_true (by omega); clear c2; obtain rfl := Option.some.inj H; go_enter Tryd.func9, Tryd.ntmps9
  go_wp2; go_ret
  exact ⟨by first | rfl | (simp [errW_none, errW_some] <;> rfl) | (simp [*, errW_none, errW_some] <;> rfl), by repeat (first | (with_reducible first | exact HB.out | apply below_alloc | apply pw_below_drewN | apply below_drew1) | exact HB.out)⟩
 ·
  rw [if_neg c2] at H; have c2b0 : decide (1048576 < (l0.length : Int)) = false := decide_eq_false c2; have c2b1 : decide (1048576 < l0.length) = false := decide_eq_false (by omega); clear c2; replace H := Option.bind_eq_some_iff.mp H; obtain ⟨t277, A30, H⟩ := H; replace H : ((impl_ModeMoves.f t277).bind fun t280 => ((spec_ModeMoves.f k t277).bind fun t283 => ((laws_sameInts.f k t280 t283).bind fun t286 => (if t286 = true then (laws_FnModeMoves.j0 k t277 t280 t283 ((t280.length : Int) == 0)) else (laws_FnModeMoves.j0 k t277 t280 t283 true))))) = some r := H; have A3 := Aside0.mk A30; clear A30; replace H := Option.bind_eq_some_iff.mp H; obtain ⟨t280, A40, H⟩ := H; replace H : ((spec_ModeMoves.f k t277).bind fun t283 => ((laws_sameInts.f k t280 t283).bind fun t286 => (if t286 = true then (laws_FnModeMoves.j0 k t277 t280 t283 ((t280.length : Int) == 0)) else (laws_FnModeMoves.j0 k t277 t280 t283 true)))) = some r := H; have A4 := Aside0.mk A40; clear A40; replace H := Option.bind_eq_some_iff.mp H; obtain ⟨t283, A50, H⟩ := H; replace H : ((laws_sameInts.f k t280 t283).bind fun t286 => (if t286 = true then (laws_FnModeMoves.j0 k t277 t280 t283 ((t280.length : Int) == 0)) else (laws_FnModeMoves.j0 k t277 t280 t283 true))) = some r := H; have A5 := Aside0.mk A50; clear A50; have HC6 := Aside0.mk H; clear H; go_enter Tryd.func9, Tryd.ntmps9
  go_upto_region 6 with (first | ((with_reducible refine gate_callee (f := 39) rfl ?_); refine goesL_ (some 17) rfl rfl Tryd.func39 (by kernel_rfl) rfl #[.slice A0 l0.length c0] rfl (by (try simp only [List.map_toArray, List.map_cons, List.map_nil]); first | done | rfl | (simp only [List.length_drop, List.length_take]; rfl)) ?_; (with_reducible refine (spec_DrawModeMoves.calls k _ _ l0 t277 _ ?side1 ?side2 A3.out).mono ?_); (case side1 => repeat (first | exact HR0.out | (with_reducible refine Kd.C_alloc ?_ _) | (with_reducible refine Kd.C_drewN ?_ _) | (with_reducible refine Kd.C_drew ?_))); (case side2 => exact HC0.out); rintro e w7 ⟨v278, rfl, ho0, hb⟩; refine ⟨_, rfl, ?_⟩; have n0_ := Aside0.mk (Kd.R_lower ho0 (below_size (by repeat (first | (with_reducible first | exact HB.out | apply below_alloc | apply pw_below_drewN | apply below_drew1) | exact HB.out)))); have n1_ := Aside0.mk (below_step (by repeat (first | (with_reducible first | exact HB.out | apply below_alloc | apply pw_below_drewN | apply below_drew1) | exact HB.out)) hb); clear HB; have HO279 := n0_; have HB := n1_; clear n0_ n1_; (try clear hb); (try clear hb2); (try clear hk); (try clear hi); (try clear ho0); obtain ⟨Ao8, co8, eo8⟩ := Kd.R_slice HO279.out; subst eo8) | ((with_reducible refine gate_callee (f := 40) rfl ?_); refine goesL_ (some 19) rfl rfl Tryd.func40 (by kernel_rfl) rfl #[.slice Ao8 t277.length co8] rfl (by (try simp only [List.map_toArray, List.map_cons, List.map_nil]); first | done | rfl | (simp only [List.length_drop, List.length_take]; rfl)) ?_; (with_reducible refine (impl_ModeMoves.calls _ _ t277 t280 _ ?side1 ?side2 A4.out (ht := HT.out.below (by repeat (first | (with_reducible first | exact HB.out | apply below_alloc | apply pw_below_drewN | apply below_drew1) | exact HB.out)))).mono ?_); (case side1 => repeat (first | exact (Kd.R_reads' HO279.out).2.2 | (with_reducible refine Kd.C_alloc ?_ _) | (with_reducible refine Kd.C_drewN ?_ _) | (with_reducible refine Kd.C_drew ?_))); (case side2 => exact (Kd.R_reads' HO279.out).2.1); rintro e w9 ⟨v281, rfl, ho0, hb⟩; refine ⟨_, rfl, ?_⟩; have n0_ := Aside0.mk (Kd.R_below (by (with_reducible repeat (first | apply Kd.R_alloc | apply Kd.R_drewN | apply Kd.R_drew)); exact HO279.out) hb); have n1_ := Aside0.mk (Kd.R_lower ho0 (below_size (by repeat (first | (with_reducible first | exact HB.out | apply below_alloc | apply pw_below_drewN | apply below_drew1) | exact HB.out)))); have n2_ := Aside0.mk (below_step (by repeat (first | (with_reducible first | exact HB.out | apply below_alloc | apply pw_below_drewN | apply below_drew1) | exact HB.out)) hb); clear HO279; clear HB; have HO279 := n0_; have HO282 := n1_; have HB := n2_; clear n0_ n1_ n2_; (try clear hb); (try clear hb2); (try clear hk); (try clear hi); (try clear ho0)) | ((with_reducible refine gate_callee (f := 41) rfl ?_); refine goesL_ (some 21) rfl rfl Tryd.func41 (by kernel_rfl) rfl #[.slice Ao8 t277.length co8] rfl (by (try simp only [List.map_toArray, List.map_cons, List.map_nil]); first | done | rfl | (simp only [List.length_drop, List.length_take]; rfl)) ?_; (with_reducible refine (spec_ModeMoves.calls k _ _ t277 t283 _ ?side1 ?side2 A5.out).mono ?_); (case side1 => repeat (first | exact (Kd.R_reads' HO279.out).2.2 | (with_reducible refine Kd.C_alloc ?_ _) | (with_reducible refine Kd.C_drewN ?_ _) | (with_reducible refine Kd.C_drew ?_))); (case side2 => exact (Kd.R_reads' HO279.out).2.1); rintro e w10 ⟨v284, rfl, ho0, hb⟩; refine ⟨_, rfl, ?_⟩; have n0_ := Aside0.mk (Kd.R_below (by (with_reducible repeat (first | apply Kd.R_alloc | apply Kd.R_drewN | apply Kd.R_drew)); exact HO279.out) hb); have n1_ := Aside0.mk (Kd.R_elder' (by (with_reducible repeat (first | apply Kd.R_alloc | apply Kd.R_drewN | apply Kd.R_drew)); exact HO282.out) (Kd.R_base ho0) hb); have n2_ := Aside0.mk (Kd.R_lower (Kd.R_new' ho0 (Kd.R_lt (by (with_reducible repeat (first | apply Kd.R_alloc | apply Kd.R_drewN | apply Kd.R_drew)); exact HO282.out))) (below_size (by repeat (first | (with_reducible first | exact HB.out | apply below_alloc | apply pw_below_drewN | apply below_drew1) | exact HB.out)))); have n3_ := Aside0.mk (below_step (by repeat (first | (with_reducible first | exact HB.out | apply below_alloc | apply pw_below_drewN | apply below_drew1) | exact HB.out)) hb); clear HO279; clear HO282; clear HB; have HO279 := n0_; have HO282 := n1_; have HO285 := n2_; have HB := n3_; clear n0_ n1_ n2_ n3_; (try clear hb); (try clear hb2); (try clear hk); (try clear hi); (try clear ho0)))
  (try simp only [Act.put, List.setIfInBounds_toArray, List.set_cons_zero, List.set_cons_succ])
  go_cut [30] (fun v30 wc => ∃ (kq : Nat) (x30_5 : Bool), v30 = .bool x30_5 ∧ Aside0 (laws_FnModeMoves.j0 kq t277 t280 t283 x30_5 = some r) ∧ Aside0 (kq ≤ k) ∧ Aside0 (Kd.R k29 29 wc w.heap.size (fun _ => True) (.slice Ao8 t277.length co8) t277) ∧ Aside0 (Kd.R (Kd.int .i64) 3 wc w.heap.size (fun k_ => some k_ ≠ (v284 : Value).ownBlock) v281 t280) ∧ Aside0 (Kd.R (Kd.int .i64) 3 wc w.heap.size (fun k_ => some k_ ≠ (v281 : Value).ownBlock) v284 t283) ∧ Aside0 (Below w.heap.size w wc))
  case first =>
   have H := HC6.out; clear HC6; replace H := Option.bind_eq_some_iff.mp H; obtain ⟨t286, A110, H⟩ := H; replace H : (if t286 = true then (laws_FnModeMoves.j0 k t277 t280 t283 ((t280.length : Int) == 0)) else (laws_FnModeMoves.j0 k t277 t280 t283 true)) = some r := H; have A11 := Aside0.mk A110; clear A110; by_cases c12 : t286 = true
   ·
    subst c12; have H1 : (laws_FnModeMoves.j0 k t277 t280 t283 ((t280.length : Int) == 0)) = some r := by rw [if_pos rfl] at H; exact H
    clear H; have H := H1; clear H1; have H' := Aside0.mk H; clear H; obtain ⟨Ao13, co13, eo13⟩ := Kd.R_slice HO282.out; subst eo13; obtain ⟨Ao14, co14, eo14⟩ := Kd.R_slice HO285.out; subst eo14; go_wp2_with (first | ((with_reducible refine gate_callee (f := 42) rfl ?_); refine goesL_ (some 24) rfl rfl Tryd.func42 (by kernel_rfl) rfl #[.slice Ao13 t280.length co13, .slice Ao14 t283.length co14] rfl (by (try simp only [List.map_toArray, List.map_cons, List.map_nil]); first | done | rfl | (simp only [List.length_drop, List.length_take]; rfl)) ?_; (with_reducible refine (laws_sameInts.calls k _ _ t280 _ _ t283 true _ ?side1 ?side2 ?side3 ?side4 A11.out).mono ?_); (case side1 => repeat (first | exact (Kd.R_reads' HO282.out).2.2 | (with_reducible refine Kd.C_alloc ?_ _) | (with_reducible refine Kd.C_drewN ?_ _) | (with_reducible refine Kd.C_drew ?_))); (case side2 => exact (Kd.R_reads' HO282.out).2.1); (case side3 => repeat (first | exact (Kd.R_reads' HO285.out).2.2 | (with_reducible refine Kd.C_alloc ?_ _) | (with_reducible refine Kd.C_drewN ?_ _) | (with_reducible refine Kd.C_drew ?_))); (case side4 => exact (Kd.R_reads' HO285.out).2.1); rintro e w' ⟨rfl, ⟨nd, rfl⟩⟩; refine ⟨_, rfl, ?_⟩))
    go_meet
    case rel => exact ⟨_, (((t280.length : Int) == 0)), (by first | rfl | (simp; done) | (simp [*]; done)), H', ⟨by first | omega | exact Nat.le_refl _⟩, ⟨by (with_reducible repeat (first | apply Kd.R_alloc | apply Kd.R_drewN | apply Kd.R_drew)); exact HO279.out⟩, ⟨by (with_reducible repeat (first | apply Kd.R_alloc | apply Kd.R_drewN | apply Kd.R_drew)); exact Kd.R_mono HO282.out (fun _ hk => hk.2)⟩, ⟨by (with_reducible repeat (first | apply Kd.R_alloc | apply Kd.R_drewN | apply Kd.R_drew)); exact Kd.R_mono HO285.out (fun _ hk => hk.2)⟩, ⟨by repeat (first | (with_reducible first | exact HB.out | apply below_alloc | apply pw_below_drewN | apply below_drew1) | exact HB.out)⟩⟩
   ·
    replace c12 := Bool.eq_false_iff.mpr c12; subst c12; have H1 : (laws_FnModeMoves.j0 k t277 t280 t283 true) = some r := by rw [if_neg (show ¬ (false = true) by decide)] at H; exact H
    clear H; have H := H1; clear H1; have H' := Aside0.mk H; clear H; obtain ⟨Ao15, co15, eo15⟩ := Kd.R_slice HO282.out; subst eo15; obtain ⟨Ao16, co16, eo16⟩ := Kd.R_slice HO285.out; subst eo16; go_wp2_with (first | ((with_reducible refine gate_callee (f := 42) rfl ?_); refine goesL_ (some 24) rfl rfl Tryd.func42 (by kernel_rfl) rfl #[.slice Ao15 t280.length co15, .slice Ao16 t283.length co16] rfl (by (try simp only [List.map_toArray, List.map_cons, List.map_nil]); first | done | rfl | (simp only [List.length_drop, List.length_take]; rfl)) ?_; (with_reducible refine (laws_sameInts.calls k _ _ t280 _ _ t283 false _ ?side1 ?side2 ?side3 ?side4 A11.out).mono ?_); (case side1 => repeat (first | exact (Kd.R_reads' HO282.out).2.2 | (with_reducible refine Kd.C_alloc ?_ _) | (with_reducible refine Kd.C_drewN ?_ _) | (with_reducible refine Kd.C_drew ?_))); (case side2 => exact (Kd.R_reads' HO282.out).2.1); (case side3 => repeat (first | exact (Kd.R_reads' HO285.out).2.2 | (with_reducible refine Kd.C_alloc ?_ _) | (with_reducible refine Kd.C_drewN ?_ _) | (with_reducible refine Kd.C_drew ?_))); (case side4 => exact (Kd.R_reads' HO285.out).2.1); rintro e w' ⟨rfl, ⟨nd, rfl⟩⟩; refine ⟨_, rfl, ?_⟩))
    go_meet
    case rel => exact ⟨_, (true), (by first | rfl | (simp; done) | (simp [*]; done)), H', ⟨by first | omega | exact Nat.le_refl _⟩, ⟨by (with_reducible repeat (first | apply Kd.R_alloc | apply Kd.R_drewN | apply Kd.R_drew)); exact HO279.out⟩, ⟨by (with_reducible repeat (first | apply Kd.R_alloc | apply Kd.R_drewN | apply Kd.R_drew)); exact Kd.R_mono HO282.out (fun _ hk => hk.2)⟩, ⟨by (with_reducible repeat (first | apply Kd.R_alloc | apply Kd.R_drewN | apply Kd.R_drew)); exact Kd.R_mono HO285.out (fun _ hk => hk.2)⟩, ⟨by repeat (first | (with_reducible first | exact HB.out | apply below_alloc | apply pw_below_drewN | apply below_drew1) | exact HB.out)⟩⟩
  case rest =>
   clear HC6; try clear c1
   try clear c2
   try clear c2b0
   try clear c2b1
   try clear p2
   try clear c3
   try clear c4
   try clear c9
   try clear c12
   obtain ⟨kq, x30_5, rfl, HA, HJ5, HO_3, HO_4, HO_5, HB⟩ := hcut; cases kq with
   | zero => exact absurd HA.out (by simp [laws_FnModeMoves.j0])
   | succ kj5 =>
    have H := HA.out; clear HA; simp only [laws_FnModeMoves.j0] at H; by_cases c17 : x30_5 = true
    ·
     subst c17; have H1 : ((laws_sameInts.f kj5 t280 t283).bind fun t287 => (some t287)) = some r := by rw [if_pos rfl] at H; exact H
     clear H; have H := H1; clear H1; replace H := Option.bind_eq_some_iff.mp H; obtain ⟨t287, A180, H⟩ := H; replace H : (some t287) = some r := H; have A18 := Aside0.mk A180; clear A180; obtain rfl := Option.some.inj H; obtain ⟨Ao19, co19, eo19⟩ := Kd.R_slice HO_4.out; subst eo19; obtain ⟨Ao20, co20, eo20⟩ := Kd.R_slice HO_5.out; subst eo20; go_wp2_with (first | ((with_reducible refine gate_callee (f := 42) rfl ?_); refine goesL_ (some 33) rfl rfl Tryd.func42 (by kernel_rfl) rfl #[.slice Ao19 t280.length co19, .slice Ao20 t283.length co20] rfl (by (try simp only [List.map_toArray, List.map_cons, List.map_nil]); first | done | rfl | (simp only [List.length_drop, List.length_take]; rfl)) ?_; (with_reducible refine (laws_sameInts.calls kj5 _ _ t280 _ _ t283 t287 _ ?side1 ?side2 ?side3 ?side4 A18.out).mono ?_); (case side1 => repeat (first | exact (Kd.R_reads' HO_4.out).2.2 | (with_reducible refine Kd.C_alloc ?_ _) | (with_reducible refine Kd.C_drewN ?_ _) | (with_reducible refine Kd.C_drew ?_))); (case side2 => exact (Kd.R_reads' HO_4.out).2.1); (case side3 => repeat (first | exact (Kd.R_reads' HO_5.out).2.2 | (with_reducible refine Kd.C_alloc ?_ _) | (with_reducible refine Kd.C_drewN ?_ _) | (with_reducible refine Kd.C_drew ?_))); (case side4 => exact (Kd.R_reads' HO_5.out).2.1); rintro e w' ⟨rfl, ⟨nd, rfl⟩⟩; refine ⟨_, rfl, ?_⟩))
     go_ret
     exact ⟨by first | rfl | (simp [errW_none, errW_some] <;> rfl) | (simp [*, errW_none, errW_some] <;> rfl), by repeat (first | (with_reducible first | exact HB.out | apply below_alloc | apply pw_below_drewN | apply below_drew1) | exact HB.out)⟩
    ·
     replace c17 := Bool.eq_false_iff.mpr c17; subst c17; have H1 : (laws_FnModeMoves.l0 kj5 t277 t280 false 0) = some r := by rw [if_neg (show ¬ (false = true) by decide)] at H; exact H
     clear H; have H := H1; clear H1; have H' := Aside0.mk H; clear H; go_wp2; go_loopg [6, 7] kj5 (fun kq v6 v7 w' => ∃ (x6_2 : Bool) (x7_2 : Int), v6 = .bool x6_2 ∧ v7 = .int .i64 x7_2 ∧ Aside0 (laws_FnModeMoves.l0 kq t277 t280 x6_2 x7_2 = some r) ∧ Aside0 (kq ≤ kj5) ∧ Aside0 (Kd.R k29 29 w' w.heap.size (fun _ => True) (.slice Ao8 t277.length co8) t277) ∧ Aside0 (Kd.R (Kd.int .i64) 3 w' w.heap.size (fun _ => True) v281 t280) ∧ Aside0 (Below w.heap.size w w'))
     case atStart => exact ⟨(false), (0), (by first | rfl | (simp; done) | (simp [*]; done)), (by first | rfl | (simp; done) | (simp [*]; done)), H', ⟨Nat.le_refl _⟩, ⟨by (with_reducible repeat (first | apply Kd.R_alloc | apply Kd.R_drewN | apply Kd.R_drew)); exact HO_3.out⟩, ⟨by (with_reducible repeat (first | apply Kd.R_alloc | apply Kd.R_drewN | apply Kd.R_drew)); exact Kd.R_mono HO_4.out (fun _ hk => trivial)⟩, ⟨by repeat (first | (with_reducible first | exact HB.out | apply below_alloc | apply pw_below_drewN | apply below_drew1) | exact HB.out)⟩⟩
     case round =>
      clear H'; try clear c1
      try clear c2
      try clear c2b0
      try clear c2b1
      try clear p2
      try clear c3
      try clear c4
      try clear c9
      try clear c12
      try clear c17
      try clear p2
      obtain ⟨x6_2, x7_2, rfl, rfl, HA, HK2, HO_3, HO_4, HB⟩ := hrel; cases gk with
      | zero => exact absurd HA.out (by simp [laws_FnModeMoves.l0])
      | succ k2 =>
       have H := HA.out; clear HA; simp only [laws_FnModeMoves.l0] at H; by_cases c21 : x7_2 < (t280.length : Int)
       ·
        rw [if_pos c21] at H; have c21b0 : decide (x7_2 < (t280.length : Int)) = true := decide_eq_true c21; clear c21; by_cases c22 : 0 ≤ x7_2
        ·
         rw [if_pos c22] at H; have c22b0 : decide (0 ≤ x7_2) = true := decide_eq_true c22; clear c22; replace H := Option.bind_eq_some_iff.mp H; obtain ⟨⟨t296, t297⟩, A230, H⟩ := H; replace H : (if 0 ≤ (wrap64 ((t277.length : Int) - 1)) then (if (wrap64 ((t277.length : Int) - 1)) < (t277.length : Int) then (if t297 = true then (if (wrap64 (((rd_T29 t277 (wrap64 ((t277.length : Int) - 1))).f0) + (rd t280 x7_2))) < 4 then (some false) else (if (wrap64 (((rd_T29 t277 (wrap64 ((t277.length : Int) - 1))).f0) + (rd t280 x7_2))) > 7 then (some false) else ((impl_ModeAll.f t296).bind fun t302 => (if (t302.length : Int) = 0 then (some false) else (if x7_2 > 0 then (if 0 ≤ (wrap64 (x7_2 - 1)) then (if (wrap64 (x7_2 - 1)) < (t280.length : Int) then (if (rd t280 x7_2) ≤ (rd t280 (wrap64 (x7_2 - 1))) then (some false) else (if x6_2 = true then (laws_FnModeMoves.l0 k2 t277 t280 true (wrap64 (x7_2 + 1))) else (laws_FnModeMoves.l0 k2 t277 t280 ((rd t280 x7_2) == 0) (wrap64 (x7_2 + 1))))) else (none)) else (none)) else (if x6_2 = true then (laws_FnModeMoves.l0 k2 t277 t280 true (wrap64 (x7_2 + 1))) else (laws_FnModeMoves.l0 k2 t277 t280 ((rd t280 x7_2) == 0) (wrap64 (x7_2 + 1))))))))) else (some false)) else (none)) else (none)) = some r := H; have A23 := Aside0.mk A230; clear A230; obtain ⟨ji24, hji24⟩ : ∃ j_ : Int, (wrap64 ((t277.length : Int) - 1)) = j_ := ⟨_, rfl⟩
         replace H : (if 0 ≤ (ji24) then (if (ji24) < (t277.length : Int) then (if t297 = true then (if (wrap64 (((rd_T29 t277 (ji24)).f0) + (rd t280 x7_2))) < 4 then (some false) else (if (wrap64 (((rd_T29 t277 (ji24)).f0) + (rd t280 x7_2))) > 7 then (some false) else ((impl_ModeAll.f t296).bind fun t302 => (if (t302.length : Int) = 0 then (some false) else (if x7_2 > 0 then (if 0 ≤ (wrap64 (x7_2 - 1)) then (if (wrap64 (x7_2 - 1)) < (t280.length : Int) then (if (rd t280 x7_2) ≤ (rd t280 (wrap64 (x7_2 - 1))) then (some false) else (if x6_2 = true then (laws_FnModeMoves.l0 k2 t277 t280 true (wrap64 (x7_2 + 1))) else (laws_FnModeMoves.l0 k2 t277 t280 ((rd t280 x7_2) == 0) (wrap64 (x7_2 + 1))))) else (none)) else (none)) else (if x6_2 = true then (laws_FnModeMoves.l0 k2 t277 t280 true (wrap64 (x7_2 + 1))) else (laws_FnModeMoves.l0 k2 t277 t280 ((rd t280 x7_2) == 0) (wrap64 (x7_2 + 1))))))))) else (some false)) else (none)) else (none)) = some r := by first | (rw [hji24] at H; exact H) | (simp only [hji24] at H ⊢; exact H)
         (try rw [hji24] at A23)
         have hji24w : (IntKind.i64.wrap ((t277.length : Int) - 1)) = ji24 := (i64_w _).trans hji24; by_cases c25 : 0 ≤ (ji24)
         ·
          rw [if_pos c25] at H; have c25b0 : decide (0 ≤ (ji24)) = true := decide_eq_true c25; clear c25; by_cases c26 : (ji24) < (t277.length : Int)
          ·
           rw [if_pos c26] at H; have c26b0 : decide ((ji24) < (t277.length : Int)) = true := decide_eq_true c26; clear c26; by_cases c27 : t297 = true
           ·
            subst c27; have H1 : (if (wrap64 (((rd_T29 t277 (ji24)).f0) + (rd t280 x7_2))) < 4 then (some false) else (if (wrap64 (((rd_T29 t277 (ji24)).f0) + (rd t280 x7_2))) > 7 then (some false) else ((impl_ModeAll.f t296).bind fun t302 => (if (t302.length : Int) = 0 then (some false) else (if x7_2 > 0 then (if 0 ≤ (wrap64 (x7_2 - 1)) then (if (wrap64 (x7_2 - 1)) < (t280.length : Int) then (if (rd t280 x7_2) ≤ (rd t280 (wrap64 (x7_2 - 1))) then (some false) else (if x6_2 = true then (laws_FnModeMoves.l0 k2 t277 t280 true (wrap64 (x7_2 + 1))) else (laws_FnModeMoves.l0 k2 t277 t280 ((rd t280 x7_2) == 0) (wrap64 (x7_2 + 1))))) else (none)) else (none)) else (if x6_2 = true then (laws_FnModeMoves.l0 k2 t277 t280 true (wrap64 (x7_2 + 1))) else (laws_FnModeMoves.l0 k2 t277 t280 ((rd t280 x7_2) == 0) (wrap64 (x7_2 + 1))))))))) = some r := by rw [if_pos rfl] at H; exact H
            clear H; have H := H1; clear H1; by_cases c28 : (wrap64 (((rd_T29 t277 (ji24)).f0) + (rd t280 x7_2))) < 4
            ·
             rw [if_pos c28] at H; exact absurd (H.trans (congrArg some HRR.out)) (by simp)
            ·
             rw [if_neg c28] at H; have c28b0 : decide ((wrap64 (((rd_T29 t277 (ji24)).f0) + (rd t280 x7_2))) < 4) = false := decide_eq_false c28; clear c28; by_cases c33 : (wrap64 (((rd_T29 t277 (ji24)).f0) + (rd t280 x7_2))) > 7
             ·
              rw [if_pos c33] at H; exact absurd (H.trans (congrArg some HRR.out)) (by simp)
             ·
              rw [if_neg c33] at H; have c33b0 : decide (7 < (wrap64 (((rd_T29 t277 (ji24)).f0) + (rd t280 x7_2)))) = false := decide_eq_false c33; clear c33; replace H := Option.bind_eq_some_iff.mp H; obtain ⟨t302, A380, H⟩ := H; replace H : (if (t302.length : Int) = 0 then (some false) else (if x7_2 > 0 then (if 0 ≤ (wrap64 (x7_2 - 1)) then (if (wrap64 (x7_2 - 1)) < (t280.length : Int) then (if (rd t280 x7_2) ≤ (rd t280 (wrap64 (x7_2 - 1))) then (some false) else (if x6_2 = true then (laws_FnModeMoves.l0 k2 t277 t280 true (wrap64 (x7_2 + 1))) else (laws_FnModeMoves.l0 k2 t277 t280 ((rd t280 x7_2) == 0) (wrap64 (x7_2 + 1))))) else (none)) else (none)) else (if x6_2 = true then (laws_FnModeMoves.l0 k2 t277 t280 true (wrap64 (x7_2 + 1))) else (laws_FnModeMoves.l0 k2 t277 t280 ((rd t280 x7_2) == 0) (wrap64 (x7_2 + 1)))))) = some r := H; have A38 := Aside0.mk A380; clear A380; by_cases c39 : (t302.length : Int) = 0
              ·
               rw [if_pos c39] at H; exact absurd (H.trans (congrArg some HRR.out)) (by simp)
              ·
               rw [if_neg c39] at H; have c39b0 : ((t302.length : Int) == 0) = false := beq_eq_false_iff_ne.mpr c39; have c39b1 : ((t302.length : Int) != 0) = true := bne_iff_ne.mpr c39; have c39b2 : ¬ (t302 = []) := fun h_ => c39 (by rw [h_]; rfl)
               by_cases c47 : x7_2 > 0
               ·
                rw [if_pos c47] at H; have c47b0 : decide (0 < x7_2) = true := decide_eq_true c47; clear c47; obtain ⟨ji48, hji48⟩ : ∃ j_ : Int, (wrap64 (x7_2 - 1)) = j_ := ⟨_, rfl⟩
                replace H : (if 0 ≤ (ji48) then (if (ji48) < (t280.length : Int) then (if (rd t280 x7_2) ≤ (rd t280 (ji48)) then (some false) else (if x6_2 = true then (laws_FnModeMoves.l0 k2 t277 t280 true (wrap64 (x7_2 + 1))) else (laws_FnModeMoves.l0 k2 t277 t280 ((rd t280 x7_2) == 0) (wrap64 (x7_2 + 1))))) else (none)) else (none)) = some r := by first | (rw [hji48] at H; exact H) | (simp only [hji48] at H ⊢; exact H)
                (try rw [hji48] at A23)
                (try rw [hji48] at A38)
                have hji48w : (IntKind.i64.wrap (x7_2 - 1)) = ji48 := (i64_w _).trans hji48; by_cases c49 : 0 ≤ (ji48)
                ·
                 rw [if_pos c49] at H; have c49b0 : decide (0 ≤ (ji48)) = true := decide_eq_true c49; clear c49; by_cases c50 : (ji48) < (t280.length : Int)
                 ·
                  rw [if_pos c50] at H; have c50b0 : decide ((ji48) < (t280.length : Int)) = true := decide_eq_true c50; clear c50; by_cases c51 : (rd t280 x7_2) ≤ (rd t280 (ji48))
                  ·
                   rw [if_pos c51] at H; exact absurd (H.trans (congrArg some HRR.out)) (by simp)
                  ·
                   rw [if_neg c51] at H; have c51b0 : decide ((rd t280 x7_2) ≤ (rd t280 (ji48))) = false := decide_eq_false c51; clear c51; by_cases c59 : x6_2 = true
                   ·
                    subst c59; have H1 : (laws_FnModeMoves.l0 k2 t277 t280 true (wrap64 (x7_2 + 1))) = some r := by rw [if_pos rfl] at H; exact H
                    clear H; have H := H1; clear H1; have H' := Aside0.mk H; clear H; obtain ⟨Ao60, co60, eo60⟩ := Kd.R_slice HO_4.out; subst eo60; have p295 : 0 ≤ (x7_2 : Int) := of_decide_eq_true (by first | (with_reducible assumption) | assumption); have q295 : x7_2 < (t280.length : Int) := of_decide_eq_true (by first | (with_reducible assumption) | assumption); obtain ⟨ad295, e295, hx295_0⟩ := Kd.at_int (Kd.R_reads' HO_4.out).2.2 x7_2 p295 q295; cases e295; replace p295 := eq_true p295; replace q295 := eq_true q295; try go_wp2_with (first | ((with_reducible refine gate_callee (f := 21) rfl ?_); refine goesL_ (some 46) rfl rfl Tryd.func21 (by kernel_rfl) rfl #[.slice Ao8 t277.length co8, .int .i64 (rd t280 x7_2)] rfl (by (try simp only [List.map_toArray, List.map_cons, List.map_nil]); first | done | rfl | (simp only [List.length_drop, List.length_take]; rfl)) ?_; (with_reducible refine (impl_MelodyMove.calls _ _ t277 (rd t280 x7_2) t296 true _ ?side1 ?side2 A23.out (ht := HT.out.below (by repeat (first | (with_reducible first | exact HB.out | apply below_alloc | apply pw_below_drewN | apply below_drew1) | exact HB.out)))).mono ?_); (case side1 => repeat (first | exact (Kd.R_reads' HO_3.out).2.2 | (with_reducible refine Kd.C_alloc ?_ _) | (with_reducible refine Kd.C_drewN ?_ _) | (with_reducible refine Kd.C_drew ?_))); (case side2 => exact (Kd.R_reads' HO_3.out).2.1); rintro e w61 ⟨v298, rfl, ho0, hb⟩; refine ⟨_, rfl, ?_⟩; have n0_ := Aside0.mk (Kd.R_elder' (by (with_reducible repeat (first | apply Kd.R_alloc | apply Kd.R_drewN | apply Kd.R_drew)); exact HO_3.out) (Kd.R_base ho0) hb); have n1_ := Aside0.mk (Kd.R_below (by (with_reducible repeat (first | apply Kd.R_alloc | apply Kd.R_drewN | apply Kd.R_drew)); exact HO_4.out) hb); have n2_ := Aside0.mk (Kd.R_lower (Kd.R_new' ho0 (Kd.R_lt (by (with_reducible repeat (first | apply Kd.R_alloc | apply Kd.R_drewN | apply Kd.R_drew)); exact HO_3.out))) (below_size (by repeat (first | (with_reducible first | exact HB.out | apply below_alloc | apply pw_below_drewN | apply below_drew1) | exact HB.out)))); have n3_ := Aside0.mk (below_step (by repeat (first | (with_reducible first | exact HB.out | apply below_alloc | apply pw_below_drewN | apply below_drew1) | exact HB.out)) hb); clear HO_3; clear HO_4; clear HB; have HO_3 := n0_; have HO_4 := n1_; have HO299 := n2_; have HB := n3_; clear n0_ n1_ n2_ n3_; (try clear hb); (try clear hb2); (try clear hk); (try clear hi); (try clear ho0)))
                    have n0_ := Aside0.mk (Kd.R_drew HO_3.out); have n1_ := Aside0.mk (Kd.R_drew HO_4.out); have n2_ := Aside0.mk (Kd.R_drew HO299.out); have n3_ := Aside0.mk (below_drew1 HB.out); clear HO_3; clear HO_4; clear HO299; clear HB; have HO_3 := n0_; have HO_4 := n1_; have HO299 := n2_; have HB := n3_; clear n0_ n1_ n2_ n3_; have p300 : 0 ≤ ((ji24) : Int) := of_decide_eq_true (by first | (with_reducible assumption) | assumption); have q300 : (ji24) < (t277.length : Int) := of_decide_eq_true (by first | (with_reducible assumption) | assumption); obtain ⟨ad300, e300, hx300_0, hx300_1⟩ := at_T29 (Kd.R_reads' HO_3.out).2.2 (ji24) p300 q300; cases e300; replace p300 := eq_true p300; replace q300 := eq_true q300; have p301 : 0 ≤ (x7_2 : Int) := of_decide_eq_true (by first | (with_reducible assumption) | assumption); have q301 : x7_2 < (t280.length : Int) := of_decide_eq_true (by first | (with_reducible assumption) | assumption); obtain ⟨ad301, e301, hx301_0⟩ := Kd.at_int (Kd.R_reads' HO_4.out).2.2 x7_2 p301 q301; obtain rfl : ad295 = ad301 := (by injection e301)
                    try clear hx295_0
                    try clear hx295_1
                    replace p301 := eq_true p301; replace q301 := eq_true q301; refine start_ (n := 13) (S := fun w' => w'.cell? (ad300.add (((ji24)).toNat * 2)) = some (.int .i64 ((rd_T29 t277 (ji24)).f0)) ∧ w'.cell? ⟨(ad300.add (((ji24)).toNat * 2)).block, (ad300.add (((ji24)).toNat * 2)).off + 1, none⟩ = some (.bool ((rd_T29 t277 (ji24)).f1)) ∧ w'.cell? (ad295.add (x7_2).toNat) = some (.int .i64 (rd t280 x7_2))) (ds := []) (rowB 13 0) (by kernel_rfl) rfl rfl ⟨hx300_0, hx300_1, hx301_0⟩ (fun hHeld => ?_); refine with_tabW laws_FnModeMoves.tab13 laws_FnModeMoves.bits13 (fun HT_ HW_ => ?_); generalize w61.drew = w62 at HO_3 HO_4 HO299 HB hx300_0 hx300_1 hx301_0 hHeld ⊢; refine pure_ (i := 0) (N := some 49) (v := ?_) (a' := ?_) (rowB 13 1) rfl rfl (any_of HT_.out (by kernel_rfl)) (fun _ _ _ h => h) (Or.inl ⟨by rfl, ?_⟩) ?_ ?_; rotate_left; (· intro w'; go_simp; with_reducible rfl); rotate_left; (· simp only [Act.put, List.setIfInBounds_toArray, List.set_cons_zero, List.set_cons_succ, i64_w, i32_w]; rfl); refine pure_ (i := 1) (N := some 50) (v := ?_) (a' := ?_) (rowB 13 3) rfl rfl (any_of HT_.out (by kernel_rfl)) (fun _ _ _ h => h) (Or.inl ⟨by rfl, ?_⟩) ?_ ?_; rotate_left; (· intro w'; go_simp; with_reducible rfl); rotate_left; (· simp only [Act.put, List.setIfInBounds_toArray, List.set_cons_zero, List.set_cons_succ, i64_w, i32_w]; rfl); refine pure_ (i := 2) (N := some 51) (v := ?_) (a' := ?_) (rowB 13 7) rfl rfl (any_of HT_.out (by kernel_rfl)) (fun _ _ _ h => h) (Or.inl ⟨by rfl, ?_⟩) ?_ ?_; rotate_left; (· intro w'; go_simp; with_reducible rfl); rotate_left; (· simp only [Act.put, List.setIfInBounds_toArray, List.set_cons_zero, List.set_cons_succ, i64_w, i32_w]; rfl); refine pure_ (i := 3) (N := some 52) (v := ?_) (a' := ?_) (rowB 13 15) rfl rfl (any_of HT_.out (by kernel_rfl)) (fun _ _ _ h => h) (Or.inl ⟨by rfl, ?_⟩) ?_ ?_; rotate_left; (· intro w'; go_simp; with_reducible rfl); rotate_left; (· simp only [Act.put, List.setIfInBounds_toArray, List.set_cons_zero, List.set_cons_succ, i64_w, i32_w]; rfl); refine pure_ (i := 4) (N := some 53) (v := ?_) (a' := ?_) (rowB 13 31) rfl rfl (any_of HT_.out (by kernel_rfl)) (fun _ _ _ h => h) (Or.inl ⟨by rfl, ?_⟩) ?_ ?_; rotate_left; (· intro w'; go_simp; with_reducible rfl); rotate_left; (· simp only [Act.put, List.setIfInBounds_toArray, List.set_cons_zero, List.set_cons_succ, i64_w, i32_w]; rfl); refine pure_ (i := 5) (N := some 54) (v := ?_) (a' := ?_) (rowB 13 63) rfl rfl (any_of HT_.out (by kernel_rfl)) (fun _ _ _ h => h) (Or.inl ⟨by rfl, ?_⟩) ?_ ?_; rotate_left; (· intro w'; go_simp; with_reducible rfl); rotate_left; (· simp only [Act.put, List.setIfInBounds_toArray, List.set_cons_zero, List.set_cons_succ, i64_w, i32_w]; rfl); refine pure_ (i := 7) (N := some 56) (v := ?_) (a' := ?_) (rowB 13 191) rfl rfl (any_of HT_.out (by kernel_rfl)) (fun _ _ _ h => h) (Or.inl ⟨by rfl, ?_⟩) ?_ ?_; rotate_left; (· intro w'; go_simp; with_reducible rfl); rotate_left; (· simp only [Act.put, List.setIfInBounds_toArray, List.set_cons_zero, List.set_cons_succ, i64_w, i32_w]; rfl); refine pure_ (i := 8) (N := some 57) (v := ?_) (a' := ?_) (rowB 13 447) rfl rfl (any_of HT_.out (by kernel_rfl)) (fun _ _ _ h => h) (Or.inl ⟨by rfl, ?_⟩) ?_ ?_; rotate_left; (· intro w'; go_simp; with_reducible rfl); rotate_left; (· simp only [Act.put, List.setIfInBounds_toArray, List.set_cons_zero, List.set_cons_succ, i64_w, i32_w]; rfl); refine pure_ (i := 9) (N := some 58) (v := ?_) (a' := ?_) (rowB 13 959) rfl rfl (any_of HT_.out (by kernel_rfl)) (fun _ _ _ h => h) (Or.inl ⟨by rfl, ?_⟩) ?_ ?_; rotate_left; (· intro w'; go_simp; with_reducible rfl); rotate_left; (· simp only [Act.put, List.setIfInBounds_toArray, List.set_cons_zero, List.set_cons_succ, i64_w, i32_w]; rfl); refine take_ (i := 6) (N := some 55) (v := ?_) (a' := ?_) (rowB 13 1023) rfl rfl (take_ofW HT_.out HW_.out (by kernel_rfl)) (fun _ _ _ h => h) (Or.inl ⟨by rfl, ?_⟩) hHeld ?_ ?_; rotate_left; (· rintro w' ⟨s0, s1, s2⟩; go_simp; with_reducible rfl); rotate_left; (· simp only [Act.put, List.setIfInBounds_toArray, List.set_cons_zero, List.set_cons_succ, i64_w, i32_w]; rfl); refine take_ (i := 10) (N := some 59) (v := ?_) (a' := ?_) (rowB 13 2047) rfl rfl (take_ofW HT_.out HW_.out (by kernel_rfl)) (fun _ _ _ h => h) (Or.inl ⟨by rfl, ?_⟩) hHeld ?_ ?_; rotate_left; (· rintro w' ⟨s0, s1, s2⟩; go_simp; with_reducible rfl); rotate_left; (· simp only [Act.put, List.setIfInBounds_toArray, List.set_cons_zero, List.set_cons_succ, i64_w, i32_w]; rfl); refine pure_ (i := 11) (N := some 60) (v := ?_) (a' := ?_) (rowB 13 4095) rfl rfl (any_of HT_.out (by kernel_rfl)) (fun _ _ _ h => h) (Or.inl ⟨by rfl, ?_⟩) ?_ ?_; rotate_left; (· intro w'; go_simp; with_reducible rfl); rotate_left; (· simp only [Act.put, List.setIfInBounds_toArray, List.set_cons_zero, List.set_cons_succ, i64_w, i32_w]; rfl); refine pure_ (i := 12) (N := some 10) (v := ?_) (a' := ?_) (rowB 13 8191) rfl rfl (any_of HT_.out (by kernel_rfl)) (fun _ _ _ h => h) (Or.inl ⟨by rfl, ?_⟩) ?_ ?_; rotate_left; (· intro w'; go_simp; with_reducible rfl); rotate_left; (· simp only [Act.put, List.setIfInBounds_toArray, List.set_cons_zero, List.set_cons_succ, i64_w, i32_w]; rfl); refine done_ (done_of HT_.out (by kernel_rfl)) ?_; try go_wp2
                    have n0_ := Aside0.mk (Kd.R_drew HO_3.out); have n1_ := Aside0.mk (Kd.R_drew HO_4.out); have n2_ := Aside0.mk (Kd.R_drew HO299.out); have n3_ := Aside0.mk (below_drew1 HB.out); clear HO_3; clear HO_4; clear HO299; clear HB; have HO_3 := n0_; have HO_4 := n1_; have HO299 := n2_; have HB := n3_; clear n0_ n1_ n2_ n3_; obtain ⟨Ao64, co64, eo64⟩ := Kd.R_slice HO299.out; (first | subst eo64 | (injection eo64 with f1_ f2_ f3_; have f4_ := f1_.symm; have f5_ := f3_.symm; clear f1_ f2_ f3_; subst f4_; subst f5_))
                    have p305 : 0 ≤ (x7_2 : Int) := of_decide_eq_true (by first | (with_reducible assumption) | assumption); have q305 : x7_2 < (t280.length : Int) := of_decide_eq_true (by first | (with_reducible assumption) | assumption); obtain ⟨ad305, e305, hx305_0⟩ := Kd.at_int (Kd.R_reads' HO_4.out).2.2 x7_2 p305 q305; obtain rfl : ad295 = ad305 := (by injection e305)
                    try clear hx295_0
                    try clear hx295_1
                    replace p305 := eq_true p305; replace q305 := eq_true q305; have p306 : 0 ≤ ((ji48) : Int) := of_decide_eq_true (by first | (with_reducible assumption) | assumption); have q306 : (ji48) < (t280.length : Int) := of_decide_eq_true (by first | (with_reducible assumption) | assumption); obtain ⟨ad306, e306, hx306_0⟩ := Kd.at_int (Kd.R_reads' HO_4.out).2.2 (ji48) p306 q306; obtain rfl : ad295 = ad306 := (by injection e306)
                    try clear hx295_0
                    try clear hx295_1
                    replace p306 := eq_true p306; replace q306 := eq_true q306; refine start_ (n := 32) (S := fun w' => w'.cell? (ad295.add (x7_2).toNat) = some (.int .i64 (rd t280 x7_2)) ∧ w'.cell? (ad295.add ((ji48)).toNat) = some (.int .i64 (rd t280 (ji48)))) (ds := []) (rowB 32 0) (by kernel_rfl) rfl rfl ⟨hx305_0, hx306_0⟩ (fun hHeld => ?_); refine with_tabW laws_FnModeMoves.tab14 laws_FnModeMoves.bits14 (fun HT_ HW_ => ?_); generalize w62.drew = w63 at HO_3 HO_4 HO299 HB hx305_0 hx306_0 hHeld ⊢; refine pure_ (i := 0) (N := some 61) (v := ?_) (a' := ?_) (rowB 32 1) rfl rfl (any_of HT_.out (by kernel_rfl)) (fun _ _ _ h => h) (Or.inl ⟨by rfl, ?_⟩) ?_ ?_; rotate_left; (· intro w'; go_simp; with_reducible rfl); rotate_left; (· simp only [Act.put, List.setIfInBounds_toArray, List.set_cons_zero, List.set_cons_succ, i64_w, i32_w]; rfl); refine pure_ (i := 1) (N := some 62) (v := ?_) (a' := ?_) (rowB 32 3) rfl rfl (any_of HT_.out (by kernel_rfl)) (fun _ _ _ h => h) (Or.inl ⟨by rfl, ?_⟩) ?_ ?_; rotate_left; (· intro w'; go_simp; with_reducible rfl); rotate_left; (· simp only [Act.put, List.setIfInBounds_toArray, List.set_cons_zero, List.set_cons_succ, i64_w, i32_w]; rfl); refine pure_ (i := 2) (N := some 63) (v := ?_) (a' := ?_) (rowB 32 7) rfl rfl (any_of HT_.out (by kernel_rfl)) (fun _ _ _ h => h) (Or.inl ⟨by rfl, ?_⟩) ?_ ?_; rotate_left; (· intro w'; go_simp; with_reducible rfl); rotate_left; (· simp only [Act.put, List.setIfInBounds_toArray, List.set_cons_zero, List.set_cons_succ, i64_w, i32_w]; rfl); refine pure_ (i := 3) (N := some 64) (v := ?_) (a' := ?_) (rowB 32 15) rfl rfl (any_of HT_.out (by kernel_rfl)) (fun _ _ _ h => h) (Or.inl ⟨by rfl, ?_⟩) ?_ ?_; rotate_left; (· intro w'; go_simp; with_reducible rfl); rotate_left; (· simp only [Act.put, List.setIfInBounds_toArray, List.set_cons_zero, List.set_cons_succ, i64_w, i32_w]; rfl); refine pure_ (i := 4) (N := some 65) (v := ?_) (a' := ?_) (rowB 32 31) rfl rfl (any_of HT_.out (by kernel_rfl)) (fun _ _ _ h => h) (Or.inl ⟨by rfl, ?_⟩) ?_ ?_; rotate_left; (· intro w'; go_simp; with_reducible rfl); rotate_left; (· simp only [Act.put, List.setIfInBounds_toArray, List.set_cons_zero, List.set_cons_succ, i64_w, i32_w]; rfl); refine pure_ (i := 5) (N := some 66) (v := ?_) (a' := ?_) (rowB 32 63) rfl rfl (any_of HT_.out (by kernel_rfl)) (fun _ _ _ h => h) (Or.inl ⟨by rfl, ?_⟩) ?_ ?_; rotate_left; (· intro w'; go_simp; with_reducible rfl); rotate_left; (· simp only [Act.put, List.setIfInBounds_toArray, List.set_cons_zero, List.set_cons_succ, i64_w, i32_w]; rfl); refine pure_ (i := 6) (N := some 67) (v := ?_) (a' := ?_) (rowB 32 127) rfl rfl (any_of HT_.out (by kernel_rfl)) (fun _ _ _ h => h) (Or.inl ⟨by rfl, ?_⟩) ?_ ?_; rotate_left; (· intro w'; go_simp; with_reducible rfl); rotate_left; (· simp only [Act.put, List.setIfInBounds_toArray, List.set_cons_zero, List.set_cons_succ, i64_w, i32_w]; rfl); refine pure_ (i := 7) (N := some 68) (v := ?_) (a' := ?_) (rowB 32 255) rfl rfl (any_of HT_.out (by kernel_rfl)) (fun _ _ _ h => h) (Or.inl ⟨by rfl, ?_⟩) ?_ ?_; rotate_left; (· intro w'; go_simp; with_reducible rfl); rotate_left; (· simp only [Act.put, List.setIfInBounds_toArray, List.set_cons_zero, List.set_cons_succ, i64_w, i32_w]; rfl); refine pure_ (i := 8) (N := some 69) (v := ?_) (a' := ?_) (rowB 32 511) rfl rfl (any_of HT_.out (by kernel_rfl)) (fun _ _ _ h => h) (Or.inl ⟨by rfl, ?_⟩) ?_ ?_; rotate_left; (· intro w'; go_simp; with_reducible rfl); rotate_left; (· simp only [Act.put, List.setIfInBounds_toArray, List.set_cons_zero, List.set_cons_succ, i64_w, i32_w]; rfl); refine pure_ (i := 9) (N := some 70) (v := ?_) (a' := ?_) (rowB 32 1023) rfl rfl (any_of HT_.out (by kernel_rfl)) (fun _ _ _ h => h) (Or.inl ⟨by rfl, ?_⟩) ?_ ?_; rotate_left; (· intro w'; go_simp; with_reducible rfl); rotate_left; (· simp only [Act.put, List.setIfInBounds_toArray, List.set_cons_zero, List.set_cons_succ, i64_w, i32_w]; rfl); refine pure_ (i := 10) (N := some 71) (v := ?_) (a' := ?_) (rowB 32 2047) rfl rfl (any_of HT_.out (by kernel_rfl)) (fun _ _ _ h => h) (Or.inl ⟨by rfl, ?_⟩) ?_ ?_; rotate_left; (· intro w'; go_simp; with_reducible rfl); rotate_left; (· simp only [Act.put, List.setIfInBounds_toArray, List.set_cons_zero, List.set_cons_succ, i64_w, i32_w]; rfl); refine pure_ (i := 11) (N := some 72) (v := ?_) (a' := ?_) (rowB 32 4095) rfl rfl (any_of HT_.out (by kernel_rfl)) (fun _ _ _ h => h) (Or.inl ⟨by rfl, ?_⟩) ?_ ?_; rotate_left; (· intro w'; go_simp; with_reducible rfl); rotate_left; (· simp only [Act.put, List.setIfInBounds_toArray, List.set_cons_zero, List.set_cons_succ, i64_w, i32_w]; rfl); refine one_ (i := 12) (N := some 73) (rowB 32 8191) rfl rfl (one_of HT_.out (by kernel_rfl)) (by decide) (fun K hK => ?_); refine goes_ Tryd.func28 (by kernel_rfl) rfl #[.slice _ t296.length co64] (by rfl) rfl rfl (by (try simp only [List.map_toArray, List.map_cons, List.map_nil]); first | done | rfl | (simp only [List.length_drop, List.length_take]; rfl)) ?_; with_reducible refine (impl_ModeAll.calls _ _ t296 t302 _ ?side1 ?side2 A38.out (ht := HT.out.below (by repeat (first | (with_reducible first | exact HB.out | apply below_alloc | apply pw_below_drewN | apply below_drew1) | exact HB.out)))).mono ?_
                    (case side1 => repeat (first | exact (Kd.R_reads' HO299.out).2.2 | (with_reducible refine Kd.C_alloc ?_ _) | (with_reducible refine Kd.C_drewN ?_ _) | (with_reducible refine Kd.C_drew ?_)))
                    (case side2 => exact (Kd.R_reads' HO299.out).2.1)
                    rintro e w65 ⟨v303, rfl, ho0, hb⟩; have HS0_ := (hb.cell (World.block_lt_of_cell? _ _ (hHeld.1))).trans (hHeld.1); have HS1_ := (hb.cell (World.block_lt_of_cell? _ _ (hHeld.2))).trans (hHeld.2); refine ⟨_, rfl, ?_⟩; have n0_ := Aside0.mk (Kd.R_below (by (with_reducible repeat (first | apply Kd.R_alloc | apply Kd.R_drewN | apply Kd.R_drew)); exact HO_3.out) hb); have n1_ := Aside0.mk (Kd.R_elder' (by (with_reducible repeat (first | apply Kd.R_alloc | apply Kd.R_drewN | apply Kd.R_drew)); exact HO_4.out) (Kd.R_base ho0) hb); have n2_ := Aside0.mk (Kd.R_below (by (with_reducible repeat (first | apply Kd.R_alloc | apply Kd.R_drewN | apply Kd.R_drew)); exact HO299.out) hb); have n3_ := Aside0.mk (Kd.R_lower (Kd.R_new' ho0 (Kd.R_lt (by (with_reducible repeat (first | apply Kd.R_alloc | apply Kd.R_drewN | apply Kd.R_drew)); exact HO_4.out))) (below_size (by repeat (first | (with_reducible first | exact HB.out | apply below_alloc | apply pw_below_drewN | apply below_drew1) | exact HB.out)))); have n4_ := Aside0.mk (below_step (by repeat (first | (with_reducible first | exact HB.out | apply below_alloc | apply pw_below_drewN | apply below_drew1) | exact HB.out)) hb); clear HO_3; clear HO_4; clear HO299; clear HB; have HO_3 := n0_; have HO_4 := n1_; have HO299 := n2_; have HO304 := n3_; have HB := n4_; clear n0_ n1_ n2_ n3_ n4_; (try clear hb)
                    (try clear hb2)
                    (try clear hk)
                    (try clear hi)
                    (try clear ho0)
                    obtain ⟨Ao66, co66, eo66⟩ := Kd.R_slice HO304.out; (first | subst eo66 | (injection eo66 with f1_ f2_ f3_; have f4_ := f1_.symm; have f5_ := f3_.symm; clear f1_ f2_ f3_; subst f4_; subst f5_))
                    refine hK.out _ _ ⟨HS0_, HS1_⟩ (fun hHeld => ?_); clear hK K; refine norm_ (a' := ?_) ?_ ?_; rotate_left; (· show Act.put _ (some 73) _ = _; simp only [Act.put, List.setIfInBounds_toArray, List.set_cons_zero, List.set_cons_succ, i64_w, i32_w]; rfl); refine pure_ (i := 13) (N := some 74) (v := ?_) (a' := ?_) (rowB 32 16383) rfl rfl (any_of HT_.out (by kernel_rfl)) (fun _ _ _ h => h) (Or.inl ⟨by rfl, ?_⟩) ?_ ?_; rotate_left; (· intro w'; go_simp; with_reducible rfl); rotate_left; (· simp only [Act.put, List.setIfInBounds_toArray, List.set_cons_zero, List.set_cons_succ, i64_w, i32_w]; rfl); refine pure_ (i := 14) (N := some 75) (v := ?_) (a' := ?_) (rowB 32 32767) rfl rfl (any_of HT_.out (by kernel_rfl)) (fun _ _ _ h => h) (Or.inl ⟨by rfl, ?_⟩) ?_ ?_; rotate_left; (· intro w'; go_simp; with_reducible rfl); rotate_left; (· simp only [Act.put, List.setIfInBounds_toArray, List.set_cons_zero, List.set_cons_succ, i64_w, i32_w]; rfl); refine pure_ (i := 15) (N := some 76) (v := ?_) (a' := ?_) (rowB 32 65535) rfl rfl (any_of HT_.out (by kernel_rfl)) (fun _ _ _ h => h) (Or.inl ⟨by rfl, ?_⟩) ?_ ?_; rotate_left; (· intro w'; go_simp; with_reducible rfl); rotate_left; (· simp only [Act.put, List.setIfInBounds_toArray, List.set_cons_zero, List.set_cons_succ, i64_w, i32_w]; rfl); refine pure_ (i := 16) (N := some 77) (v := ?_) (a' := ?_) (rowB 32 131071) rfl rfl (any_of HT_.out (by kernel_rfl)) (fun _ _ _ h => h) (Or.inl ⟨by rfl, ?_⟩) ?_ ?_; rotate_left; (· intro w'; go_simp; with_reducible rfl); rotate_left; (· simp only [Act.put, List.setIfInBounds_toArray, List.set_cons_zero, List.set_cons_succ, i64_w, i32_w]; rfl); refine pure_ (i := 17) (N := some 78) (v := ?_) (a' := ?_) (rowB 32 262143) rfl rfl (any_of HT_.out (by kernel_rfl)) (fun _ _ _ h => h) (Or.inl ⟨by rfl, ?_⟩) ?_ ?_; rotate_left; (· intro w'; go_simp; with_reducible rfl); rotate_left; (· simp only [Act.put, List.setIfInBounds_toArray, List.set_cons_zero, List.set_cons_succ, i64_w, i32_w]; rfl); refine pure_ (i := 18) (N := some 79) (v := ?_) (a' := ?_) (rowB 32 524287) rfl rfl (any_of HT_.out (by kernel_rfl)) (fun _ _ _ h => h) (Or.inl ⟨by rfl, ?_⟩) ?_ ?_; rotate_left; (· intro w'; go_simp; with_reducible rfl); rotate_left; (· simp only [Act.put, List.setIfInBounds_toArray, List.set_cons_zero, List.set_cons_succ, i64_w, i32_w]; rfl); refine pure_ (i := 19) (N := some 80) (v := ?_) (a' := ?_) (rowB 32 1048575) rfl rfl (any_of HT_.out (by kernel_rfl)) (fun _ _ _ h => h) (Or.inl ⟨by rfl, ?_⟩) ?_ ?_; rotate_left; (· intro w'; go_simp; with_reducible rfl); rotate_left; (· simp only [Act.put, List.setIfInBounds_toArray, List.set_cons_zero, List.set_cons_succ, i64_w, i32_w]; rfl); refine pure_ (i := 20) (N := some 81) (v := ?_) (a' := ?_) (rowB 32 2097151) rfl rfl (any_of HT_.out (by kernel_rfl)) (fun _ _ _ h => h) (Or.inl ⟨by rfl, ?_⟩) ?_ ?_; rotate_left; (· intro w'; go_simp; with_reducible rfl); rotate_left; (· simp only [Act.put, List.setIfInBounds_toArray, List.set_cons_zero, List.set_cons_succ, i64_w, i32_w]; rfl); refine pure_ (i := 21) (N := some 82) (v := ?_) (a' := ?_) (rowB 32 4194303) rfl rfl (any_of HT_.out (by kernel_rfl)) (fun _ _ _ h => h) (Or.inl ⟨by rfl, ?_⟩) ?_ ?_; rotate_left; (· intro w'; go_simp; with_reducible rfl); rotate_left; (· simp only [Act.put, List.setIfInBounds_toArray, List.set_cons_zero, List.set_cons_succ, i64_w, i32_w]; rfl); refine pure_ (i := 22) (N := some 83) (v := ?_) (a' := ?_) (rowB 32 8388607) rfl rfl (any_of HT_.out (by kernel_rfl)) (fun _ _ _ h => h) (Or.inl ⟨by rfl, ?_⟩) ?_ ?_; rotate_left; (· intro w'; go_simp; with_reducible rfl); rotate_left; (· simp only [Act.put, List.setIfInBounds_toArray, List.set_cons_zero, List.set_cons_succ, i64_w, i32_w]; rfl); refine pure_ (i := 24) (N := some 85) (v := ?_) (a' := ?_) (rowB 32 25165823) rfl rfl (any_of HT_.out (by kernel_rfl)) (fun _ _ _ h => h) (Or.inl ⟨by rfl, ?_⟩) ?_ ?_; rotate_left; (· intro w'; go_simp; with_reducible rfl); rotate_left; (· simp only [Act.put, List.setIfInBounds_toArray, List.set_cons_zero, List.set_cons_succ, i64_w, i32_w]; rfl); refine pure_ (i := 25) (N := some 86) (v := ?_) (a' := ?_) (rowB 32 58720255) rfl rfl (any_of HT_.out (by kernel_rfl)) (fun _ _ _ h => h) (Or.inl ⟨by rfl, ?_⟩) ?_ ?_; rotate_left; (· intro w'; go_simp; with_reducible rfl); rotate_left; (· simp only [Act.put, List.setIfInBounds_toArray, List.set_cons_zero, List.set_cons_succ, i64_w, i32_w]; rfl); refine pure_ (i := 26) (N := some 87) (v := ?_) (a' := ?_) (rowB 32 125829119) rfl rfl (any_of HT_.out (by kernel_rfl)) (fun _ _ _ h => h) (Or.inl ⟨by rfl, ?_⟩) ?_ ?_; rotate_left; (· intro w'; go_simp; with_reducible rfl); rotate_left; (· simp only [Act.put, List.setIfInBounds_toArray, List.set_cons_zero, List.set_cons_succ, i64_w, i32_w]; rfl); refine pure_ (i := 27) (N := some 88) (v := ?_) (a' := ?_) (rowB 32 260046847) rfl rfl (any_of HT_.out (by kernel_rfl)) (fun _ _ _ h => h) (Or.inl ⟨by rfl, ?_⟩) ?_ ?_; rotate_left; (· intro w'; go_simp; with_reducible rfl); rotate_left; (· simp only [Act.put, List.setIfInBounds_toArray, List.set_cons_zero, List.set_cons_succ, i64_w, i32_w]; rfl); refine take_ (i := 23) (N := some 84) (v := ?_) (a' := ?_) (rowB 32 268435455) rfl rfl (take_ofW HT_.out HW_.out (by kernel_rfl)) (fun _ _ _ h => h) (Or.inl ⟨by rfl, ?_⟩) hHeld ?_ ?_; rotate_left; (· rintro w' ⟨s0, s1⟩; go_simp; with_reducible rfl); rotate_left; (· simp only [Act.put, List.setIfInBounds_toArray, List.set_cons_zero, List.set_cons_succ, i64_w, i32_w]; rfl); refine take_ (i := 28) (N := some 89) (v := ?_) (a' := ?_) (rowB 32 536870911) rfl rfl (take_ofW HT_.out HW_.out (by kernel_rfl)) (fun _ _ _ h => h) (Or.inl ⟨by rfl, ?_⟩) hHeld ?_ ?_; rotate_left; (· rintro w' ⟨s0, s1⟩; go_simp; with_reducible rfl); rotate_left; (· simp only [Act.put, List.setIfInBounds_toArray, List.set_cons_zero, List.set_cons_succ, i64_w, i32_w]; rfl); refine pure_ (i := 29) (N := some 90) (v := ?_) (a' := ?_) (rowB 32 1073741823) rfl rfl (any_of HT_.out (by kernel_rfl)) (fun _ _ _ h => h) (Or.inl ⟨by rfl, ?_⟩) ?_ ?_; rotate_left; (· intro w'; go_simp; with_reducible rfl); rotate_left; (· simp only [Act.put, List.setIfInBounds_toArray, List.set_cons_zero, List.set_cons_succ, i64_w, i32_w]; rfl); refine pure_ (i := 30) (N := some 91) (v := ?_) (a' := ?_) (rowB 32 2147483647) rfl rfl (any_of HT_.out (by kernel_rfl)) (fun _ _ _ h => h) (Or.inl ⟨by rfl, ?_⟩) ?_ ?_; rotate_left; (· intro w'; go_simp; with_reducible rfl); rotate_left; (· simp only [Act.put, List.setIfInBounds_toArray, List.set_cons_zero, List.set_cons_succ, i64_w, i32_w]; rfl); refine pure_ (i := 31) (N := some 92) (v := ?_) (a' := ?_) (rowB 32 4294967295) rfl rfl (any_of HT_.out (by kernel_rfl)) (fun _ _ _ h => h) (Or.inl ⟨by rfl, ?_⟩) ?_ ?_; rotate_left; (· intro w'; go_simp; with_reducible rfl); rotate_left; (· simp only [Act.put, List.setIfInBounds_toArray, List.set_cons_zero, List.set_cons_succ, i64_w, i32_w]; rfl); refine done_ (done_of HT_.out (by kernel_rfl)) ?_; try go_wp2
                    go_roundg k2
                    case measure => have := HJ5.out; have := HK2.out; omega
                    case rel => exact ⟨(true), (wrap64 (x7_2 + 1)), (by first | rfl | (simp; done) | (simp [*]; done)), (by first | rfl | (simp; done) | (simp [*]; done)), H', ⟨by have := HJ5.out; have := HK2.out; omega⟩, ⟨by (with_reducible repeat (first | apply Kd.R_alloc | apply Kd.R_drewN | apply Kd.R_drew)); exact Kd.R_mono HO_3.out (fun _ hk => trivial)⟩, ⟨by (with_reducible repeat (first | apply Kd.R_alloc | apply Kd.R_drewN | apply Kd.R_drew)); exact Kd.R_mono HO_4.out (fun _ hk => trivial)⟩, ⟨by repeat (first | (with_reducible first | exact HB.out | apply below_alloc | apply pw_below_drewN | apply below_drew1) | exact HB.out)⟩⟩
                   ·
                    replace c59 := Bool.eq_false_iff.mpr c59; subst c59; have H1 : (laws_FnModeMoves.l0 k2 t277 t280 ((rd t280 x7_2) == 0) (wrap64 (x7_2 + 1))) = some r := by rw [if_neg (show ¬ (false = true) by decide)] at H; exact H
                    clear H; have H := H1; clear H1; have H' := Aside0.mk H; clear H; obtain ⟨Ao67, co67, eo67⟩ := Kd.R_slice HO_4.out; subst eo67; have p295 : 0 ≤ (x7_2 : Int) := of_decide_eq_true (by first | (with_reducible assumption) | assumption); have q295 : x7_2 < (t280.length : Int) := of_decide_eq_true (by first | (with_reducible assumption) | assumption); obtain ⟨ad295, e295, hx295_0⟩ := Kd.at_int (Kd.R_reads' HO_4.out).2.2 x7_2 p295 q295; cases e295; replace p295 := eq_true p295; replace q295 := eq_true q295; try go_wp2_with (first | ((with_reducible refine gate_callee (f := 21) rfl ?_); refine goesL_ (some 46) rfl rfl Tryd.func21 (by kernel_rfl) rfl #[.slice Ao8 t277.length co8, .int .i64 (rd t280 x7_2)] rfl (by (try simp only [List.map_toArray, List.map_cons, List.map_nil]); first | done | rfl | (simp only [List.length_drop, List.length_take]; rfl)) ?_; (with_reducible refine (impl_MelodyMove.calls _ _ t277 (rd t280 x7_2) t296 true _ ?side1 ?side2 A23.out (ht := HT.out.below (by repeat (first | (with_reducible first | exact HB.out | apply below_alloc | apply pw_below_drewN | apply below_drew1) | exact HB.out)))).mono ?_); (case side1 => repeat (first | exact (Kd.R_reads' HO_3.out).2.2 | (with_reducible refine Kd.C_alloc ?_ _) | (with_reducible refine Kd.C_drewN ?_ _) | (with_reducible refine Kd.C_drew ?_))); (case side2 => exact (Kd.R_reads' HO_3.out).2.1); rintro e w68 ⟨v298, rfl, ho0, hb⟩; refine ⟨_, rfl, ?_⟩; have n0_ := Aside0.mk (Kd.R_elder' (by (with_reducible repeat (first | apply Kd.R_alloc | apply Kd.R_drewN | apply Kd.R_drew)); exact HO_3.out) (Kd.R_base ho0) hb); have n1_ := Aside0.mk (Kd.R_below (by (with_reducible repeat (first | apply Kd.R_alloc | apply Kd.R_drewN | apply Kd.R_drew)); exact HO_4.out) hb); have n2_ := Aside0.mk (Kd.R_lower (Kd.R_new' ho0 (Kd.R_lt (by (with_reducible repeat (first | apply Kd.R_alloc | apply Kd.R_drewN | apply Kd.R_drew)); exact HO_3.out))) (below_size (by repeat (first | (with_reducible first | exact HB.out | apply below_alloc | apply pw_below_drewN | apply below_drew1) | exact HB.out)))); have n3_ := Aside0.mk (below_step (by repeat (first | (with_reducible first | exact HB.out | apply below_alloc | apply pw_below_drewN | apply below_drew1) | exact HB.out)) hb); clear HO_3; clear HO_4; clear HB; have HO_3 := n0_; have HO_4 := n1_; have HO299 := n2_; have HB := n3_; clear n0_ n1_ n2_ n3_; (try clear hb); (try clear hb2); (try clear hk); (try clear hi); (try clear ho0)))
                    have n0_ := Aside0.mk (Kd.R_drew HO_3.out); have n1_ := Aside0.mk (Kd.R_drew HO_4.out); have n2_ := Aside0.mk (Kd.R_drew HO299.out); have n3_ := Aside0.mk (below_drew1 HB.out); clear HO_3; clear HO_4; clear HO299; clear HB; have HO_3 := n0_; have HO_4 := n1_; have HO299 := n2_; have HB := n3_; clear n0_ n1_ n2_ n3_; have p300 : 0 ≤ ((ji24) : Int) := of_decide_eq_true (by first | (with_reducible assumption) | assumption); have q300 : (ji24) < (t277.length : Int) := of_decide_eq_true (by first | (with_reducible assumption) | assumption); obtain ⟨ad300, e300, hx300_0, hx300_1⟩ := at_T29 (Kd.R_reads' HO_3.out).2.2 (ji24) p300 q300; cases e300; replace p300 := eq_true p300; replace q300 := eq_true q300; have p301 : 0 ≤ (x7_2 : Int) := of_decide_eq_true (by first | (with_reducible assumption) | assumption); have q301 : x7_2 < (t280.length : Int) := of_decide_eq_true (by first | (with_reducible assumption) | assumption); obtain ⟨ad301, e301, hx301_0⟩ := Kd.at_int (Kd.R_reads' HO_4.out).2.2 x7_2 p301 q301; obtain rfl : ad295 = ad301 := (by injection e301)
                    try clear hx295_0
                    try clear hx295_1
                    replace p301 := eq_true p301; replace q301 := eq_true q301; refine start_ (n := 13) (S := fun w' => w'.cell? (ad300.add (((ji24)).toNat * 2)) = some (.int .i64 ((rd_T29 t277 (ji24)).f0)) ∧ w'.cell? ⟨(ad300.add (((ji24)).toNat * 2)).block, (ad300.add (((ji24)).toNat * 2)).off + 1, none⟩ = some (.bool ((rd_T29 t277 (ji24)).f1)) ∧ w'.cell? (ad295.add (x7_2).toNat) = some (.int .i64 (rd t280 x7_2))) (ds := []) (rowB 13 0) (by kernel_rfl) rfl rfl ⟨hx300_0, hx300_1, hx301_0⟩ (fun hHeld => ?_); refine with_tabW laws_FnModeMoves.tab13 laws_FnModeMoves.bits13 (fun HT_ HW_ => ?_); generalize w68.drew = w69 at HO_3 HO_4 HO299 HB hx300_0 hx300_1 hx301_0 hHeld ⊢; refine pure_ (i := 0) (N := some 49) (v := ?_) (a' := ?_) (rowB 13 1) rfl rfl (any_of HT_.out (by kernel_rfl)) (fun _ _ _ h => h) (Or.inl ⟨by rfl, ?_⟩) ?_ ?_; rotate_left; (· intro w'; go_simp; with_reducible rfl); rotate_left; (· simp only [Act.put, List.setIfInBounds_toArray, List.set_cons_zero, List.set_cons_succ, i64_w, i32_w]; rfl); refine pure_ (i := 1) (N := some 50) (v := ?_) (a' := ?_) (rowB 13 3) rfl rfl (any_of HT_.out (by kernel_rfl)) (fun _ _ _ h => h) (Or.inl ⟨by rfl, ?_⟩) ?_ ?_; rotate_left; (· intro w'; go_simp; with_reducible rfl); rotate_left; (· simp only [Act.put, List.setIfInBounds_toArray, List.set_cons_zero, List.set_cons_succ, i64_w, i32_w]; rfl); refine pure_ (i := 2) (N := some 51) (v := ?_) (a' := ?_) (rowB 13 7) rfl rfl (any_of HT_.out (by kernel_rfl)) (fun _ _ _ h => h) (Or.inl ⟨by rfl, ?_⟩) ?_ ?_; rotate_left; (· intro w'; go_simp; with_reducible rfl); rotate_left; (· simp only [Act.put, List.setIfInBounds_toArray, List.set_cons_zero, List.set_cons_succ, i64_w, i32_w]; rfl); refine pure_ (i := 3) (N := some 52) (v := ?_) (a' := ?_) (rowB 13 15) rfl rfl (any_of HT_.out (by kernel_rfl)) (fun _ _ _ h => h) (Or.inl ⟨by rfl, ?_⟩) ?_ ?_; rotate_left; (· intro w'; go_simp; with_reducible rfl); rotate_left; (· simp only [Act.put, List.setIfInBounds_toArray, List.set_cons_zero, List.set_cons_succ, i64_w, i32_w]; rfl); refine pure_ (i := 4) (N := some 53) (v := ?_) (a' := ?_) (rowB 13 31) rfl rfl (any_of HT_.out (by kernel_rfl)) (fun _ _ _ h => h) (Or.inl ⟨by rfl, ?_⟩) ?_ ?_; rotate_left; (· intro w'; go_simp; with_reducible rfl); rotate_left; (· simp only [Act.put, List.setIfInBounds_toArray, List.set_cons_zero, List.set_cons_succ, i64_w, i32_w]; rfl); refine pure_ (i := 5) (N := some 54) (v := ?_) (a' := ?_) (rowB 13 63) rfl rfl (any_of HT_.out (by kernel_rfl)) (fun _ _ _ h => h) (Or.inl ⟨by rfl, ?_⟩) ?_ ?_; rotate_left; (· intro w'; go_simp; with_reducible rfl); rotate_left; (· simp only [Act.put, List.setIfInBounds_toArray, List.set_cons_zero, List.set_cons_succ, i64_w, i32_w]; rfl); refine pure_ (i := 7) (N := some 56) (v := ?_) (a' := ?_) (rowB 13 191) rfl rfl (any_of HT_.out (by kernel_rfl)) (fun _ _ _ h => h) (Or.inl ⟨by rfl, ?_⟩) ?_ ?_; rotate_left; (· intro w'; go_simp; with_reducible rfl); rotate_left; (· simp only [Act.put, List.setIfInBounds_toArray, List.set_cons_zero, List.set_cons_succ, i64_w, i32_w]; rfl); refine pure_ (i := 8) (N := some 57) (v := ?_) (a' := ?_) (rowB 13 447) rfl rfl (any_of HT_.out (by kernel_rfl)) (fun _ _ _ h => h) (Or.inl ⟨by rfl, ?_⟩) ?_ ?_; rotate_left; (· intro w'; go_simp; with_reducible rfl); rotate_left; (· simp only [Act.put, List.setIfInBounds_toArray, List.set_cons_zero, List.set_cons_succ, i64_w, i32_w]; rfl); refine pure_ (i := 9) (N := some 58) (v := ?_) (a' := ?_) (rowB 13 959) rfl rfl (any_of HT_.out (by kernel_rfl)) (fun _ _ _ h => h) (Or.inl ⟨by rfl, ?_⟩) ?_ ?_; rotate_left; (· intro w'; go_simp; with_reducible rfl); rotate_left; (· simp only [Act.put, List.setIfInBounds_toArray, List.set_cons_zero, List.set_cons_succ, i64_w, i32_w]; rfl); refine take_ (i := 6) (N := some 55) (v := ?_) (a' := ?_) (rowB 13 1023) rfl rfl (take_ofW HT_.out HW_.out (by kernel_rfl)) (fun _ _ _ h => h) (Or.inl ⟨by rfl, ?_⟩) hHeld ?_ ?_; rotate_left; (· rintro w' ⟨s0, s1, s2⟩; go_simp; with_reducible rfl); rotate_left; (· simp only [Act.put, List.setIfInBounds_toArray, List.set_cons_zero, List.set_cons_succ, i64_w, i32_w]; rfl); refine take_ (i := 10) (N := some 59) (v := ?_) (a' := ?_) (rowB 13 2047) rfl rfl (take_ofW HT_.out HW_.out (by kernel_rfl)) (fun _ _ _ h => h) (Or.inl ⟨by rfl, ?_⟩) hHeld ?_ ?_; rotate_left; (· rintro w' ⟨s0, s1, s2⟩; go_simp; with_reducible rfl); rotate_left; (· simp only [Act.put, List.setIfInBounds_toArray, List.set_cons_zero, List.set_cons_succ, i64_w, i32_w]; rfl); refine pure_ (i := 11) (N := some 60) (v := ?_) (a' := ?_) (rowB 13 4095) rfl rfl (any_of HT_.out (by kernel_rfl)) (fun _ _ _ h => h) (Or.inl ⟨by rfl, ?_⟩) ?_ ?_; rotate_left; (· intro w'; go_simp; with_reducible rfl); rotate_left; (· simp only [Act.put, List.setIfInBounds_toArray, List.set_cons_zero, List.set_cons_succ, i64_w, i32_w]; rfl); refine pure_ (i := 12) (N := some 10) (v := ?_) (a' := ?_) (rowB 13 8191) rfl rfl (any_of HT_.out (by kernel_rfl)) (fun _ _ _ h => h) (Or.inl ⟨by rfl, ?_⟩) ?_ ?_; rotate_left; (· intro w'; go_simp; with_reducible rfl); rotate_left; (· simp only [Act.put, List.setIfInBounds_toArray, List.set_cons_zero, List.set_cons_succ, i64_w, i32_w]; rfl); refine done_ (done_of HT_.out (by kernel_rfl)) ?_; try go_wp2
                    have n0_ := Aside0.mk (Kd.R_drew HO_3.out); have n1_ := Aside0.mk (Kd.R_drew HO_4.out); have n2_ := Aside0.mk (Kd.R_drew HO299.out); have n3_ := Aside0.mk (below_drew1 HB.out); clear HO_3; clear HO_4; clear HO299; clear HB; have HO_3 := n0_; have HO_4 := n1_; have HO299 := n2_; have HB := n3_; clear n0_ n1_ n2_ n3_; obtain ⟨Ao71, co71, eo71⟩ := Kd.R_slice HO299.out; (first | subst eo71 | (injection eo71 with f1_ f2_ f3_; have f4_ := f1_.symm; have f5_ := f3_.symm; clear f1_ f2_ f3_; subst f4_; subst f5_))
                    have p305 : 0 ≤ (x7_2 : Int) := of_decide_eq_true (by first | (with_reducible assumption) | assumption); have q305 : x7_2 < (t280.length : Int) := of_decide_eq_true (by first | (with_reducible assumption) | assumption); obtain ⟨ad305, e305, hx305_0⟩ := Kd.at_int (Kd.R_reads' HO_4.out).2.2 x7_2 p305 q305; obtain rfl : ad295 = ad305 := (by injection e305)
                    try clear hx295_0
                    try clear hx295_1
                    replace p305 := eq_true p305; replace q305 := eq_true q305; have p306 : 0 ≤ ((ji48) : Int) := of_decide_eq_true (by first | (with_reducible assumption) | assumption); have q306 : (ji48) < (t280.length : Int) := of_decide_eq_true (by first | (with_reducible assumption) | assumption); obtain ⟨ad306, e306, hx306_0⟩ := Kd.at_int (Kd.R_reads' HO_4.out).2.2 (ji48) p306 q306; obtain rfl : ad295 = ad306 := (by injection e306)
                    try clear hx295_0
                    try clear hx295_1
                    replace p306 := eq_true p306; replace q306 := eq_true q306; refine start_ (n := 32) (S := fun w' => w'.cell? (ad295.add (x7_2).toNat) = some (.int .i64 (rd t280 x7_2)) ∧ w'.cell? (ad295.add ((ji48)).toNat) = some (.int .i64 (rd t280 (ji48)))) (ds := []) (rowB 32 0) (by kernel_rfl) rfl rfl ⟨hx305_0, hx306_0⟩ (fun hHeld => ?_); refine with_tabW laws_FnModeMoves.tab14 laws_FnModeMoves.bits14 (fun HT_ HW_ => ?_); generalize w69.drew = w70 at HO_3 HO_4 HO299 HB hx305_0 hx306_0 hHeld ⊢; refine pure_ (i := 0) (N := some 61) (v := ?_) (a' := ?_) (rowB 32 1) rfl rfl (any_of HT_.out (by kernel_rfl)) (fun _ _ _ h => h) (Or.inl ⟨by rfl, ?_⟩) ?_ ?_; rotate_left; (· intro w'; go_simp; with_reducible rfl); rotate_left; (· simp only [Act.put, List.setIfInBounds_toArray, List.set_cons_zero, List.set_cons_succ, i64_w, i32_w]; rfl); refine pure_ (i := 1) (N := some 62) (v := ?_) (a' := ?_) (rowB 32 3) rfl rfl (any_of HT_.out (by kernel_rfl)) (fun _ _ _ h => h) (Or.inl ⟨by rfl, ?_⟩) ?_ ?_; rotate_left; (· intro w'; go_simp; with_reducible rfl); rotate_left; (· simp only [Act.put, List.setIfInBounds_toArray, List.set_cons_zero, List.set_cons_succ, i64_w, i32_w]; rfl); refine pure_ (i := 2) (N := some 63) (v := ?_) (a' := ?_) (rowB 32 7) rfl rfl (any_of HT_.out (by kernel_rfl)) (fun _ _ _ h => h) (Or.inl ⟨by rfl, ?_⟩) ?_ ?_; rotate_left; (· intro w'; go_simp; with_reducible rfl); rotate_left; (· simp only [Act.put, List.setIfInBounds_toArray, List.set_cons_zero, List.set_cons_succ, i64_w, i32_w]; rfl); refine pure_ (i := 3) (N := some 64) (v := ?_) (a' := ?_) (rowB 32 15) rfl rfl (any_of HT_.out (by kernel_rfl)) (fun _ _ _ h => h) (Or.inl ⟨by rfl, ?_⟩) ?_ ?_; rotate_left; (· intro w'; go_simp; with_reducible rfl); rotate_left; (· simp only [Act.put, List.setIfInBounds_toArray, List.set_cons_zero, List.set_cons_succ, i64_w, i32_w]; rfl); refine pure_ (i := 4) (N := some 65) (v := ?_) (a' := ?_) (rowB 32 31) rfl rfl (any_of HT_.out (by kernel_rfl)) (fun _ _ _ h => h) (Or.inl ⟨by rfl, ?_⟩) ?_ ?_; rotate_left; (· intro w'; go_simp; with_reducible rfl); rotate_left; (· simp only [Act.put, List.setIfInBounds_toArray, List.set_cons_zero, List.set_cons_succ, i64_w, i32_w]; rfl); refine pure_ (i := 5) (N := some 66) (v := ?_) (a' := ?_) (rowB 32 63) rfl rfl (any_of HT_.out (by kernel_rfl)) (fun _ _ _ h => h) (Or.inl ⟨by rfl, ?_⟩) ?_ ?_; rotate_left; (· intro w'; go_simp; with_reducible rfl); rotate_left; (· simp only [Act.put, List.setIfInBounds_toArray, List.set_cons_zero, List.set_cons_succ, i64_w, i32_w]; rfl); refine pure_ (i := 6) (N := some 67) (v := ?_) (a' := ?_) (rowB 32 127) rfl rfl (any_of HT_.out (by kernel_rfl)) (fun _ _ _ h => h) (Or.inl ⟨by rfl, ?_⟩) ?_ ?_; rotate_left; (· intro w'; go_simp; with_reducible rfl); rotate_left; (· simp only [Act.put, List.setIfInBounds_toArray, List.set_cons_zero, List.set_cons_succ, i64_w, i32_w]; rfl); refine pure_ (i := 7) (N := some 68) (v := ?_) (a' := ?_) (rowB 32 255) rfl rfl (any_of HT_.out (by kernel_rfl)) (fun _ _ _ h => h) (Or.inl ⟨by rfl, ?_⟩) ?_ ?_; rotate_left; (· intro w'; go_simp; with_reducible rfl); rotate_left; (· simp only [Act.put, List.setIfInBounds_toArray, List.set_cons_zero, List.set_cons_succ, i64_w, i32_w]; rfl); refine pure_ (i := 8) (N := some 69) (v := ?_) (a' := ?_) (rowB 32 511) rfl rfl (any_of HT_.out (by kernel_rfl)) (fun _ _ _ h => h) (Or.inl ⟨by rfl, ?_⟩) ?_ ?_; rotate_left; (· intro w'; go_simp; with_reducible rfl); rotate_left; (· simp only [Act.put, List.setIfInBounds_toArray, List.set_cons_zero, List.set_cons_succ, i64_w, i32_w]; rfl); refine pure_ (i := 9) (N := some 70) (v := ?_) (a' := ?_) (rowB 32 1023) rfl rfl (any_of HT_.out (by kernel_rfl)) (fun _ _ _ h => h) (Or.inl ⟨by rfl, ?_⟩) ?_ ?_; rotate_left; (· intro w'; go_simp; with_reducible rfl); rotate_left; (· simp only [Act.put, List.setIfInBounds_toArray, List.set_cons_zero, List.set_cons_succ, i64_w, i32_w]; rfl); refine pure_ (i := 10) (N := some 71) (v := ?_) (a' := ?_) (rowB 32 2047) rfl rfl (any_of HT_.out (by kernel_rfl)) (fun _ _ _ h => h) (Or.inl ⟨by rfl, ?_⟩) ?_ ?_; rotate_left; (· intro w'; go_simp; with_reducible rfl); rotate_left; (· simp only [Act.put, List.setIfInBounds_toArray, List.set_cons_zero, List.set_cons_succ, i64_w, i32_w]; rfl); refine pure_ (i := 11) (N := some 72) (v := ?_) (a' := ?_) (rowB 32 4095) rfl rfl (any_of HT_.out (by kernel_rfl)) (fun _ _ _ h => h) (Or.inl ⟨by rfl, ?_⟩) ?_ ?_; rotate_left; (· intro w'; go_simp; with_reducible rfl); rotate_left; (· simp only [Act.put, List.setIfInBounds_toArray, List.set_cons_zero, List.set_cons_succ, i64_w, i32_w]; rfl); refine one_ (i := 12) (N := some 73) (rowB 32 8191) rfl rfl (one_of HT_.out (by kernel_rfl)) (by decide) (fun K hK => ?_); refine goes_ Tryd.func28 (by kernel_rfl) rfl #[.slice _ t296.length co71] (by rfl) rfl rfl (by (try simp only [List.map_toArray, List.map_cons, List.map_nil]); first | done | rfl | (simp only [List.length_drop, List.length_take]; rfl)) ?_; with_reducible refine (impl_ModeAll.calls _ _ t296 t302 _ ?side1 ?side2 A38.out (ht := HT.out.below (by repeat (first | (with_reducible first | exact HB.out | apply below_alloc | apply pw_below_drewN | apply below_drew1) | exact HB.out)))).mono ?_
                    (case side1 => repeat (first | exact (Kd.R_reads' HO299.out).2.2 | (with_reducible refine Kd.C_alloc ?_ _) | (with_reducible refine Kd.C_drewN ?_ _) | (with_reducible refine Kd.C_drew ?_)))
                    (case side2 => exact (Kd.R_reads' HO299.out).2.1)
                    rintro e w72 ⟨v303, rfl, ho0, hb⟩; have HS0_ := (hb.cell (World.block_lt_of_cell? _ _ (hHeld.1))).trans (hHeld.1); have HS1_ := (hb.cell (World.block_lt_of_cell? _ _ (hHeld.2))).trans (hHeld.2); refine ⟨_, rfl, ?_⟩; have n0_ := Aside0.mk (Kd.R_below (by (with_reducible repeat (first | apply Kd.R_alloc | apply Kd.R_drewN | apply Kd.R_drew)); exact HO_3.out) hb); have n1_ := Aside0.mk (Kd.R_elder' (by (with_reducible repeat (first | apply Kd.R_alloc | apply Kd.R_drewN | apply Kd.R_drew)); exact HO_4.out) (Kd.R_base ho0) hb); have n2_ := Aside0.mk (Kd.R_below (by (with_reducible repeat (first | apply Kd.R_alloc | apply Kd.R_drewN | apply Kd.R_drew)); exact HO299.out) hb); have n3_ := Aside0.mk (Kd.R_lower (Kd.R_new' ho0 (Kd.R_lt (by (with_reducible repeat (first | apply Kd.R_alloc | apply Kd.R_drewN | apply Kd.R_drew)); exact HO_4.out))) (below_size (by repeat (first | (with_reducible first | exact HB.out | apply below_alloc | apply pw_below_drewN | apply below_drew1) | exact HB.out)))); have n4_ := Aside0.mk (below_step (by repeat (first | (with_reducible first | exact HB.out | apply below_alloc | apply pw_below_drewN | apply below_drew1) | exact HB.out)) hb); clear HO_3; clear HO_4; clear HO299; clear HB; have HO_3 := n0_; have HO_4 := n1_; have HO299 := n2_; have HO304 := n3_; have HB := n4_; clear n0_ n1_ n2_ n3_ n4_; (try clear hb)
                    (try clear hb2)
                    (try clear hk)
                    (try clear hi)
                    (try clear ho0)
                    obtain ⟨Ao73, co73, eo73⟩ := Kd.R_slice HO304.out; (first | subst eo73 | (injection eo73 with f1_ f2_ f3_; have f4_ := f1_.symm; have f5_ := f3_.symm; clear f1_ f2_ f3_; subst f4_; subst f5_))
                    refine hK.out _ _ ⟨HS0_, HS1_⟩ (fun hHeld => ?_); clear hK K; refine norm_ (a' := ?_) ?_ ?_; rotate_left; (· show Act.put _ (some 73) _ = _; simp only [Act.put, List.setIfInBounds_toArray, List.set_cons_zero, List.set_cons_succ, i64_w, i32_w]; rfl); refine pure_ (i := 13) (N := some 74) (v := ?_) (a' := ?_) (rowB 32 16383) rfl rfl (any_of HT_.out (by kernel_rfl)) (fun _ _ _ h => h) (Or.inl ⟨by rfl, ?_⟩) ?_ ?_; rotate_left; (· intro w'; go_simp; with_reducible rfl); rotate_left; (· simp only [Act.put, List.setIfInBounds_toArray, List.set_cons_zero, List.set_cons_succ, i64_w, i32_w]; rfl); refine pure_ (i := 14) (N := some 75) (v := ?_) (a' := ?_) (rowB 32 32767) rfl rfl (any_of HT_.out (by kernel_rfl)) (fun _ _ _ h => h) (Or.inl ⟨by rfl, ?_⟩) ?_ ?_; rotate_left; (· intro w'; go_simp; with_reducible rfl); rotate_left; (· simp only [Act.put, List.setIfInBounds_toArray, List.set_cons_zero, List.set_cons_succ, i64_w, i32_w]; rfl); refine pure_ (i := 15) (N := some 76) (v := ?_) (a' := ?_) (rowB 32 65535) rfl rfl (any_of HT_.out (by kernel_rfl)) (fun _ _ _ h => h) (Or.inl ⟨by rfl, ?_⟩) ?_ ?_; rotate_left; (· intro w'; go_simp; with_reducible rfl); rotate_left; (· simp only [Act.put, List.setIfInBounds_toArray, List.set_cons_zero, List.set_cons_succ, i64_w, i32_w]; rfl); refine pure_ (i := 16) (N := some 77) (v := ?_) (a' := ?_) (rowB 32 131071) rfl rfl (any_of HT_.out (by kernel_rfl)) (fun _ _ _ h => h) (Or.inl ⟨by rfl, ?_⟩) ?_ ?_; rotate_left; (· intro w'; go_simp; with_reducible rfl); rotate_left; (· simp only [Act.put, List.setIfInBounds_toArray, List.set_cons_zero, List.set_cons_succ, i64_w, i32_w]; rfl); refine pure_ (i := 17) (N := some 78) (v := ?_) (a' := ?_) (rowB 32 262143) rfl rfl (any_of HT_.out (by kernel_rfl)) (fun _ _ _ h => h) (Or.inl ⟨by rfl, ?_⟩) ?_ ?_; rotate_left; (· intro w'; go_simp; with_reducible rfl); rotate_left; (· simp only [Act.put, List.setIfInBounds_toArray, List.set_cons_zero, List.set_cons_succ, i64_w, i32_w]; rfl); refine pure_ (i := 18) (N := some 79) (v := ?_) (a' := ?_) (rowB 32 524287) rfl rfl (any_of HT_.out (by kernel_rfl)) (fun _ _ _ h => h) (Or.inl ⟨by rfl, ?_⟩) ?_ ?_; rotate_left; (· intro w'; go_simp; with_reducible rfl); rotate_left; (· simp only [Act.put, List.setIfInBounds_toArray, List.set_cons_zero, List.set_cons_succ, i64_w, i32_w]; rfl); refine pure_ (i := 19) (N := some 80) (v := ?_) (a' := ?_) (rowB 32 1048575) rfl rfl (any_of HT_.out (by kernel_rfl)) (fun _ _ _ h => h) (Or.inl ⟨by rfl, ?_⟩) ?_ ?_; rotate_left; (· intro w'; go_simp; with_reducible rfl); rotate_left; (· simp only [Act.put, List.setIfInBounds_toArray, List.set_cons_zero, List.set_cons_succ, i64_w, i32_w]; rfl); refine pure_ (i := 20) (N := some 81) (v := ?_) (a' := ?_) (rowB 32 2097151) rfl rfl (any_of HT_.out (by kernel_rfl)) (fun _ _ _ h => h) (Or.inl ⟨by rfl, ?_⟩) ?_ ?_; rotate_left; (· intro w'; go_simp; with_reducible rfl); rotate_left; (· simp only [Act.put, List.setIfInBounds_toArray, List.set_cons_zero, List.set_cons_succ, i64_w, i32_w]; rfl); refine pure_ (i := 21) (N := some 82) (v := ?_) (a' := ?_) (rowB 32 4194303) rfl rfl (any_of HT_.out (by kernel_rfl)) (fun _ _ _ h => h) (Or.inl ⟨by rfl, ?_⟩) ?_ ?_; rotate_left; (· intro w'; go_simp; with_reducible rfl); rotate_left; (· simp only [Act.put, List.setIfInBounds_toArray, List.set_cons_zero, List.set_cons_succ, i64_w, i32_w]; rfl); refine pure_ (i := 22) (N := some 83) (v := ?_) (a' := ?_) (rowB 32 8388607) rfl rfl (any_of HT_.out (by kernel_rfl)) (fun _ _ _ h => h) (Or.inl ⟨by rfl, ?_⟩) ?_ ?_; rotate_left; (· intro w'; go_simp; with_reducible rfl); rotate_left; (· simp only [Act.put, List.setIfInBounds_toArray, List.set_cons_zero, List.set_cons_succ, i64_w, i32_w]; rfl); refine pure_ (i := 24) (N := some 85) (v := ?_) (a' := ?_) (rowB 32 25165823) rfl rfl (any_of HT_.out (by kernel_rfl)) (fun _ _ _ h => h) (Or.inl ⟨by rfl, ?_⟩) ?_ ?_; rotate_left; (· intro w'; go_simp; with_reducible rfl); rotate_left; (· simp only [Act.put, List.setIfInBounds_toArray, List.set_cons_zero, List.set_cons_succ, i64_w, i32_w]; rfl); refine pure_ (i := 25) (N := some 86) (v := ?_) (a' := ?_) (rowB 32 58720255) rfl rfl (any_of HT_.out (by kernel_rfl)) (fun _ _ _ h => h) (Or.inl ⟨by rfl, ?_⟩) ?_ ?_; rotate_left; (· intro w'; go_simp; with_reducible rfl); rotate_left; (· simp only [Act.put, List.setIfInBounds_toArray, List.set_cons_zero, List.set_cons_succ, i64_w, i32_w]; rfl); refine pure_ (i := 26) (N := some 87) (v := ?_) (a' := ?_) (rowB 32 125829119) rfl rfl (any_of HT_.out (by kernel_rfl)) (fun _ _ _ h => h) (Or.inl ⟨by rfl, ?_⟩) ?_ ?_; rotate_left; (· intro w'; go_simp; with_reducible rfl); rotate_left; (· simp only [Act.put, List.setIfInBounds_toArray, List.set_cons_zero, List.set_cons_succ, i64_w, i32_w]; rfl); refine pure_ (i := 27) (N := some 88) (v := ?_) (a' := ?_) (rowB 32 260046847) rfl rfl (any_of HT_.out (by kernel_rfl)) (fun _ _ _ h => h) (Or.inl ⟨by rfl, ?_⟩) ?_ ?_; rotate_left; (· intro w'; go_simp; with_reducible rfl); rotate_left; (· simp only [Act.put, List.setIfInBounds_toArray, List.set_cons_zero, List.set_cons_succ, i64_w, i32_w]; rfl); refine take_ (i := 23) (N := some 84) (v := ?_) (a' := ?_) (rowB 32 268435455) rfl rfl (take_ofW HT_.out HW_.out (by kernel_rfl)) (fun _ _ _ h => h) (Or.inl ⟨by rfl, ?_⟩) hHeld ?_ ?_; rotate_left; (· rintro w' ⟨s0, s1⟩; go_simp; with_reducible rfl); rotate_left; (· simp only [Act.put, List.setIfInBounds_toArray, List.set_cons_zero, List.set_cons_succ, i64_w, i32_w]; rfl); refine take_ (i := 28) (N := some 89) (v := ?_) (a' := ?_) (rowB 32 536870911) rfl rfl (take_ofW HT_.out HW_.out (by kernel_rfl)) (fun _ _ _ h => h) (Or.inl ⟨by rfl, ?_⟩) hHeld ?_ ?_; rotate_left; (· rintro w' ⟨s0, s1⟩; go_simp; with_reducible rfl); rotate_left; (· simp only [Act.put, List.setIfInBounds_toArray, List.set_cons_zero, List.set_cons_succ, i64_w, i32_w]; rfl); refine pure_ (i := 29) (N := some 90) (v := ?_) (a' := ?_) (rowB 32 1073741823) rfl rfl (any_of HT_.out (by kernel_rfl)) (fun _ _ _ h => h) (Or.inl ⟨by rfl, ?_⟩) ?_ ?_; rotate_left; (· intro w'; go_simp; with_reducible rfl); rotate_left; (· simp only [Act.put, List.setIfInBounds_toArray, List.set_cons_zero, List.set_cons_succ, i64_w, i32_w]; rfl); refine pure_ (i := 30) (N := some 91) (v := ?_) (a' := ?_) (rowB 32 2147483647) rfl rfl (any_of HT_.out (by kernel_rfl)) (fun _ _ _ h => h) (Or.inl ⟨by rfl, ?_⟩) ?_ ?_; rotate_left; (· intro w'; go_simp; with_reducible rfl); rotate_left; (· simp only [Act.put, List.setIfInBounds_toArray, List.set_cons_zero, List.set_cons_succ, i64_w, i32_w]; rfl); refine pure_ (i := 31) (N := some 92) (v := ?_) (a' := ?_) (rowB 32 4294967295) rfl rfl (any_of HT_.out (by kernel_rfl)) (fun _ _ _ h => h) (Or.inl ⟨by rfl, ?_⟩) ?_ ?_; rotate_left; (· intro w'; go_simp; with_reducible rfl); rotate_left; (· simp only [Act.put, List.setIfInBounds_toArray, List.set_cons_zero, List.set_cons_succ, i64_w, i32_w]; rfl); refine done_ (done_of HT_.out (by kernel_rfl)) ?_; have p307 : 0 ≤ (x7_2 : Int) := of_decide_eq_true (by first | (with_reducible assumption) | assumption); have q307 : x7_2 < (t280.length : Int) := of_decide_eq_true (by first | (with_reducible assumption) | assumption); obtain ⟨ad307, e307, hx307_0⟩ := Kd.at_int (Kd.R_reads' HO_4.out).2.2 x7_2 p307 q307; obtain rfl : ad295 = ad307 := (by injection e307)
                    try clear hx295_0
                    try clear hx295_1
                    replace p307 := eq_true p307; replace q307 := eq_true q307; try go_wp2
                    go_roundg k2
                    case measure => have := HJ5.out; have := HK2.out; omega
                    case rel => exact ⟨(((rd t280 x7_2) == 0)), (wrap64 (x7_2 + 1)), (by first | rfl | (simp; done) | (simp [*]; done)), (by first | rfl | (simp; done) | (simp [*]; done)), H', ⟨by have := HJ5.out; have := HK2.out; omega⟩, ⟨by (with_reducible repeat (first | apply Kd.R_alloc | apply Kd.R_drewN | apply Kd.R_drew)); exact Kd.R_mono HO_3.out (fun _ hk => trivial)⟩, ⟨by (with_reducible repeat (first | apply Kd.R_alloc | apply Kd.R_drewN | apply Kd.R_drew)); exact Kd.R_mono HO_4.out (fun _ hk => trivial)⟩, ⟨by repeat (first | (with_reducible first | exact HB.out | apply below_alloc | apply pw_below_drewN | apply below_drew1) | exact HB.out)⟩⟩
                 ·
                  rw [if_neg c50] at H; exact absurd H (by simp)
                ·
                 rw [if_neg c49] at H; exact absurd H (by simp)
               ·
                rw [if_neg c47] at H; have c47b0 : decide (0 < x7_2) = false := decide_eq_false c47; clear c47; by_cases c74 : x6_2 = true
                ·
                 subst c74; have H1 : (laws_FnModeMoves.l0 k2 t277 t280 true (wrap64 (x7_2 + 1))) = some r := by rw [if_pos rfl] at H; exact H
                 clear H; have H := H1; clear H1; have H' := Aside0.mk H; clear H; obtain ⟨Ao75, co75, eo75⟩ := Kd.R_slice HO_4.out; subst eo75; have p295 : 0 ≤ (x7_2 : Int) := of_decide_eq_true (by first | (with_reducible assumption) | assumption); have q295 : x7_2 < (t280.length : Int) := of_decide_eq_true (by first | (with_reducible assumption) | assumption); obtain ⟨ad295, e295, hx295_0⟩ := Kd.at_int (Kd.R_reads' HO_4.out).2.2 x7_2 p295 q295; cases e295; replace p295 := eq_true p295; replace q295 := eq_true q295; try go_wp2_with (first | ((with_reducible refine gate_callee (f := 21) rfl ?_); refine goesL_ (some 46) rfl rfl Tryd.func21 (by kernel_rfl) rfl #[.slice Ao8 t277.length co8, .int .i64 (rd t280 x7_2)] rfl (by (try simp only [List.map_toArray, List.map_cons, List.map_nil]); first | done | rfl | (simp only [List.length_drop, List.length_take]; rfl)) ?_; (with_reducible refine (impl_MelodyMove.calls _ _ t277 (rd t280 x7_2) t296 true _ ?side1 ?side2 A23.out (ht := HT.out.below (by repeat (first | (with_reducible first | exact HB.out | apply below_alloc | apply pw_below_drewN | apply below_drew1) | exact HB.out)))).mono ?_); (case side1 => repeat (first | exact (Kd.R_reads' HO_3.out).2.2 | (with_reducible refine Kd.C_alloc ?_ _) | (with_reducible refine Kd.C_drewN ?_ _) | (with_reducible refine Kd.C_drew ?_))); (case side2 => exact (Kd.R_reads' HO_3.out).2.1); rintro e w76 ⟨v298, rfl, ho0, hb⟩; refine ⟨_, rfl, ?_⟩; have n0_ := Aside0.mk (Kd.R_elder' (by (with_reducible repeat (first | apply Kd.R_alloc | apply Kd.R_drewN | apply Kd.R_drew)); exact HO_3.out) (Kd.R_base ho0) hb); have n1_ := Aside0.mk (Kd.R_below (by (with_reducible repeat (first | apply Kd.R_alloc | apply Kd.R_drewN | apply Kd.R_drew)); exact HO_4.out) hb); have n2_ := Aside0.mk (Kd.R_lower (Kd.R_new' ho0 (Kd.R_lt (by (with_reducible repeat (first | apply Kd.R_alloc | apply Kd.R_drewN | apply Kd.R_drew)); exact HO_3.out))) (below_size (by repeat (first | (with_reducible first | exact HB.out | apply below_alloc | apply pw_below_drewN | apply below_drew1) | exact HB.out)))); have n3_ := Aside0.mk (below_step (by repeat (first | (with_reducible first | exact HB.out | apply below_alloc | apply pw_below_drewN | apply below_drew1) | exact HB.out)) hb); clear HO_3; clear HO_4; clear HB; have HO_3 := n0_; have HO_4 := n1_; have HO299 := n2_; have HB := n3_; clear n0_ n1_ n2_ n3_; (try clear hb); (try clear hb2); (try clear hk); (try clear hi); (try clear ho0)))
                 have n0_ := Aside0.mk (Kd.R_drew HO_3.out); have n1_ := Aside0.mk (Kd.R_drew HO_4.out); have n2_ := Aside0.mk (Kd.R_drew HO299.out); have n3_ := Aside0.mk (below_drew1 HB.out); clear HO_3; clear HO_4; clear HO299; clear HB; have HO_3 := n0_; have HO_4 := n1_; have HO299 := n2_; have HB := n3_; clear n0_ n1_ n2_ n3_; have p300 : 0 ≤ ((ji24) : Int) := of_decide_eq_true (by first | (with_reducible assumption) | assumption); have q300 : (ji24) < (t277.length : Int) := of_decide_eq_true (by first | (with_reducible assumption) | assumption); obtain ⟨ad300, e300, hx300_0, hx300_1⟩ := at_T29 (Kd.R_reads' HO_3.out).2.2 (ji24) p300 q300; cases e300; replace p300 := eq_true p300; replace q300 := eq_true q300; have p301 : 0 ≤ (x7_2 : Int) := of_decide_eq_true (by first | (with_reducible assumption) | assumption); have q301 : x7_2 < (t280.length : Int) := of_decide_eq_true (by first | (with_reducible assumption) | assumption); obtain ⟨ad301, e301, hx301_0⟩ := Kd.at_int (Kd.R_reads' HO_4.out).2.2 x7_2 p301 q301; obtain rfl : ad295 = ad301 := (by injection e301)
                 try clear hx295_0
                 try clear hx295_1
                 replace p301 := eq_true p301; replace q301 := eq_true q301; refine start_ (n := 13) (S := fun w' => w'.cell? (ad300.add (((ji24)).toNat * 2)) = some (.int .i64 ((rd_T29 t277 (ji24)).f0)) ∧ w'.cell? ⟨(ad300.add (((ji24)).toNat * 2)).block, (ad300.add (((ji24)).toNat * 2)).off + 1, none⟩ = some (.bool ((rd_T29 t277 (ji24)).f1)) ∧ w'.cell? (ad295.add (x7_2).toNat) = some (.int .i64 (rd t280 x7_2))) (ds := []) (rowB 13 0) (by kernel_rfl) rfl rfl ⟨hx300_0, hx300_1, hx301_0⟩ (fun hHeld => ?_); refine with_tabW laws_FnModeMoves.tab13 laws_FnModeMoves.bits13 (fun HT_ HW_ => ?_); generalize w76.drew = w77 at HO_3 HO_4 HO299 HB hx300_0 hx300_1 hx301_0 hHeld ⊢; refine pure_ (i := 0) (N := some 49) (v := ?_) (a' := ?_) (rowB 13 1) rfl rfl (any_of HT_.out (by kernel_rfl)) (fun _ _ _ h => h) (Or.inl ⟨by rfl, ?_⟩) ?_ ?_; rotate_left; (· intro w'; go_simp; with_reducible rfl); rotate_left; (· simp only [Act.put, List.setIfInBounds_toArray, List.set_cons_zero, List.set_cons_succ, i64_w, i32_w]; rfl); refine pure_ (i := 1) (N := some 50) (v := ?_) (a' := ?_) (rowB 13 3) rfl rfl (any_of HT_.out (by kernel_rfl)) (fun _ _ _ h => h) (Or.inl ⟨by rfl, ?_⟩) ?_ ?_; rotate_left; (· intro w'; go_simp; with_reducible rfl); rotate_left; (· simp only [Act.put, List.setIfInBounds_toArray, List.set_cons_zero, List.set_cons_succ, i64_w, i32_w]; rfl); refine pure_ (i := 2) (N := some 51) (v := ?_) (a' := ?_) (rowB 13 7) rfl rfl (any_of HT_.out (by kernel_rfl)) (fun _ _ _ h => h) (Or.inl ⟨by rfl, ?_⟩) ?_ ?_; rotate_left; (· intro w'; go_simp; with_reducible rfl); rotate_left; (· simp only [Act.put, List.setIfInBounds_toArray, List.set_cons_zero, List.set_cons_succ, i64_w, i32_w]; rfl); refine pure_ (i := 3) (N := some 52) (v := ?_) (a' := ?_) (rowB 13 15) rfl rfl (any_of HT_.out (by kernel_rfl)) (fun _ _ _ h => h) (Or.inl ⟨by rfl, ?_⟩) ?_ ?_; rotate_left; (· intro w'; go_simp; with_reducible rfl); rotate_left; (· simp only [Act.put, List.setIfInBounds_toArray, List.set_cons_zero, List.set_cons_succ, i64_w, i32_w]; rfl); refine pure_ (i := 4) (N := some 53) (v := ?_) (a' := ?_) (rowB 13 31) rfl rfl (any_of HT_.out (by kernel_rfl)) (fun _ _ _ h => h) (Or.inl ⟨by rfl, ?_⟩) ?_ ?_; rotate_left; (· intro w'; go_simp; with_reducible rfl); rotate_left; (· simp only [Act.put, List.setIfInBounds_toArray, List.set_cons_zero, List.set_cons_succ, i64_w, i32_w]; rfl); refine pure_ (i := 5) (N := some 54) (v := ?_) (a' := ?_) (rowB 13 63) rfl rfl (any_of HT_.out (by kernel_rfl)) (fun _ _ _ h => h) (Or.inl ⟨by rfl, ?_⟩) ?_ ?_; rotate_left; (· intro w'; go_simp; with_reducible rfl); rotate_left; (· simp only [Act.put, List.setIfInBounds_toArray, List.set_cons_zero, List.set_cons_succ, i64_w, i32_w]; rfl); refine pure_ (i := 7) (N := some 56) (v := ?_) (a' := ?_) (rowB 13 191) rfl rfl (any_of HT_.out (by kernel_rfl)) (fun _ _ _ h => h) (Or.inl ⟨by rfl, ?_⟩) ?_ ?_; rotate_left; (· intro w'; go_simp; with_reducible rfl); rotate_left; (· simp only [Act.put, List.setIfInBounds_toArray, List.set_cons_zero, List.set_cons_succ, i64_w, i32_w]; rfl); refine pure_ (i := 8) (N := some 57) (v := ?_) (a' := ?_) (rowB 13 447) rfl rfl (any_of HT_.out (by kernel_rfl)) (fun _ _ _ h => h) (Or.inl ⟨by rfl, ?_⟩) ?_ ?_; rotate_left; (· intro w'; go_simp; with_reducible rfl); rotate_left; (· simp only [Act.put, List.setIfInBounds_toArray, List.set_cons_zero, List.set_cons_succ, i64_w, i32_w]; rfl); refine pure_ (i := 9) (N := some 58) (v := ?_) (a' := ?_) (rowB 13 959) rfl rfl (any_of HT_.out (by kernel_rfl)) (fun _ _ _ h => h) (Or.inl ⟨by rfl, ?_⟩) ?_ ?_; rotate_left; (· intro w'; go_simp; with_reducible rfl); rotate_left; (· simp only [Act.put, List.setIfInBounds_toArray, List.set_cons_zero, List.set_cons_succ, i64_w, i32_w]; rfl); refine take_ (i := 6) (N := some 55) (v := ?_) (a' := ?_) (rowB 13 1023) rfl rfl (take_ofW HT_.out HW_.out (by kernel_rfl)) (fun _ _ _ h => h) (Or.inl ⟨by rfl, ?_⟩) hHeld ?_ ?_; rotate_left; (· rintro w' ⟨s0, s1, s2⟩; go_simp; with_reducible rfl); rotate_left; (· simp only [Act.put, List.setIfInBounds_toArray, List.set_cons_zero, List.set_cons_succ, i64_w, i32_w]; rfl); refine take_ (i := 10) (N := some 59) (v := ?_) (a' := ?_) (rowB 13 2047) rfl rfl (take_ofW HT_.out HW_.out (by kernel_rfl)) (fun _ _ _ h => h) (Or.inl ⟨by rfl, ?_⟩) hHeld ?_ ?_; rotate_left; (· rintro w' ⟨s0, s1, s2⟩; go_simp; with_reducible rfl); rotate_left; (· simp only [Act.put, List.setIfInBounds_toArray, List.set_cons_zero, List.set_cons_succ, i64_w, i32_w]; rfl); refine pure_ (i := 11) (N := some 60) (v := ?_) (a' := ?_) (rowB 13 4095) rfl rfl (any_of HT_.out (by kernel_rfl)) (fun _ _ _ h => h) (Or.inl ⟨by rfl, ?_⟩) ?_ ?_; rotate_left; (· intro w'; go_simp; with_reducible rfl); rotate_left; (· simp only [Act.put, List.setIfInBounds_toArray, List.set_cons_zero, List.set_cons_succ, i64_w, i32_w]; rfl); refine pure_ (i := 12) (N := some 10) (v := ?_) (a' := ?_) (rowB 13 8191) rfl rfl (any_of HT_.out (by kernel_rfl)) (fun _ _ _ h => h) (Or.inl ⟨by rfl, ?_⟩) ?_ ?_; rotate_left; (· intro w'; go_simp; with_reducible rfl); rotate_left; (· simp only [Act.put, List.setIfInBounds_toArray, List.set_cons_zero, List.set_cons_succ, i64_w, i32_w]; rfl); refine done_ (done_of HT_.out (by kernel_rfl)) ?_; try go_wp2
                 have n0_ := Aside0.mk (Kd.R_drew HO_3.out); have n1_ := Aside0.mk (Kd.R_drew HO_4.out); have n2_ := Aside0.mk (Kd.R_drew HO299.out); have n3_ := Aside0.mk (below_drew1 HB.out); clear HO_3; clear HO_4; clear HO299; clear HB; have HO_3 := n0_; have HO_4 := n1_; have HO299 := n2_; have HB := n3_; clear n0_ n1_ n2_ n3_; obtain ⟨Ao79, co79, eo79⟩ := Kd.R_slice HO299.out; (first | subst eo79 | (injection eo79 with f1_ f2_ f3_; have f4_ := f1_.symm; have f5_ := f3_.symm; clear f1_ f2_ f3_; subst f4_; subst f5_))
                 refine start_ (n := 32) (S := fun w' => True) (ds := []) (rowB 32 0) (by kernel_rfl) rfl rfl trivial (fun hHeld => ?_); refine with_tabW laws_FnModeMoves.tab14 laws_FnModeMoves.bits14 (fun HT_ HW_ => ?_); generalize w77.drew = w78 at HO_3 HO_4 HO299 HB hHeld ⊢; refine pure_ (i := 0) (N := some 61) (v := ?_) (a' := ?_) (rowB 32 1) rfl rfl (any_of HT_.out (by kernel_rfl)) (fun _ _ _ h => h) (Or.inl ⟨by rfl, ?_⟩) ?_ ?_; rotate_left; (· intro w'; go_simp; with_reducible rfl); rotate_left; (· simp only [Act.put, List.setIfInBounds_toArray, List.set_cons_zero, List.set_cons_succ, i64_w, i32_w]; rfl); refine pure_ (i := 1) (N := some 62) (v := ?_) (a' := ?_) (rowB 32 3) rfl rfl (any_of HT_.out (by kernel_rfl)) (fun _ _ _ h => h) (Or.inl ⟨by rfl, ?_⟩) ?_ ?_; rotate_left; (· intro w'; go_simp; with_reducible rfl); rotate_left; (· simp only [Act.put, List.setIfInBounds_toArray, List.set_cons_zero, List.set_cons_succ, i64_w, i32_w]; rfl); refine pure_ (i := 2) (N := some 63) (v := ?_) (a' := ?_) (rowB 32 7) rfl rfl (any_of HT_.out (by kernel_rfl)) (fun _ _ _ h => h) (Or.inl ⟨by rfl, ?_⟩) ?_ ?_; rotate_left; (· intro w'; go_simp; with_reducible rfl); rotate_left; (· simp only [Act.put, List.setIfInBounds_toArray, List.set_cons_zero, List.set_cons_succ, i64_w, i32_w]; rfl); refine pure_ (i := 3) (N := some 64) (v := ?_) (a' := ?_) (rowB 32 15) rfl rfl (any_of HT_.out (by kernel_rfl)) (fun _ _ _ h => h) (Or.inl ⟨by rfl, ?_⟩) ?_ ?_; rotate_left; (· intro w'; go_simp; with_reducible rfl); rotate_left; (· simp only [Act.put, List.setIfInBounds_toArray, List.set_cons_zero, List.set_cons_succ, i64_w, i32_w]; rfl); refine pure_ (i := 4) (N := some 65) (v := ?_) (a' := ?_) (rowB 32 31) rfl rfl (any_of HT_.out (by kernel_rfl)) (fun _ _ _ h => h) (Or.inl ⟨by rfl, ?_⟩) ?_ ?_; rotate_left; (· intro w'; go_simp; with_reducible rfl); rotate_left; (· simp only [Act.put, List.setIfInBounds_toArray, List.set_cons_zero, List.set_cons_succ, i64_w, i32_w]; rfl); refine pure_ (i := 5) (N := some 66) (v := ?_) (a' := ?_) (rowB 32 63) rfl rfl (any_of HT_.out (by kernel_rfl)) (fun _ _ _ h => h) (Or.inl ⟨by rfl, ?_⟩) ?_ ?_; rotate_left; (· intro w'; go_simp; with_reducible rfl); rotate_left; (· simp only [Act.put, List.setIfInBounds_toArray, List.set_cons_zero, List.set_cons_succ, i64_w, i32_w]; rfl); refine pure_ (i := 6) (N := some 67) (v := ?_) (a' := ?_) (rowB 32 127) rfl rfl (any_of HT_.out (by kernel_rfl)) (fun _ _ _ h => h) (Or.inl ⟨by rfl, ?_⟩) ?_ ?_; rotate_left; (· intro w'; go_simp; with_reducible rfl); rotate_left; (· simp only [Act.put, List.setIfInBounds_toArray, List.set_cons_zero, List.set_cons_succ, i64_w, i32_w]; rfl); refine pure_ (i := 7) (N := some 68) (v := ?_) (a' := ?_) (rowB 32 255) rfl rfl (any_of HT_.out (by kernel_rfl)) (fun _ _ _ h => h) (Or.inl ⟨by rfl, ?_⟩) ?_ ?_; rotate_left; (· intro w'; go_simp; with_reducible rfl); rotate_left; (· simp only [Act.put, List.setIfInBounds_toArray, List.set_cons_zero, List.set_cons_succ, i64_w, i32_w]; rfl); refine pure_ (i := 8) (N := some 69) (v := ?_) (a' := ?_) (rowB 32 511) rfl rfl (any_of HT_.out (by kernel_rfl)) (fun _ _ _ h => h) (Or.inl ⟨by rfl, ?_⟩) ?_ ?_; rotate_left; (· intro w'; go_simp; with_reducible rfl); rotate_left; (· simp only [Act.put, List.setIfInBounds_toArray, List.set_cons_zero, List.set_cons_succ, i64_w, i32_w]; rfl); refine pure_ (i := 9) (N := some 70) (v := ?_) (a' := ?_) (rowB 32 1023) rfl rfl (any_of HT_.out (by kernel_rfl)) (fun _ _ _ h => h) (Or.inl ⟨by rfl, ?_⟩) ?_ ?_; rotate_left; (· intro w'; go_simp; with_reducible rfl); rotate_left; (· simp only [Act.put, List.setIfInBounds_toArray, List.set_cons_zero, List.set_cons_succ, i64_w, i32_w]; rfl); refine pure_ (i := 10) (N := some 71) (v := ?_) (a' := ?_) (rowB 32 2047) rfl rfl (any_of HT_.out (by kernel_rfl)) (fun _ _ _ h => h) (Or.inl ⟨by rfl, ?_⟩) ?_ ?_; rotate_left; (· intro w'; go_simp; with_reducible rfl); rotate_left; (· simp only [Act.put, List.setIfInBounds_toArray, List.set_cons_zero, List.set_cons_succ, i64_w, i32_w]; rfl); refine pure_ (i := 11) (N := some 72) (v := ?_) (a' := ?_) (rowB 32 4095) rfl rfl (any_of HT_.out (by kernel_rfl)) (fun _ _ _ h => h) (Or.inl ⟨by rfl, ?_⟩) ?_ ?_; rotate_left; (· intro w'; go_simp; with_reducible rfl); rotate_left; (· simp only [Act.put, List.setIfInBounds_toArray, List.set_cons_zero, List.set_cons_succ, i64_w, i32_w]; rfl); refine one_ (i := 12) (N := some 73) (rowB 32 8191) rfl rfl (one_of HT_.out (by kernel_rfl)) (by decide) (fun K hK => ?_); refine goes_ Tryd.func28 (by kernel_rfl) rfl #[.slice _ t296.length co79] (by rfl) rfl rfl (by (try simp only [List.map_toArray, List.map_cons, List.map_nil]); first | done | rfl | (simp only [List.length_drop, List.length_take]; rfl)) ?_; with_reducible refine (impl_ModeAll.calls _ _ t296 t302 _ ?side1 ?side2 A38.out (ht := HT.out.below (by repeat (first | (with_reducible first | exact HB.out | apply below_alloc | apply pw_below_drewN | apply below_drew1) | exact HB.out)))).mono ?_
                 (case side1 => repeat (first | exact (Kd.R_reads' HO299.out).2.2 | (with_reducible refine Kd.C_alloc ?_ _) | (with_reducible refine Kd.C_drewN ?_ _) | (with_reducible refine Kd.C_drew ?_)))
                 (case side2 => exact (Kd.R_reads' HO299.out).2.1)
                 rintro e w80 ⟨v303, rfl, ho0, hb⟩; refine ⟨_, rfl, ?_⟩; have n0_ := Aside0.mk (Kd.R_below (by (with_reducible repeat (first | apply Kd.R_alloc | apply Kd.R_drewN | apply Kd.R_drew)); exact HO_3.out) hb); have n1_ := Aside0.mk (Kd.R_elder' (by (with_reducible repeat (first | apply Kd.R_alloc | apply Kd.R_drewN | apply Kd.R_drew)); exact HO_4.out) (Kd.R_base ho0) hb); have n2_ := Aside0.mk (Kd.R_below (by (with_reducible repeat (first | apply Kd.R_alloc | apply Kd.R_drewN | apply Kd.R_drew)); exact HO299.out) hb); have n3_ := Aside0.mk (Kd.R_lower (Kd.R_new' ho0 (Kd.R_lt (by (with_reducible repeat (first | apply Kd.R_alloc | apply Kd.R_drewN | apply Kd.R_drew)); exact HO_4.out))) (below_size (by repeat (first | (with_reducible first | exact HB.out | apply below_alloc | apply pw_below_drewN | apply below_drew1) | exact HB.out)))); have n4_ := Aside0.mk (below_step (by repeat (first | (with_reducible first | exact HB.out | apply below_alloc | apply pw_below_drewN | apply below_drew1) | exact HB.out)) hb); clear HO_3; clear HO_4; clear HO299; clear HB; have HO_3 := n0_; have HO_4 := n1_; have HO299 := n2_; have HO304 := n3_; have HB := n4_; clear n0_ n1_ n2_ n3_ n4_; (try clear hb)
                 (try clear hb2)
                 (try clear hk)
                 (try clear hi)
                 (try clear ho0)
                 obtain ⟨Ao81, co81, eo81⟩ := Kd.R_slice HO304.out; (first | subst eo81 | (injection eo81 with f1_ f2_ f3_; have f4_ := f1_.symm; have f5_ := f3_.symm; clear f1_ f2_ f3_; subst f4_; subst f5_))
                 refine hK.out _ _ trivial (fun hHeld => ?_); clear hK K; refine norm_ (a' := ?_) ?_ ?_; rotate_left; (· show Act.put _ (some 73) _ = _; simp only [Act.put, List.setIfInBounds_toArray, List.set_cons_zero, List.set_cons_succ, i64_w, i32_w]; rfl); refine pure_ (i := 13) (N := some 74) (v := ?_) (a' := ?_) (rowB 32 16383) rfl rfl (any_of HT_.out (by kernel_rfl)) (fun _ _ _ h => h) (Or.inl ⟨by rfl, ?_⟩) ?_ ?_; rotate_left; (· intro w'; go_simp; with_reducible rfl); rotate_left; (· simp only [Act.put, List.setIfInBounds_toArray, List.set_cons_zero, List.set_cons_succ, i64_w, i32_w]; rfl); refine pure_ (i := 14) (N := some 75) (v := ?_) (a' := ?_) (rowB 32 32767) rfl rfl (any_of HT_.out (by kernel_rfl)) (fun _ _ _ h => h) (Or.inl ⟨by rfl, ?_⟩) ?_ ?_; rotate_left; (· intro w'; go_simp; with_reducible rfl); rotate_left; (· simp only [Act.put, List.setIfInBounds_toArray, List.set_cons_zero, List.set_cons_succ, i64_w, i32_w]; rfl); refine pure_ (i := 15) (N := some 76) (v := ?_) (a' := ?_) (rowB 32 65535) rfl rfl (any_of HT_.out (by kernel_rfl)) (fun _ _ _ h => h) (Or.inl ⟨by rfl, ?_⟩) ?_ ?_; rotate_left; (· intro w'; go_simp; with_reducible rfl); rotate_left; (· simp only [Act.put, List.setIfInBounds_toArray, List.set_cons_zero, List.set_cons_succ, i64_w, i32_w]; rfl); refine pure_ (i := 16) (N := some 77) (v := ?_) (a' := ?_) (rowB 32 131071) rfl rfl (any_of HT_.out (by kernel_rfl)) (fun _ _ _ h => h) (Or.inl ⟨by rfl, ?_⟩) ?_ ?_; rotate_left; (· intro w'; go_simp; with_reducible rfl); rotate_left; (· simp only [Act.put, List.setIfInBounds_toArray, List.set_cons_zero, List.set_cons_succ, i64_w, i32_w]; rfl); refine pure_ (i := 17) (N := some 78) (v := ?_) (a' := ?_) (rowB 32 262143) rfl rfl (any_of HT_.out (by kernel_rfl)) (fun _ _ _ h => h) (Or.inl ⟨by rfl, ?_⟩) ?_ ?_; rotate_left; (· intro w'; go_simp; with_reducible rfl); rotate_left; (· simp only [Act.put, List.setIfInBounds_toArray, List.set_cons_zero, List.set_cons_succ, i64_w, i32_w]; rfl); refine pure_ (i := 18) (N := some 79) (v := ?_) (a' := ?_) (rowB 32 524287) rfl rfl (any_of HT_.out (by kernel_rfl)) (fun _ _ _ h => h) (Or.inl ⟨by rfl, ?_⟩) ?_ ?_; rotate_left; (· intro w'; go_simp; with_reducible rfl); rotate_left; (· simp only [Act.put, List.setIfInBounds_toArray, List.set_cons_zero, List.set_cons_succ, i64_w, i32_w]; rfl); refine pure_ (i := 19) (N := some 80) (v := ?_) (a' := ?_) (rowB 32 1048575) rfl rfl (any_of HT_.out (by kernel_rfl)) (fun _ _ _ h => h) (Or.inl ⟨by rfl, ?_⟩) ?_ ?_; rotate_left; (· intro w'; go_simp; with_reducible rfl); rotate_left; (· simp only [Act.put, List.setIfInBounds_toArray, List.set_cons_zero, List.set_cons_succ, i64_w, i32_w]; rfl); refine pure_ (i := 20) (N := some 81) (v := undef) (a' := ?_) (rowB 32 2097151) rfl rfl (any_of HT_.out (by kernel_rfl)) (fun _ _ _ h => h) (Or.inr ⟨by rfl, rfl⟩) ?_ ?_; rotate_left; (· simp only [Act.put, List.setIfInBounds_toArray, List.set_cons_zero, List.set_cons_succ, i64_w, i32_w]; rfl); refine pure_ (i := 21) (N := some 82) (v := undef) (a' := ?_) (rowB 32 4194303) rfl rfl (any_of HT_.out (by kernel_rfl)) (fun _ _ _ h => h) (Or.inr ⟨by rfl, rfl⟩) ?_ ?_; rotate_left; (· simp only [Act.put, List.setIfInBounds_toArray, List.set_cons_zero, List.set_cons_succ, i64_w, i32_w]; rfl); refine pure_ (i := 22) (N := some 83) (v := undef) (a' := ?_) (rowB 32 8388607) rfl rfl (any_of HT_.out (by kernel_rfl)) (fun _ _ _ h => h) (Or.inr ⟨by rfl, rfl⟩) ?_ ?_; rotate_left; (· simp only [Act.put, List.setIfInBounds_toArray, List.set_cons_zero, List.set_cons_succ, i64_w, i32_w]; rfl); refine pure_ (i := 23) (N := some 84) (v := undef) (a' := ?_) (rowB 32 16777215) rfl rfl (any_of HT_.out (by kernel_rfl)) (fun _ _ _ h => h) (Or.inr ⟨by rfl, rfl⟩) ?_ ?_; rotate_left; (· simp only [Act.put, List.setIfInBounds_toArray, List.set_cons_zero, List.set_cons_succ, i64_w, i32_w]; rfl); refine pure_ (i := 24) (N := some 85) (v := undef) (a' := ?_) (rowB 32 33554431) rfl rfl (any_of HT_.out (by kernel_rfl)) (fun _ _ _ h => h) (Or.inr ⟨by rfl, rfl⟩) ?_ ?_; rotate_left; (· simp only [Act.put, List.setIfInBounds_toArray, List.set_cons_zero, List.set_cons_succ, i64_w, i32_w]; rfl); refine pure_ (i := 25) (N := some 86) (v := undef) (a' := ?_) (rowB 32 67108863) rfl rfl (any_of HT_.out (by kernel_rfl)) (fun _ _ _ h => h) (Or.inr ⟨by rfl, rfl⟩) ?_ ?_; rotate_left; (· simp only [Act.put, List.setIfInBounds_toArray, List.set_cons_zero, List.set_cons_succ, i64_w, i32_w]; rfl); refine pure_ (i := 26) (N := some 87) (v := undef) (a' := ?_) (rowB 32 134217727) rfl rfl (any_of HT_.out (by kernel_rfl)) (fun _ _ _ h => h) (Or.inr ⟨by rfl, rfl⟩) ?_ ?_; rotate_left; (· simp only [Act.put, List.setIfInBounds_toArray, List.set_cons_zero, List.set_cons_succ, i64_w, i32_w]; rfl); refine pure_ (i := 27) (N := some 88) (v := undef) (a' := ?_) (rowB 32 268435455) rfl rfl (any_of HT_.out (by kernel_rfl)) (fun _ _ _ h => h) (Or.inr ⟨by rfl, rfl⟩) ?_ ?_; rotate_left; (· simp only [Act.put, List.setIfInBounds_toArray, List.set_cons_zero, List.set_cons_succ, i64_w, i32_w]; rfl); refine pure_ (i := 28) (N := some 89) (v := undef) (a' := ?_) (rowB 32 536870911) rfl rfl (any_of HT_.out (by kernel_rfl)) (fun _ _ _ h => h) (Or.inr ⟨by rfl, rfl⟩) ?_ ?_; rotate_left; (· simp only [Act.put, List.setIfInBounds_toArray, List.set_cons_zero, List.set_cons_succ, i64_w, i32_w]; rfl); refine pure_ (i := 29) (N := some 90) (v := undef) (a' := ?_) (rowB 32 1073741823) rfl rfl (any_of HT_.out (by kernel_rfl)) (fun _ _ _ h => h) (Or.inr ⟨by rfl, rfl⟩) ?_ ?_; rotate_left; (· simp only [Act.put, List.setIfInBounds_toArray, List.set_cons_zero, List.set_cons_succ, i64_w, i32_w]; rfl); refine pure_ (i := 30) (N := some 91) (v := ?_) (a' := ?_) (rowB 32 2147483647) rfl rfl (any_of HT_.out (by kernel_rfl)) (fun _ _ _ h => h) (Or.inl ⟨by rfl, ?_⟩) ?_ ?_; rotate_left; (· intro w'; go_simp; with_reducible rfl); rotate_left; (· simp only [Act.put, List.setIfInBounds_toArray, List.set_cons_zero, List.set_cons_succ, i64_w, i32_w]; rfl); refine pure_ (i := 31) (N := some 92) (v := ?_) (a' := ?_) (rowB 32 4294967295) rfl rfl (any_of HT_.out (by kernel_rfl)) (fun _ _ _ h => h) (Or.inl ⟨by rfl, ?_⟩) ?_ ?_; rotate_left; (· intro w'; go_simp; with_reducible rfl); rotate_left; (· simp only [Act.put, List.setIfInBounds_toArray, List.set_cons_zero, List.set_cons_succ, i64_w, i32_w]; rfl); refine done_ (done_of HT_.out (by kernel_rfl)) ?_; try go_wp2
                 go_roundg k2
                 case measure => have := HJ5.out; have := HK2.out; omega
                 case rel => exact ⟨(true), (wrap64 (x7_2 + 1)), (by first | rfl | (simp; done) | (simp [*]; done)), (by first | rfl | (simp; done) | (simp [*]; done)), H', ⟨by have := HJ5.out; have := HK2.out; omega⟩, ⟨by (with_reducible repeat (first | apply Kd.R_alloc | apply Kd.R_drewN | apply Kd.R_drew)); exact Kd.R_mono HO_3.out (fun _ hk => trivial)⟩, ⟨by (with_reducible repeat (first | apply Kd.R_alloc | apply Kd.R_drewN | apply Kd.R_drew)); exact Kd.R_mono HO_4.out (fun _ hk => trivial)⟩, ⟨by repeat (first | (with_reducible first | exact HB.out | apply below_alloc | apply pw_below_drewN | apply below_drew1) | exact HB.out)⟩⟩
                ·
                 replace c74 := Bool.eq_false_iff.mpr c74; subst c74; have H1 : (laws_FnModeMoves.l0 k2 t277 t280 ((rd t280 x7_2) == 0) (wrap64 (x7_2 + 1))) = some r := by rw [if_neg (show ¬ (false = true) by decide)] at H; exact H
                 clear H; have H := H1; clear H1; have H' := Aside0.mk H; clear H; obtain ⟨Ao82, co82, eo82⟩ := Kd.R_slice HO_4.out; subst eo82; have p295 : 0 ≤ (x7_2 : Int) := of_decide_eq_true (by first | (with_reducible assumption) | assumption); have q295 : x7_2 < (t280.length : Int) := of_decide_eq_true (by first | (with_reducible assumption) | assumption); obtain ⟨ad295, e295, hx295_0⟩ := Kd.at_int (Kd.R_reads' HO_4.out).2.2 x7_2 p295 q295; cases e295; replace p295 := eq_true p295; replace q295 := eq_true q295; try go_wp2_with (first | ((with_reducible refine gate_callee (f := 21) rfl ?_); refine goesL_ (some 46) rfl rfl Tryd.func21 (by kernel_rfl) rfl #[.slice Ao8 t277.length co8, .int .i64 (rd t280 x7_2)] rfl (by (try simp only [List.map_toArray, List.map_cons, List.map_nil]); first | done | rfl | (simp only [List.length_drop, List.length_take]; rfl)) ?_; (with_reducible refine (impl_MelodyMove.calls _ _ t277 (rd t280 x7_2) t296 true _ ?side1 ?side2 A23.out (ht := HT.out.below (by repeat (first | (with_reducible first | exact HB.out | apply below_alloc | apply pw_below_drewN | apply below_drew1) | exact HB.out)))).mono ?_); (case side1 => repeat (first | exact (Kd.R_reads' HO_3.out).2.2 | (with_reducible refine Kd.C_alloc ?_ _) | (with_reducible refine Kd.C_drewN ?_ _) | (with_reducible refine Kd.C_drew ?_))); (case side2 => exact (Kd.R_reads' HO_3.out).2.1); rintro e w83 ⟨v298, rfl, ho0, hb⟩; refine ⟨_, rfl, ?_⟩; have n0_ := Aside0.mk (Kd.R_elder' (by (with_reducible repeat (first | apply Kd.R_alloc | apply Kd.R_drewN | apply Kd.R_drew)); exact HO_3.out) (Kd.R_base ho0) hb); have n1_ := Aside0.mk (Kd.R_below (by (with_reducible repeat (first | apply Kd.R_alloc | apply Kd.R_drewN | apply Kd.R_drew)); exact HO_4.out) hb); have n2_ := Aside0.mk (Kd.R_lower (Kd.R_new' ho0 (Kd.R_lt (by (with_reducible repeat (first | apply Kd.R_alloc | apply Kd.R_drewN | apply Kd.R_drew)); exact HO_3.out))) (below_size (by repeat (first | (with_reducible first | exact HB.out | apply below_alloc | apply pw_below_drewN | apply below_drew1) | exact HB.out)))); have n3_ := Aside0.mk (below_step (by repeat (first | (with_reducible first | exact HB.out | apply below_alloc | apply pw_below_drewN | apply below_drew1) | exact HB.out)) hb); clear HO_3; clear HO_4; clear HB; have HO_3 := n0_; have HO_4 := n1_; have HO299 := n2_; have HB := n3_; clear n0_ n1_ n2_ n3_; (try clear hb); (try clear hb2); (try clear hk); (try clear hi); (try clear ho0)))
                 have n0_ := Aside0.mk (Kd.R_drew HO_3.out); have n1_ := Aside0.mk (Kd.R_drew HO_4.out); have n2_ := Aside0.mk (Kd.R_drew HO299.out); have n3_ := Aside0.mk (below_drew1 HB.out); clear HO_3; clear HO_4; clear HO299; clear HB; have HO_3 := n0_; have HO_4 := n1_; have HO299 := n2_; have HB := n3_; clear n0_ n1_ n2_ n3_; have p300 : 0 ≤ ((ji24) : Int) := of_decide_eq_true (by first | (with_reducible assumption) | assumption); have q300 : (ji24) < (t277.length : Int) := of_decide_eq_true (by first | (with_reducible assumption) | assumption); obtain ⟨ad300, e300, hx300_0, hx300_1⟩ := at_T29 (Kd.R_reads' HO_3.out).2.2 (ji24) p300 q300; cases e300; replace p300 := eq_true p300; replace q300 := eq_true q300; have p301 : 0 ≤ (x7_2 : Int) := of_decide_eq_true (by first | (with_reducible assumption) | assumption); have q301 : x7_2 < (t280.length : Int) := of_decide_eq_true (by first | (with_reducible assumption) | assumption); obtain ⟨ad301, e301, hx301_0⟩ := Kd.at_int (Kd.R_reads' HO_4.out).2.2 x7_2 p301 q301; obtain rfl : ad295 = ad301 := (by injection e301)
                 try clear hx295_0
                 try clear hx295_1
                 replace p301 := eq_true p301; replace q301 := eq_true q301; refine start_ (n := 13) (S := fun w' => w'.cell? (ad300.add (((ji24)).toNat * 2)) = some (.int .i64 ((rd_T29 t277 (ji24)).f0)) ∧ w'.cell? ⟨(ad300.add (((ji24)).toNat * 2)).block, (ad300.add (((ji24)).toNat * 2)).off + 1, none⟩ = some (.bool ((rd_T29 t277 (ji24)).f1)) ∧ w'.cell? (ad295.add (x7_2).toNat) = some (.int .i64 (rd t280 x7_2))) (ds := []) (rowB 13 0) (by kernel_rfl) rfl rfl ⟨hx300_0, hx300_1, hx301_0⟩ (fun hHeld => ?_); refine with_tabW laws_FnModeMoves.tab13 laws_FnModeMoves.bits13 (fun HT_ HW_ => ?_); generalize w83.drew = w84 at HO_3 HO_4 HO299 HB hx300_0 hx300_1 hx301_0 hHeld ⊢; refine pure_ (i := 0) (N := some 49) (v := ?_) (a' := ?_) (rowB 13 1) rfl rfl (any_of HT_.out (by kernel_rfl)) (fun _ _ _ h => h) (Or.inl ⟨by rfl, ?_⟩) ?_ ?_; rotate_left; (· intro w'; go_simp; with_reducible rfl); rotate_left; (· simp only [Act.put, List.setIfInBounds_toArray, List.set_cons_zero, List.set_cons_succ, i64_w, i32_w]; rfl); refine pure_ (i := 1) (N := some 50) (v := ?_) (a' := ?_) (rowB 13 3) rfl rfl (any_of HT_.out (by kernel_rfl)) (fun _ _ _ h => h) (Or.inl ⟨by rfl, ?_⟩) ?_ ?_; rotate_left; (· intro w'; go_simp; with_reducible rfl); rotate_left; (· simp only [Act.put, List.setIfInBounds_toArray, List.set_cons_zero, List.set_cons_succ, i64_w, i32_w]; rfl); refine pure_ (i := 2) (N := some 51) (v := ?_) (a' := ?_) (rowB 13 7) rfl rfl (any_of HT_.out (by kernel_rfl)) (fun _ _ _ h => h) (Or.inl ⟨by rfl, ?_⟩) ?_ ?_; rotate_left; (· intro w'; go_simp; with_reducible rfl); rotate_left; (· simp only [Act.put, List.setIfInBounds_toArray, List.set_cons_zero, List.set_cons_succ, i64_w, i32_w]; rfl); refine pure_ (i := 3) (N := some 52) (v := ?_) (a' := ?_) (rowB 13 15) rfl rfl (any_of HT_.out (by kernel_rfl)) (fun _ _ _ h => h) (Or.inl ⟨by rfl, ?_⟩) ?_ ?_; rotate_left; (· intro w'; go_simp; with_reducible rfl); rotate_left; (· simp only [Act.put, List.setIfInBounds_toArray, List.set_cons_zero, List.set_cons_succ, i64_w, i32_w]; rfl); refine pure_ (i := 4) (N := some 53) (v := ?_) (a' := ?_) (rowB 13 31) rfl rfl (any_of HT_.out (by kernel_rfl)) (fun _ _ _ h => h) (Or.inl ⟨by rfl, ?_⟩) ?_ ?_; rotate_left; (· intro w'; go_simp; with_reducible rfl); rotate_left; (· simp only [Act.put, List.setIfInBounds_toArray, List.set_cons_zero, List.set_cons_succ, i64_w, i32_w]; rfl); refine pure_ (i := 5) (N := some 54) (v := ?_) (a' := ?_) (rowB 13 63) rfl rfl (any_of HT_.out (by kernel_rfl)) (fun _ _ _ h => h) (Or.inl ⟨by rfl, ?_⟩) ?_ ?_; rotate_left; (· intro w'; go_simp; with_reducible rfl); rotate_left; (· simp only [Act.put, List.setIfInBounds_toArray, List.set_cons_zero, List.set_cons_succ, i64_w, i32_w]; rfl); refine pure_ (i := 7) (N := some 56) (v := ?_) (a' := ?_) (rowB 13 191) rfl rfl (any_of HT_.out (by kernel_rfl)) (fun _ _ _ h => h) (Or.inl ⟨by rfl, ?_⟩) ?_ ?_; rotate_left; (· intro w'; go_simp; with_reducible rfl); rotate_left; (· simp only [Act.put, List.setIfInBounds_toArray, List.set_cons_zero, List.set_cons_succ, i64_w, i32_w]; rfl); refine pure_ (i := 8) (N := some 57) (v := ?_) (a' := ?_) (rowB 13 447) rfl rfl (any_of HT_.out (by kernel_rfl)) (fun _ _ _ h => h) (Or.inl ⟨by rfl, ?_⟩) ?_ ?_; rotate_left; (· intro w'; go_simp; with_reducible rfl); rotate_left; (· simp only [Act.put, List.setIfInBounds_toArray, List.set_cons_zero, List.set_cons_succ, i64_w, i32_w]; rfl); refine pure_ (i := 9) (N := some 58) (v := ?_) (a' := ?_) (rowB 13 959) rfl rfl (any_of HT_.out (by kernel_rfl)) (fun _ _ _ h => h) (Or.inl ⟨by rfl, ?_⟩) ?_ ?_; rotate_left; (· intro w'; go_simp; with_reducible rfl); rotate_left; (· simp only [Act.put, List.setIfInBounds_toArray, List.set_cons_zero, List.set_cons_succ, i64_w, i32_w]; rfl); refine take_ (i := 6) (N := some 55) (v := ?_) (a' := ?_) (rowB 13 1023) rfl rfl (take_ofW HT_.out HW_.out (by kernel_rfl)) (fun _ _ _ h => h) (Or.inl ⟨by rfl, ?_⟩) hHeld ?_ ?_; rotate_left; (· rintro w' ⟨s0, s1, s2⟩; go_simp; with_reducible rfl); rotate_left; (· simp only [Act.put, List.setIfInBounds_toArray, List.set_cons_zero, List.set_cons_succ, i64_w, i32_w]; rfl); refine take_ (i := 10) (N := some 59) (v := ?_) (a' := ?_) (rowB 13 2047) rfl rfl (take_ofW HT_.out HW_.out (by kernel_rfl)) (fun _ _ _ h => h) (Or.inl ⟨by rfl, ?_⟩) hHeld ?_ ?_; rotate_left; (· rintro w' ⟨s0, s1, s2⟩; go_simp; with_reducible rfl); rotate_left; (· simp only [Act.put, List.setIfInBounds_toArray, List.set_cons_zero, List.set_cons_succ, i64_w, i32_w]; rfl); refine pure_ (i := 11) (N := some 60) (v := ?_) (a' := ?_) (rowB 13 4095) rfl rfl (any_of HT_.out (by kernel_rfl)) (fun _ _ _ h => h) (Or.inl ⟨by rfl, ?_⟩) ?_ ?_; rotate_left; (· intro w'; go_simp; with_reducible rfl); rotate_left; (· simp only [Act.put, List.setIfInBounds_toArray, List.set_cons_zero, List.set_cons_succ, i64_w, i32_w]; rfl); refine pure_ (i := 12) (N := some 10) (v := ?_) (a' := ?_) (rowB 13 8191) rfl rfl (any_of HT_.out (by kernel_rfl)) (fun _ _ _ h => h) (Or.inl ⟨by rfl, ?_⟩) ?_ ?_; rotate_left; (· intro w'; go_simp; with_reducible rfl); rotate_left; (· simp only [Act.put, List.setIfInBounds_toArray, List.set_cons_zero, List.set_cons_succ, i64_w, i32_w]; rfl); refine done_ (done_of HT_.out (by kernel_rfl)) ?_; try go_wp2
                 have n0_ := Aside0.mk (Kd.R_drew HO_3.out); have n1_ := Aside0.mk (Kd.R_drew HO_4.out); have n2_ := Aside0.mk (Kd.R_drew HO299.out); have n3_ := Aside0.mk (below_drew1 HB.out); clear HO_3; clear HO_4; clear HO299; clear HB; have HO_3 := n0_; have HO_4 := n1_; have HO299 := n2_; have HB := n3_; clear n0_ n1_ n2_ n3_; obtain ⟨Ao86, co86, eo86⟩ := Kd.R_slice HO299.out; (first | subst eo86 | (injection eo86 with f1_ f2_ f3_; have f4_ := f1_.symm; have f5_ := f3_.symm; clear f1_ f2_ f3_; subst f4_; subst f5_))
                 refine start_ (n := 32) (S := fun w' => True) (ds := []) (rowB 32 0) (by kernel_rfl) rfl rfl trivial (fun hHeld => ?_); refine with_tabW laws_FnModeMoves.tab14 laws_FnModeMoves.bits14 (fun HT_ HW_ => ?_); generalize w84.drew = w85 at HO_3 HO_4 HO299 HB hHeld ⊢; refine pure_ (i := 0) (N := some 61) (v := ?_) (a' := ?_) (rowB 32 1) rfl rfl (any_of HT_.out (by kernel_rfl)) (fun _ _ _ h => h) (Or.inl ⟨by rfl, ?_⟩) ?_ ?_; rotate_left; (· intro w'; go_simp; with_reducible rfl); rotate_left; (· simp only [Act.put, List.setIfInBounds_toArray, List.set_cons_zero, List.set_cons_succ, i64_w, i32_w]; rfl); refine pure_ (i := 1) (N := some 62) (v := ?_) (a' := ?_) (rowB 32 3) rfl rfl (any_of HT_.out (by kernel_rfl)) (fun _ _ _ h => h) (Or.inl ⟨by rfl, ?_⟩) ?_ ?_; rotate_left; (· intro w'; go_simp; with_reducible rfl); rotate_left; (· simp only [Act.put, List.setIfInBounds_toArray, List.set_cons_zero, List.set_cons_succ, i64_w, i32_w]; rfl); refine pure_ (i := 2) (N := some 63) (v := ?_) (a' := ?_) (rowB 32 7) rfl rfl (any_of HT_.out (by kernel_rfl)) (fun _ _ _ h => h) (Or.inl ⟨by rfl, ?_⟩) ?_ ?_; rotate_left; (· intro w'; go_simp; with_reducible rfl); rotate_left; (· simp only [Act.put, List.setIfInBounds_toArray, List.set_cons_zero, List.set_cons_succ, i64_w, i32_w]; rfl); refine pure_ (i := 3) (N := some 64) (v := ?_) (a' := ?_) (rowB 32 15) rfl rfl (any_of HT_.out (by kernel_rfl)) (fun _ _ _ h => h) (Or.inl ⟨by rfl, ?_⟩) ?_ ?_; rotate_left; (· intro w'; go_simp; with_reducible rfl); rotate_left; (· simp only [Act.put, List.setIfInBounds_toArray, List.set_cons_zero, List.set_cons_succ, i64_w, i32_w]; rfl); refine pure_ (i := 4) (N := some 65) (v := ?_) (a' := ?_) (rowB 32 31) rfl rfl (any_of HT_.out (by kernel_rfl)) (fun _ _ _ h => h) (Or.inl ⟨by rfl, ?_⟩) ?_ ?_; rotate_left; (· intro w'; go_simp; with_reducible rfl); rotate_left; (· simp only [Act.put, List.setIfInBounds_toArray, List.set_cons_zero, List.set_cons_succ, i64_w, i32_w]; rfl); refine pure_ (i := 5) (N := some 66) (v := ?_) (a' := ?_) (rowB 32 63) rfl rfl (any_of HT_.out (by kernel_rfl)) (fun _ _ _ h => h) (Or.inl ⟨by rfl, ?_⟩) ?_ ?_; rotate_left; (· intro w'; go_simp; with_reducible rfl); rotate_left; (· simp only [Act.put, List.setIfInBounds_toArray, List.set_cons_zero, List.set_cons_succ, i64_w, i32_w]; rfl); refine pure_ (i := 6) (N := some 67) (v := ?_) (a' := ?_) (rowB 32 127) rfl rfl (any_of HT_.out (by kernel_rfl)) (fun _ _ _ h => h) (Or.inl ⟨by rfl, ?_⟩) ?_ ?_; rotate_left; (· intro w'; go_simp; with_reducible rfl); rotate_left; (· simp only [Act.put, List.setIfInBounds_toArray, List.set_cons_zero, List.set_cons_succ, i64_w, i32_w]; rfl); refine pure_ (i := 7) (N := some 68) (v := ?_) (a' := ?_) (rowB 32 255) rfl rfl (any_of HT_.out (by kernel_rfl)) (fun _ _ _ h => h) (Or.inl ⟨by rfl, ?_⟩) ?_ ?_; rotate_left; (· intro w'; go_simp; with_reducible rfl); rotate_left; (· simp only [Act.put, List.setIfInBounds_toArray, List.set_cons_zero, List.set_cons_succ, i64_w, i32_w]; rfl); refine pure_ (i := 8) (N := some 69) (v := ?_) (a' := ?_) (rowB 32 511) rfl rfl (any_of HT_.out (by kernel_rfl)) (fun _ _ _ h => h) (Or.inl ⟨by rfl, ?_⟩) ?_ ?_; rotate_left; (· intro w'; go_simp; with_reducible rfl); rotate_left; (· simp only [Act.put, List.setIfInBounds_toArray, List.set_cons_zero, List.set_cons_succ, i64_w, i32_w]; rfl); refine pure_ (i := 9) (N := some 70) (v := ?_) (a' := ?_) (rowB 32 1023) rfl rfl (any_of HT_.out (by kernel_rfl)) (fun _ _ _ h => h) (Or.inl ⟨by rfl, ?_⟩) ?_ ?_; rotate_left; (· intro w'; go_simp; with_reducible rfl); rotate_left; (· simp only [Act.put, List.setIfInBounds_toArray, List.set_cons_zero, List.set_cons_succ, i64_w, i32_w]; rfl); refine pure_ (i := 10) (N := some 71) (v := ?_) (a' := ?_) (rowB 32 2047) rfl rfl (any_of HT_.out (by kernel_rfl)) (fun _ _ _ h => h) (Or.inl ⟨by rfl, ?_⟩) ?_ ?_; rotate_left; (· intro w'; go_simp; with_reducible rfl); rotate_left; (· simp only [Act.put, List.setIfInBounds_toArray, List.set_cons_zero, List.set_cons_succ, i64_w, i32_w]; rfl); refine pure_ (i := 11) (N := some 72) (v := ?_) (a' := ?_) (rowB 32 4095) rfl rfl (any_of HT_.out (by kernel_rfl)) (fun _ _ _ h => h) (Or.inl ⟨by rfl, ?_⟩) ?_ ?_; rotate_left; (· intro w'; go_simp; with_reducible rfl); rotate_left; (· simp only [Act.put, List.setIfInBounds_toArray, List.set_cons_zero, List.set_cons_succ, i64_w, i32_w]; rfl); refine one_ (i := 12) (N := some 73) (rowB 32 8191) rfl rfl (one_of HT_.out (by kernel_rfl)) (by decide) (fun K hK => ?_); refine goes_ Tryd.func28 (by kernel_rfl) rfl #[.slice _ t296.length co86] (by rfl) rfl rfl (by (try simp only [List.map_toArray, List.map_cons, List.map_nil]); first | done | rfl | (simp only [List.length_drop, List.length_take]; rfl)) ?_; with_reducible refine (impl_ModeAll.calls _ _ t296 t302 _ ?side1 ?side2 A38.out (ht := HT.out.below (by repeat (first | (with_reducible first | exact HB.out | apply below_alloc | apply pw_below_drewN | apply below_drew1) | exact HB.out)))).mono ?_
                 (case side1 => repeat (first | exact (Kd.R_reads' HO299.out).2.2 | (with_reducible refine Kd.C_alloc ?_ _) | (with_reducible refine Kd.C_drewN ?_ _) | (with_reducible refine Kd.C_drew ?_)))
                 (case side2 => exact (Kd.R_reads' HO299.out).2.1)
                 rintro e w87 ⟨v303, rfl, ho0, hb⟩; refine ⟨_, rfl, ?_⟩; have n0_ := Aside0.mk (Kd.R_below (by (with_reducible repeat (first | apply Kd.R_alloc | apply Kd.R_drewN | apply Kd.R_drew)); exact HO_3.out) hb); have n1_ := Aside0.mk (Kd.R_elder' (by (with_reducible repeat (first | apply Kd.R_alloc | apply Kd.R_drewN | apply Kd.R_drew)); exact HO_4.out) (Kd.R_base ho0) hb); have n2_ := Aside0.mk (Kd.R_below (by (with_reducible repeat (first | apply Kd.R_alloc | apply Kd.R_drewN | apply Kd.R_drew)); exact HO299.out) hb); have n3_ := Aside0.mk (Kd.R_lower (Kd.R_new' ho0 (Kd.R_lt (by (with_reducible repeat (first | apply Kd.R_alloc | apply Kd.R_drewN | apply Kd.R_drew)); exact HO_4.out))) (below_size (by repeat (first | (with_reducible first | exact HB.out | apply below_alloc | apply pw_below_drewN | apply below_drew1) | exact HB.out)))); have n4_ := Aside0.mk (below_step (by repeat (first | (with_reducible first | exact HB.out | apply below_alloc | apply pw_below_drewN | apply below_drew1) | exact HB.out)) hb); clear HO_3; clear HO_4; clear HO299; clear HB; have HO_3 := n0_; have HO_4 := n1_; have HO299 := n2_; have HO304 := n3_; have HB := n4_; clear n0_ n1_ n2_ n3_ n4_; (try clear hb)
                 (try clear hb2)
                 (try clear hk)
                 (try clear hi)
                 (try clear ho0)
                 obtain ⟨Ao88, co88, eo88⟩ := Kd.R_slice HO304.out; (first | subst eo88 | (injection eo88 with f1_ f2_ f3_; have f4_ := f1_.symm; have f5_ := f3_.symm; clear f1_ f2_ f3_; subst f4_; subst f5_))
                 refine hK.out _ _ trivial (fun hHeld => ?_); clear hK K; refine norm_ (a' := ?_) ?_ ?_; rotate_left; (· show Act.put _ (some 73) _ = _; simp only [Act.put, List.setIfInBounds_toArray, List.set_cons_zero, List.set_cons_succ, i64_w, i32_w]; rfl); refine pure_ (i := 13) (N := some 74) (v := ?_) (a' := ?_) (rowB 32 16383) rfl rfl (any_of HT_.out (by kernel_rfl)) (fun _ _ _ h => h) (Or.inl ⟨by rfl, ?_⟩) ?_ ?_; rotate_left; (· intro w'; go_simp; with_reducible rfl); rotate_left; (· simp only [Act.put, List.setIfInBounds_toArray, List.set_cons_zero, List.set_cons_succ, i64_w, i32_w]; rfl); refine pure_ (i := 14) (N := some 75) (v := ?_) (a' := ?_) (rowB 32 32767) rfl rfl (any_of HT_.out (by kernel_rfl)) (fun _ _ _ h => h) (Or.inl ⟨by rfl, ?_⟩) ?_ ?_; rotate_left; (· intro w'; go_simp; with_reducible rfl); rotate_left; (· simp only [Act.put, List.setIfInBounds_toArray, List.set_cons_zero, List.set_cons_succ, i64_w, i32_w]; rfl); refine pure_ (i := 15) (N := some 76) (v := ?_) (a' := ?_) (rowB 32 65535) rfl rfl (any_of HT_.out (by kernel_rfl)) (fun _ _ _ h => h) (Or.inl ⟨by rfl, ?_⟩) ?_ ?_; rotate_left; (· intro w'; go_simp; with_reducible rfl); rotate_left; (· simp only [Act.put, List.setIfInBounds_toArray, List.set_cons_zero, List.set_cons_succ, i64_w, i32_w]; rfl); refine pure_ (i := 16) (N := some 77) (v := ?_) (a' := ?_) (rowB 32 131071) rfl rfl (any_of HT_.out (by kernel_rfl)) (fun _ _ _ h => h) (Or.inl ⟨by rfl, ?_⟩) ?_ ?_; rotate_left; (· intro w'; go_simp; with_reducible rfl); rotate_left; (· simp only [Act.put, List.setIfInBounds_toArray, List.set_cons_zero, List.set_cons_succ, i64_w, i32_w]; rfl); refine pure_ (i := 17) (N := some 78) (v := ?_) (a' := ?_) (rowB 32 262143) rfl rfl (any_of HT_.out (by kernel_rfl)) (fun _ _ _ h => h) (Or.inl ⟨by rfl, ?_⟩) ?_ ?_; rotate_left; (· intro w'; go_simp; with_reducible rfl); rotate_left; (· simp only [Act.put, List.setIfInBounds_toArray, List.set_cons_zero, List.set_cons_succ, i64_w, i32_w]; rfl); refine pure_ (i := 18) (N := some 79) (v := ?_) (a' := ?_) (rowB 32 524287) rfl rfl (any_of HT_.out (by kernel_rfl)) (fun _ _ _ h => h) (Or.inl ⟨by rfl, ?_⟩) ?_ ?_; rotate_left; (· intro w'; go_simp; with_reducible rfl); rotate_left; (· simp only [Act.put, List.setIfInBounds_toArray, List.set_cons_zero, List.set_cons_succ, i64_w, i32_w]; rfl); refine pure_ (i := 19) (N := some 80) (v := ?_) (a' := ?_) (rowB 32 1048575) rfl rfl (any_of HT_.out (by kernel_rfl)) (fun _ _ _ h => h) (Or.inl ⟨by rfl, ?_⟩) ?_ ?_; rotate_left; (· intro w'; go_simp; with_reducible rfl); rotate_left; (· simp only [Act.put, List.setIfInBounds_toArray, List.set_cons_zero, List.set_cons_succ, i64_w, i32_w]; rfl); refine pure_ (i := 20) (N := some 81) (v := undef) (a' := ?_) (rowB 32 2097151) rfl rfl (any_of HT_.out (by kernel_rfl)) (fun _ _ _ h => h) (Or.inr ⟨by rfl, rfl⟩) ?_ ?_; rotate_left; (· simp only [Act.put, List.setIfInBounds_toArray, List.set_cons_zero, List.set_cons_succ, i64_w, i32_w]; rfl); refine pure_ (i := 21) (N := some 82) (v := undef) (a' := ?_) (rowB 32 4194303) rfl rfl (any_of HT_.out (by kernel_rfl)) (fun _ _ _ h => h) (Or.inr ⟨by rfl, rfl⟩) ?_ ?_; rotate_left; (· simp only [Act.put, List.setIfInBounds_toArray, List.set_cons_zero, List.set_cons_succ, i64_w, i32_w]; rfl); refine pure_ (i := 22) (N := some 83) (v := undef) (a' := ?_) (rowB 32 8388607) rfl rfl (any_of HT_.out (by kernel_rfl)) (fun _ _ _ h => h) (Or.inr ⟨by rfl, rfl⟩) ?_ ?_; rotate_left; (· simp only [Act.put, List.setIfInBounds_toArray, List.set_cons_zero, List.set_cons_succ, i64_w, i32_w]; rfl); refine pure_ (i := 23) (N := some 84) (v := undef) (a' := ?_) (rowB 32 16777215) rfl rfl (any_of HT_.out (by kernel_rfl)) (fun _ _ _ h => h) (Or.inr ⟨by rfl, rfl⟩) ?_ ?_; rotate_left; (· simp only [Act.put, List.setIfInBounds_toArray, List.set_cons_zero, List.set_cons_succ, i64_w, i32_w]; rfl); refine pure_ (i := 24) (N := some 85) (v := undef) (a' := ?_) (rowB 32 33554431) rfl rfl (any_of HT_.out (by kernel_rfl)) (fun _ _ _ h => h) (Or.inr ⟨by rfl, rfl⟩) ?_ ?_; rotate_left; (· simp only [Act.put, List.setIfInBounds_toArray, List.set_cons_zero, List.set_cons_succ, i64_w, i32_w]; rfl); refine pure_ (i := 25) (N := some 86) (v := undef) (a' := ?_) (rowB 32 67108863) rfl rfl (any_of HT_.out (by kernel_rfl)) (fun _ _ _ h => h) (Or.inr ⟨by rfl, rfl⟩) ?_ ?_; rotate_left; (· simp only [Act.put, List.setIfInBounds_toArray, List.set_cons_zero, List.set_cons_succ, i64_w, i32_w]; rfl); refine pure_ (i := 26) (N := some 87) (v := undef) (a' := ?_) (rowB 32 134217727) rfl rfl (any_of HT_.out (by kernel_rfl)) (fun _ _ _ h => h) (Or.inr ⟨by rfl, rfl⟩) ?_ ?_; rotate_left; (· simp only [Act.put, List.setIfInBounds_toArray, List.set_cons_zero, List.set_cons_succ, i64_w, i32_w]; rfl); refine pure_ (i := 27) (N := some 88) (v := undef) (a' := ?_) (rowB 32 268435455) rfl rfl (any_of HT_.out (by kernel_rfl)) (fun _ _ _ h => h) (Or.inr ⟨by rfl, rfl⟩) ?_ ?_; rotate_left; (· simp only [Act.put, List.setIfInBounds_toArray, List.set_cons_zero, List.set_cons_succ, i64_w, i32_w]; rfl); refine pure_ (i := 28) (N := some 89) (v := undef) (a' := ?_) (rowB 32 536870911) rfl rfl (any_of HT_.out (by kernel_rfl)) (fun _ _ _ h => h) (Or.inr ⟨by rfl, rfl⟩) ?_ ?_; rotate_left; (· simp only [Act.put, List.setIfInBounds_toArray, List.set_cons_zero, List.set_cons_succ, i64_w, i32_w]; rfl); refine pure_ (i := 29) (N := some 90) (v := undef) (a' := ?_) (rowB 32 1073741823) rfl rfl (any_of HT_.out (by kernel_rfl)) (fun _ _ _ h => h) (Or.inr ⟨by rfl, rfl⟩) ?_ ?_; rotate_left; (· simp only [Act.put, List.setIfInBounds_toArray, List.set_cons_zero, List.set_cons_succ, i64_w, i32_w]; rfl); refine pure_ (i := 30) (N := some 91) (v := ?_) (a' := ?_) (rowB 32 2147483647) rfl rfl (any_of HT_.out (by kernel_rfl)) (fun _ _ _ h => h) (Or.inl ⟨by rfl, ?_⟩) ?_ ?_; rotate_left; (· intro w'; go_simp; with_reducible rfl); rotate_left; (· simp only [Act.put, List.setIfInBounds_toArray, List.set_cons_zero, List.set_cons_succ, i64_w, i32_w]; rfl); refine pure_ (i := 31) (N := some 92) (v := ?_) (a' := ?_) (rowB 32 4294967295) rfl rfl (any_of HT_.out (by kernel_rfl)) (fun _ _ _ h => h) (Or.inl ⟨by rfl, ?_⟩) ?_ ?_; rotate_left; (· intro w'; go_simp; with_reducible rfl); rotate_left; (· simp only [Act.put, List.setIfInBounds_toArray, List.set_cons_zero, List.set_cons_succ, i64_w, i32_w]; rfl); refine done_ (done_of HT_.out (by kernel_rfl)) ?_; have p308 : 0 ≤ (x7_2 : Int) := of_decide_eq_true (by first | (with_reducible assumption) | assumption); have q308 : x7_2 < (t280.length : Int) := of_decide_eq_true (by first | (with_reducible assumption) | assumption); obtain ⟨ad308, e308, hx308_0⟩ := Kd.at_int (Kd.R_reads' HO_4.out).2.2 x7_2 p308 q308; obtain rfl : ad295 = ad308 := (by injection e308)
                 try clear hx295_0
                 try clear hx295_1
                 replace p308 := eq_true p308; replace q308 := eq_true q308; try go_wp2
                 go_roundg k2
                 case measure => have := HJ5.out; have := HK2.out; omega
                 case rel => exact ⟨(((rd t280 x7_2) == 0)), (wrap64 (x7_2 + 1)), (by first | rfl | (simp; done) | (simp [*]; done)), (by first | rfl | (simp; done) | (simp [*]; done)), H', ⟨by have := HJ5.out; have := HK2.out; omega⟩, ⟨by (with_reducible repeat (first | apply Kd.R_alloc | apply Kd.R_drewN | apply Kd.R_drew)); exact Kd.R_mono HO_3.out (fun _ hk => trivial)⟩, ⟨by (with_reducible repeat (first | apply Kd.R_alloc | apply Kd.R_drewN | apply Kd.R_drew)); exact Kd.R_mono HO_4.out (fun _ hk => trivial)⟩, ⟨by repeat (first | (with_reducible first | exact HB.out | apply below_alloc | apply pw_below_drewN | apply below_drew1) | exact HB.out)⟩⟩
           ·
            replace c27 := Bool.eq_false_iff.mpr c27; subst c27; have H1 : (some false) = some r := by rw [if_neg (show ¬ (false = true) by decide)] at H; exact H
            exact absurd (H1.trans (congrArg some HRR.out)) (by simp)
          ·
           rw [if_neg c26] at H; exact absurd H (by simp)
         ·
          rw [if_neg c25] at H; exact absurd H (by simp)
        ·
         rw [if_neg c22] at H; exact absurd H (by simp)
       ·
        rw [if_neg c21] at H; have c21b0 : decide (x7_2 < (t280.length : Int)) = false := decide_eq_false c21; clear c21; replace H := Option.bind_eq_some_iff.mp H; obtain ⟨⟨t288, t289⟩, A930, H⟩ := H; replace H : (if (t280.length : Int) ≤ 4 then (if t289 = true then ((impl_ModeAll.f t288).bind fun t292 => (some (x6_2 == (decide ((t292.length : Int) > 0))))) else (some false)) else (some false)) = some r := H; have A93 := Aside0.mk A930; clear A930; by_cases c94 : (t280.length : Int) ≤ 4
        ·
         rw [if_pos c94] at H; have c94b0 : decide ((t280.length : Int) ≤ 4) = true := decide_eq_true c94; have c94b1 : decide (t280.length ≤ 4) = true := decide_eq_true (by omega); clear c94; by_cases c95 : t289 = true
         ·
          subst c95; have H1 : ((impl_ModeAll.f t288).bind fun t292 => (some (x6_2 == (decide ((t292.length : Int) > 0))))) = some r := by rw [if_pos rfl] at H; exact H
          clear H; have H := H1; clear H1; replace H := Option.bind_eq_some_iff.mp H; obtain ⟨t292, A960, H⟩ := H; replace H : (some (x6_2 == (decide ((t292.length : Int) > 0)))) = some r := H; have A96 := Aside0.mk A960; clear A960; obtain rfl := Option.some.inj H; obtain ⟨Ao97, co97, eo97⟩ := Kd.R_slice HO_4.out; subst eo97; go_wp2_with (first | ((with_reducible refine gate_callee (f := 21) rfl ?_); refine goesL_ (some 103) rfl rfl Tryd.func21 (by kernel_rfl) rfl #[.slice Ao8 t277.length co8, .int .i64 0] rfl (by (try simp only [List.map_toArray, List.map_cons, List.map_nil]); first | done | rfl | (simp only [List.length_drop, List.length_take]; rfl)) ?_; (with_reducible refine (impl_MelodyMove.calls _ _ t277 0 t288 true _ ?side1 ?side2 A93.out (ht := HT.out.below (by repeat (first | (with_reducible first | exact HB.out | apply below_alloc | apply pw_below_drewN | apply below_drew1) | exact HB.out)))).mono ?_); (case side1 => repeat (first | exact (Kd.R_reads' HO_3.out).2.2 | (with_reducible refine Kd.C_alloc ?_ _) | (with_reducible refine Kd.C_drewN ?_ _) | (with_reducible refine Kd.C_drew ?_))); (case side2 => exact (Kd.R_reads' HO_3.out).2.1); rintro e w98 ⟨v290, rfl, ho0, hb⟩; refine ⟨_, rfl, ?_⟩; have n0_ := Aside0.mk (Kd.R_elder' (by (with_reducible repeat (first | apply Kd.R_alloc | apply Kd.R_drewN | apply Kd.R_drew)); exact HO_3.out) (Kd.R_base ho0) hb); have n1_ := Aside0.mk (Kd.R_below (by (with_reducible repeat (first | apply Kd.R_alloc | apply Kd.R_drewN | apply Kd.R_drew)); exact HO_4.out) hb); have n2_ := Aside0.mk (Kd.R_lower (Kd.R_new' ho0 (Kd.R_lt (by (with_reducible repeat (first | apply Kd.R_alloc | apply Kd.R_drewN | apply Kd.R_drew)); exact HO_3.out))) (below_size (by repeat (first | (with_reducible first | exact HB.out | apply below_alloc | apply pw_below_drewN | apply below_drew1) | exact HB.out)))); have n3_ := Aside0.mk (below_step (by repeat (first | (with_reducible first | exact HB.out | apply below_alloc | apply pw_below_drewN | apply below_drew1) | exact HB.out)) hb); clear HO_3; clear HO_4; clear HB; have HO_3 := n0_; have HO_4 := n1_; have HO291 := n2_; have HB := n3_; clear n0_ n1_ n2_ n3_; (try clear hb); (try clear hb2); (try clear hk); (try clear hi); (try clear ho0); obtain ⟨Ao99, co99, eo99⟩ := Kd.R_slice HO291.out; subst eo99) | (go_at_call 28; (with_reducible refine (impl_ModeAll.calls _ _ t288 t292 _ ?side1 ?side2 A96.out (ht := HT.out.below (by repeat (first | (with_reducible first | exact HB.out | apply below_alloc | apply pw_below_drewN | apply below_drew1) | exact HB.out)))).mono ?_); (case side1 => repeat (first | exact (Kd.R_reads' HO291.out).2.2 | (with_reducible refine Kd.C_alloc ?_ _) | (with_reducible refine Kd.C_drewN ?_ _) | (with_reducible refine Kd.C_drew ?_))); (case side2 => exact (Kd.R_reads' HO291.out).2.1); rintro e w100 ⟨v293, rfl, ho0, hb⟩; have n0_ := Aside0.mk (Kd.R_below (by (with_reducible repeat (first | apply Kd.R_alloc | apply Kd.R_drewN | apply Kd.R_drew)); exact HO_3.out) hb); have n1_ := Aside0.mk (Kd.R_elder' (by (with_reducible repeat (first | apply Kd.R_alloc | apply Kd.R_drewN | apply Kd.R_drew)); exact HO_4.out) (Kd.R_base ho0) hb); have n2_ := Aside0.mk (Kd.R_below (by (with_reducible repeat (first | apply Kd.R_alloc | apply Kd.R_drewN | apply Kd.R_drew)); exact HO291.out) hb); have n3_ := Aside0.mk (Kd.R_lower (Kd.R_new' ho0 (Kd.R_lt (by (with_reducible repeat (first | apply Kd.R_alloc | apply Kd.R_drewN | apply Kd.R_drew)); exact HO_4.out))) (below_size (by repeat (first | (with_reducible first | exact HB.out | apply below_alloc | apply pw_below_drewN | apply below_drew1) | exact HB.out)))); have n4_ := Aside0.mk (below_step (by repeat (first | (with_reducible first | exact HB.out | apply below_alloc | apply pw_below_drewN | apply below_drew1) | exact HB.out)) hb); clear HO_3; clear HO_4; clear HO291; clear HB; have HO_3 := n0_; have HO_4 := n1_; have HO291 := n2_; have HO294 := n3_; have HB := n4_; clear n0_ n1_ n2_ n3_ n4_; (try clear hb); (try clear hb2); (try clear hk); (try clear hi); (try clear ho0); obtain ⟨Ao101, co101, eo101⟩ := Kd.R_slice HO294.out; subst eo101))
          go_ret
          exact ⟨by first | rfl | (simp [errW_none, errW_some] <;> rfl) | (simp [*, errW_none, errW_some] <;> rfl), by repeat (first | (with_reducible first | exact HB.out | apply below_alloc | apply pw_below_drewN | apply below_drew1) | exact HB.out)⟩
         ·
          replace c95 := Bool.eq_false_iff.mpr c95; subst c95; have H1 : (some false) = some r := by rw [if_neg (show ¬ (false = true) by decide)] at H; exact H
          exact absurd (H1.trans (congrArg some HRR.out)) (by simp)
        ·
         rw [if_neg c94] at H; exact absurd (H.trans (congrArg some HRR.out)) (by simp)
end Go.Proofs.YthhnaplmjpacnaaDoor.PFnModeMoves
namespace Go.Proofs.YthhnaplmjpacnaaDoor.Pure
set_option linter.unusedVariables false
set_option linter.unusedSimpArgs false
open Go Go.RowKit Go.Proofs.YthhnaplmjpacnaaDoor.PFnModeMoves Go.Proofs.YthhnaplmjpacnaaDoorW.PrintWords Go.Proofs.YthhnaplmjpacnaaDoorW.PrintLast Go.Proofs.YthhnaplmjpacnaaDoorW.PrintMore

theorem spec_l6In_eq (a b c : Int) : spec_l6In.f a b c = some (decide (b ≤ a ∧ a ≤ c)) := by
 unfold spec_l6In.f
 by_cases h : a ≥ b
 ·
  rw [if_pos h]; simp [show b ≤ a from h]
 ·
  rw [if_neg h]; simp [show ¬ b ≤ a from h]

theorem spec_ToneValid_eq (a : Int) (b : Bool) : spec_ToneValid.f a b = some (toneOk ⟨a, b⟩) := by
 unfold spec_ToneValid.f toneOk
 rw [spec_l6In_eq]
 by_cases h : 0 ≤ a ∧ a ≤ 20
 ·
  cases b <;> simp [h, spec_l1Letter.f]
 ·
  simp [h]
theorem spec_MelodyValid_ev (m : List S29) (hm : m.length ≤ 1000000000000) : Ev (fun k => spec_MelodyValid.f k m) (melOk m) := by
 unfold spec_MelodyValid.f
 have := Ev.over z29 m (fun k (_ : Unit) i => spec_MelodyValid.l0 k m i) (fun _ l => l.all toneOk && decide (m.length ≤ 24)) (fun _ _ => True) (by
  intro s _
  refine Ev.succ ?_
  simp only [spec_MelodyValid.l0]
  refine Ev.eqr (Ev.neg (by omega) (Ev.now _)) ?_
  simp; omega) (by
  intro s i rest _ hi _ ih
  refine Ev.succ ?_
  simp only [spec_MelodyValid.l0]
  refine Ev.pos (by omega) (Ev.pos (by omega) (Ev.conb (spec_ToneValid_eq _ _) ?_))
  show Ev _ (toneOk (rd_T29 m i) && _ && _)
  cases ht : toneOk (rd_T29 m i)
  ·
   exact Ev.neg (by simp [ht]) (Ev.now _)
  ·
   refine Ev.pos (by simp [ht]) ?_
   rw [w64 (by omega) (by omega)]
   simpa using ih () trivial) 0 () (Nat.zero_le _) trivial
 refine Ev.eqr (by simpa using this) ?_
 unfold melOk
 rw [Bool.and_comm]

theorem spec_l1Height_eq {t : S29} (h : toneOk t = true) : spec_l1Height.f t.f0 t.f1 = some (hgt t) := by
 have h1 := toneOk_bd h
 have h2 := lh_bd t.f0
 have h3 := div7 h1.1 h1.2
 have h4 := mod7 h1.1
 unfold spec_l1Height.f
 have e : spec_l1Letter.f t.f0 = some (Int.tmod t.f0 7) := rfl
 have er : rd ([0, 2, 4, 5, 7, 9, 10] : List Int) (Int.tmod t.f0 7) = lh t.f0 := rfl
 simp only [Option.bind_some]
 rw [e]
 simp only [Option.bind_some]
 rw [if_pos h4.1, if_pos (by simp; omega), er, w64 (x := Int.tdiv t.f0 7) (by omega) (by omega), w64 (x := 12 * Int.tdiv t.f0 7) (by omega) (by omega), w64 (x := 12 * Int.tdiv t.f0 7 + lh t.f0) (by omega) (by omega), w64 (x := 12 * Int.tdiv t.f0 7 + lh t.f0 - 1) (by omega) (by omega)]
 unfold hgt
 split
 ·
  congr 1; omega
 ·
  congr 1; omega
theorem spec_l2Moved_ev (m : List S29) (k semis : Int) (hm : melOk m = true) (hk : -20 ≤ k ∧ k ≤ 20) (hs : -100 ≤ semis ∧ semis ≤ 100) : Ev (fun n => spec_l2Moved.f n m k semis) (movedP k semis m) := by
 unfold spec_l2Moved.f
 have hl := melOk_len hm
 have hall := melOk_all hm
 have := Ev.over z29 m (fun n (y : List S29) i => spec_l2Moved.l0 n m k semis y i) (fun y rest => match mvAll k semis rest with | some l => (y ++ l, true) | none => ([], false)) (fun i y => y.length = i) (by
  intro y _
  refine Ev.succ ?_
  simp only [spec_l2Moved.l0]
  exact Ev.neg (by omega) (Ev.eqr (Ev.now _) (by simp [mvAll]))) (by
  intro y i rest hy hi hdr ih
  have hrd : rd_T29 m (i : Int) = m.getD i z29 := rfl
  have ht : toneOk (m.getD i z29) = true := by
   refine List.all_eq_true.1 hall _ ?_
   rw [List.getD_eq_getElem?_getD, List.getElem?_eq_getElem hi]; exact List.getElem_mem hi
  have hb := toneOk_bd ht
  have hh := hgt_bd ht
  refine Ev.succ ?_
  simp only [spec_l2Moved.l0]
  refine Ev.pos (by omega) ?_
  -- found: on to the next tone
  have found : ∀ (z : List S29) (s : Int), s = 1 ∨ s = 2 → Ev (fun n => spec_l2Moved.l0 n m k semis z ((i : Int) + 1)) (match mvAll k semis rest with | some l => (z ++ l, true) | none => ([], false)) → Ev (fun n => spec_l2Moved.l1 n m k semis z (i : Int) true s) (match mvAll k semis rest with | some l => (z ++ l, true) | none => ([], false)) := by
   intro z s hs h
   have go : Ev (fun n => spec_l2Moved.j2 n m k semis z (i : Int) true s false) (match mvAll k semis rest with | some l => (z ++ l, true) | none => ([], false)) := by
    refine Ev.succ ?_
    simp only [spec_l2Moved.j2]
    rw [w64 (x := (i : Int) + 1) (by omega) (by omega)]
    exact Ev.neg (by simp) (Ev.pos trivial h)
   refine Ev.succ ?_
   simp only [spec_l2Moved.l1, Bool.not_true]
   rcases hs with rfl | rfl
   ·
    exact Ev.pos (by decide) go
   ·
    exact Ev.neg (by decide) go
  -- one try
  have one : ∀ (s : Int) (b : Bool) (R : List S29 × Bool), (s = 0 ∨ s = 1) → (s == 1) = b → (mvGood k semis (m.getD i z29) b = true → Ev (fun n => spec_l2Moved.l1 n m k semis (y ++ [mvT (m.getD i z29) k b]) (i : Int) true (s + 1)) R) → (¬ mvGood k semis (m.getD i z29) b = true → Ev (fun n => spec_l2Moved.l1 n m k semis y (i : Int) false (s + 1)) R) → Ev (fun n => spec_l2Moved.l1 n m k semis y (i : Int) false s) R := by
   intro s b R hs hsb hyes hno
   refine Ev.succ ?_
   simp only [spec_l2Moved.l1, Bool.not_false]
   refine Ev.pos (by omega) (Ev.succ ?_)
   simp only [spec_l2Moved.j2]
   rw [hrd, w64 (x := s + 1) (by omega) (by omega), hsb]
   generalize m.getD i z29 = t at ht hb hh hyes hno
   rw [w64 (x := t.f0 + k) (by omega) (by omega)]
   refine Ev.pos trivial (Ev.pos (by omega) (Ev.pos (by omega) (Ev.conb (spec_ToneValid_eq _ _) ?_)))
   have e : (⟨t.f0 + k, b⟩ : S29) = mvT t k b := rfl
   rw [e]
   unfold mvGood at hyes hno
   cases hv : toneOk (mvT t k b)
   ·
    exact Ev.neg (by simp) (hno (by rw [hv]; simp))
   ·
    have hh2 := hgt_bd hv
    have e1 : spec_l1Height.f (t.f0 + k) b = some (hgt (mvT t k b)) := spec_l1Height_eq (t := mvT t k b) hv
    refine Ev.pos rfl (Ev.conb e1 (Ev.conb (spec_l1Height_eq ht) ?_))
    rw [w64 (x := hgt (mvT t k b) - hgt t) (by omega) (by omega)]
    by_cases hc : hgt (mvT t k b) - hgt t = semis
    ·
     exact Ev.pos hc (Ev.pos (by omega) (hyes (by rw [hv, decide_eq_true hc]; rfl)))
    ·
     exact Ev.neg hc (hno (by rw [decide_eq_false hc]; simp))
  simp only [mvAll]
  refine one 0 false _ (.inl rfl) rfl (fun h => ?_) (fun h => one (0 + 1) true _ (.inr rfl) rfl (fun h' => ?_) (fun h' => ?_))
  ·
   rw [if_pos h]
   have := found (y ++ [mvT (m.getD i z29) k false]) (0 + 1) (.inl rfl) (ih _ (by rw [List.length_append, List.length_singleton]; omega))
   refine Ev.eqr this ?_
   cases mvAll k semis rest <;> simp
  ·
   rw [if_neg h, if_pos h']
   have := found (y ++ [mvT (m.getD i z29) k true]) (0 + 1 + 1) (.inr rfl) (ih _ (by rw [List.length_append, List.length_singleton]; omega))
   refine Ev.eqr this ?_
   cases mvAll k semis rest <;> simp
  ·
   rw [if_neg h, if_neg h']
   refine Ev.succ ?_
   simp only [spec_l2Moved.l1]
   refine Ev.neg (by decide) (Ev.succ ?_)
   simp only [spec_l2Moved.j2]
   exact Ev.neg (by simp) (Ev.neg (by simp) (Ev.now _))) 0 [] (Nat.zero_le _) rfl
 refine Ev.eqr (by simpa using this) ?_
 unfold movedP
 cases mvAll k semis m <;> rfl
theorem spec_MelodyMove_ev (m : List S29) (k : Int) (hml : m.length ≤ 1000000000000) : Ev (fun n => spec_MelodyMove.f n m k) (mmove m k) := by
 unfold spec_MelodyMove.f mmove
 by_cases h0 : (m.length : Int) = 0
 ·
  have e : m = [] := List.eq_nil_of_length_eq_zero (by omega)
  subst e
  exact Ev.pos rfl (Ev.now _)
 refine Ev.neg h0 (Ev.bind (spec_MelodyValid_ev m hml) ?_)
 have no : Ev (fun n => spec_MelodyMove.j0 n m k true) (([] : List S29), false) := by
  refine Ev.succ ?_
  simp only [spec_MelodyMove.j0]
  exact Ev.pos trivial (Ev.now _)
 cases hok : melOk m
 ·
  exact Ev.neg (by simp) (Ev.eqr no (by simp))
 refine Ev.pos rfl (Ev.conb (spec_l6In_eq _ _ _) ?_)
 rw [if_pos rfl, if_neg (by omega)]
 by_cases hk : -20 ≤ k ∧ k ≤ 20
 ·
  rw [decide_eq_true hk, if_pos hk]
  refine Ev.succ ?_
  simp only [spec_MelodyMove.j0]
  refine Ev.neg (by simp) ?_
  have hl := melOk_len hok
  have ht : toneOk (rd_T29 m 0) = true := List.all_eq_true.1 (melOk_all hok) _ (by
   unfold rd_T29
   rw [List.getD_eq_getElem?_getD, List.getElem?_eq_getElem (by simp; omega)]; exact List.getElem_mem _)
  have hb := toneOk_bd ht
  have hh := hgt_bd ht
  have one : ∀ (s : Int) (b : Bool) (R : List S29 × Bool), (s = 0 ∨ s = 1) → (s == 1) = b → (mmTry m k b = true → R = (mmOf m k b, true)) → (¬ mmTry m k b = true → Ev (fun n => spec_MelodyMove.l0 n m k (s + 1)) R) → Ev (fun n => spec_MelodyMove.l0 n m k s) R := by
   intro s b R hs hsb hyes hno
   refine Ev.succ ?_
   simp only [spec_MelodyMove.l0]
   rw [w64 (x := s + 1) (by omega) (by omega), hsb]
   unfold mmTry mmOf at hyes
   unfold mmTry at hno
   generalize hT : rd_T29 m 0 = t at ht hb hh hyes hno
   rw [w64 (x := t.f0 + k) (by omega) (by omega)]
   refine Ev.pos (by omega) (Ev.pos (by omega) (Ev.conb (spec_ToneValid_eq _ _) ?_))
   have e : (⟨t.f0 + k, b⟩ : S29) = mvT t k b := rfl
   rw [e]
   cases hv : toneOk (mvT t k b)
   ·
    exact Ev.neg (by simp) (hno (by rw [hv]; simp))
   ·
    have hh2 := hgt_bd hv
    have e1 : spec_l1Height.f (t.f0 + k) b = some (hgt (mvT t k b)) := spec_l1Height_eq (t := mvT t k b) hv
    refine Ev.pos rfl (Ev.conb e1 (Ev.conb (spec_l1Height_eq ht) ?_))
    rw [w64 (x := hgt (mvT t k b) - hgt t) (by omega) (by omega)]
    refine Ev.bind (spec_l2Moved_ev m k _ hok hk (by omega)) ?_
    cases hp : (movedP k (hgt (mvT t k b) - hgt t) m).2
    ·
     exact Ev.neg (by simp) (hno (by rw [hp]; simp))
    ·
     exact Ev.pos rfl (Ev.eqr (Ev.now _) (hyes (by rw [hv, hp]; rfl)).symm)
  refine one 0 false _ (.inl rfl) rfl (fun h => by rw [if_pos h]) (fun h => one (0 + 1) true _ (.inr rfl) rfl (fun h' => by rw [if_neg h, if_pos h']) (fun h' => ?_))
  rw [if_neg h, if_neg h']
  refine Ev.succ ?_
  simp only [spec_MelodyMove.l0]
  exact Ev.neg (by decide) (Ev.now _)
 ·
  rw [decide_eq_false hk, if_neg hk]
  exact no

theorem spec_MelodyRange_ev (m : List S29) (hm : m.length ≤ 1000000000000) : Ev (fun k => spec_MelodyRange.f k m) (mrange m) := by
 unfold spec_MelodyRange.f mrange mSome
 refine Ev.bind (spec_MelodyValid_ev m hm) ?_
 cases hok : melOk m
 ·
  refine Ev.neg (by simp) (Ev.succ ?_)
  simp only [spec_MelodyRange.j0, if_true]
  exact Ev.eqr (Ev.now _) (by simp)
 refine Ev.pos rfl (Ev.succ ?_)
 simp only [spec_MelodyRange.j0]
 by_cases h0 : 0 < m.length
 ·
  rw [decide_eq_true h0, if_pos (by simp)]
  refine Ev.neg (by simp; intro h; subst h; simp at h0) (Ev.pos (by omega) ?_)
  have := Ev.over z29 m (fun k (s : Int × Int) i => spec_MelodyRange.l0 k m s.1 s.2 i) (fun s rest => (mlo s.1 rest, mhi s.2 rest, true)) (fun _ _ => True) (by
   intro s _
   refine Ev.succ ?_
   simp only [spec_MelodyRange.l0, mlo, mhi]
   exact Ev.neg (by omega) (Ev.now _)) (by
   intro s i rest _ hi _ ih
   refine Ev.succ ?_
   simp only [spec_MelodyRange.l0, mlo, mhi]
   rw [w64 (by omega) (by omega)]
   exact Ev.pos (by omega) (Ev.pos (by omega) (ih (_, _) trivial))) 0 ((rd_T29 m 0).f0, (rd_T29 m 0).f0) (Nat.zero_le _) trivial
  simpa using this
 ·
  have e : m = [] := List.eq_nil_of_length_eq_zero (by omega)
  subst e
  exact Ev.pos rfl (Ev.eqr (Ev.now _) (by simp))
theorem spec_l5Mode_eq (mode : Int) : spec_l5Mode.f mode = some (mOk mode) := by
 unfold spec_l5Mode.f
 rw [spec_l6In_eq]; rfl
theorem spec_ModeFinal_eq {mode : Int} (h : mOk mode = true) : spec_ModeFinal.f mode = some (mRow mode).1 := by
 rcases mOk_cases h with rfl | rfl | rfl | rfl | rfl | rfl | rfl | rfl <;> kernel_rfl
theorem spec_ModeRange_eq {mode : Int} (h : mOk mode = true) : spec_ModeRange.f mode = some ((mRow mode).2.2.1, (mRow mode).2.2.2, true) := by
 rcases mOk_cases h with rfl | rfl | rfl | rfl | rfl | rfl | rfl | rfl <;> kernel_rfl
theorem spec_ModeRange_no {mode : Int} (h : mOk mode = false) : spec_ModeRange.f mode = some (0, 0, false) := by
 unfold spec_ModeRange.f
 rw [spec_l5Mode_eq, h]; rfl
theorem spec_ModeIn_ev (m : List S29) (mode : Int) (hm : m.length ≤ 1000000000000) : Ev (fun k => spec_ModeIn.f k m mode) (mIn m mode) := by
 unfold spec_ModeIn.f
 refine Ev.bind (spec_MelodyRange_ev m hm) ?_
 unfold mIn mrange
 cases hs : mSome m
 ·
  rw [if_neg (by simp)]
  cases hok : mOk mode
  ·
   exact Ev.conb (spec_ModeRange_no hok) (Ev.neg (by simp) (Ev.now _))
  ·
   exact Ev.conb (spec_ModeRange_eq hok) (Ev.neg (by simp) (Ev.now _))
 rw [if_pos rfl]
 have h0 : 0 < m.length := by unfold mSome at hs; simp at hs; exact hs.2
 cases hok : mOk mode
 ·
  exact Ev.conb (spec_ModeRange_no hok) (Ev.pos rfl (Ev.neg (by simp) (Ev.now _)))
 refine Ev.conb (spec_ModeRange_eq hok) (Ev.pos rfl (Ev.pos rfl ?_))
 simp only [Bool.true_and]
 rw [w64 (x := (m.length : Int) - 1) (by omega) (by omega)]
 by_cases h1 : mlo (rd_T29 m 0).f0 m < (mRow mode).2.2.1
 ·
  refine Ev.pos h1 (Ev.eqr (Ev.now _) ?_)
  rw [decide_eq_false (by omega : ¬ (mRow mode).2.2.1 ≤ mlo (rd_T29 m 0).f0 m)]; simp
 ·
  refine Ev.neg h1 ?_
  rw [decide_eq_true (by omega : (mRow mode).2.2.1 ≤ mlo (rd_T29 m 0).f0 m)]
  by_cases h2 : mhi (rd_T29 m 0).f0 m > (mRow mode).2.2.2
  ·
   refine Ev.pos h2 (Ev.eqr (Ev.now _) ?_)
   rw [decide_eq_false (by omega : ¬ mhi (rd_T29 m 0).f0 m ≤ (mRow mode).2.2.2)]; simp
  ·
   refine Ev.neg h2 (Ev.pos (by omega) (Ev.pos (by omega) (Ev.conb (spec_ModeFinal_eq hok) (Ev.eqr (Ev.now _) ?_))))
   rw [decide_eq_true (by omega : mhi (rd_T29 m 0).f0 m ≤ (mRow mode).2.2.2)]; simp

theorem spec_ModeAll_ev (m : List S29) (hm : m.length ≤ 1000000000000) : Ev (fun k => spec_ModeAll.f k m) (mUp m 8) := by
 unfold spec_ModeAll.f
 have := Ev.upto (fun k (s : List Int) i => spec_ModeAll.l0 k m s (i + 1)) (fun i => mUp m i) 8 (mUp m 8) (by
  refine Ev.succ ?_
  simp only [spec_ModeAll.l0]
  exact Ev.neg (by omega) (Ev.now _)) (by
  intro i hi ih
  have hl := mUp_len m i
  refine Ev.succ ?_
  simp only [spec_ModeAll.l0]
  rw [w64 (by omega) (by omega)]
  refine Ev.pos (by omega) (Ev.bind (spec_ModeIn_ev m _ hm) ?_)
  simp only [mUp] at ih
  by_cases h : mIn m ((i : Int) + 1) = true
  ·
   rw [if_pos h] at ih
   exact Ev.pos h (Ev.pos (by omega) ih)
  ·
   rw [if_neg h] at ih
   exact Ev.neg h ih) 0 (Nat.zero_le _)
 simpa [mUp] using this

theorem spec_ModeMoves_ev (m : List S29) (hm : m.length ≤ 1000000000000) : Ev (fun n => spec_ModeMoves.f n m) (mmRest m 41) := by
 have go : ∀ (n : Nat) (X : List Int), n ≤ 41 → X.length + n ≤ 41 → Ev (fun t => spec_ModeMoves.l0 t m X (21 - (n : Int))) (X ++ mmRest m n) := by
  intro n
  induction n with
  | zero =>
   intro X _ _
   refine Ev.succ ?_
   simp only [spec_ModeMoves.l0]
   exact Ev.neg (by omega) (Ev.eqr (Ev.now _) (by simp [mmRest]))
  | succ n ih =>
   intro X h1 h2
   obtain ⟨k, hk⟩ : ∃ k : Int, k = 20 - (n : Int) := ⟨_, rfl⟩
   rw [show (21 - ((n + 1 : Nat) : Int)) = k by omega]
   have e : k + 1 = 21 - (n : Int) := by omega
   simp only [mmRest]
   rw [← hk]
   have hml := mmove_len m k
   have no : Ev (fun t => spec_ModeMoves.l0 t m X (wrap64 (k + 1))) (X ++ mmRest m n) := by
    rw [w64 (x := k + 1) (by omega) (by omega), e]
    exact ih X (by omega) (by omega)
   refine Ev.succ ?_
   simp only [spec_ModeMoves.l0]
   refine Ev.pos (by omega) (Ev.bind (spec_MelodyMove_ev m k hm) ?_)
   cases ho : (mmove m k).2
   ·
    refine Ev.neg (by simp) ?_
    rw [if_neg (by unfold mmGood; rw [ho]; simp)]
    exact no
   ·
    refine Ev.pos rfl (Ev.bind (spec_ModeAll_ev _ (by omega)) ?_)
    by_cases h0 : 0 < (mUp (mmove m k).1 8).length
    ·
     refine Ev.pos (by omega) (Ev.pos (by omega) ?_)
     rw [if_pos (by unfold mmGood; rw [ho, decide_eq_true h0]; rfl), w64 (x := k + 1) (by omega) (by omega), e]
     refine Ev.eqr (ih (X ++ [k]) (by omega) (by rw [List.length_append, List.length_singleton]; omega)) (by simp)
    ·
     refine Ev.neg (by omega) ?_
     rw [if_neg (by unfold mmGood; rw [ho, decide_eq_false h0]; simp)]
     exact no
 have := go 41 [] (Nat.le_refl _) (by simp)
 show Ev (fun t => spec_ModeMoves.l0 t m [] (-20)) (mmRest m 41)
 simpa using this
end Go.Proofs.YthhnaplmjpacnaaDoor.Pure
namespace Go.Proofs.YthhnaplmjpacnaaDoor.Pure
set_option linter.unusedVariables false
set_option linter.unusedSimpArgs false
open Go Go.RowKit Go.Proofs.YthhnaplmjpacnaaDoor.PFnModeMoves Go.Proofs.YthhnaplmjpacnaaDoorW.PrintWords Go.Proofs.YthhnaplmjpacnaaDoorW.PrintLast Go.Proofs.YthhnaplmjpacnaaDoorW.PrintMore

structure Code (s : List Int) : Prop where
 b : ∀ x ∈ s, 0 ≤ x ∧ x ≤ 255
 l : s.length ≤ 2000
theorem open_ev (l0 : List Int) (hw : ∀ x ∈ l0, (Lit.int .u8 x).wf = true) : ∃ s, spec_l6Open.f l0 = some (s, 0) ∧ Code s := by
 have hb : ∀ x ∈ l0, 0 ≤ x ∧ x ≤ 255 := by
  intro x hx
  have := hw x hx
  have e1 : IntKind.u8.min = 0 := by decide
  have e2 : IntKind.u8.max = 255 := by decide
  simp only [Lit.wf, e1, e2] at this
  simpa using this
 unfold spec_l6Open.f
 by_cases h : (l0.length : Int) > 2000
 ·
  refine ⟨l0.take 2000, by rw [if_pos h, if_pos (by omega)], ⟨fun x hx => hb x (List.mem_of_mem_take hx), by rw [List.length_take]; omega⟩⟩
 ·
  exact ⟨l0, by rw [if_neg h], ⟨hb, by omega⟩⟩
theorem pick_ev {s : List Int} (hc : Code s) (p n : Int) (hp : 0 ≤ p) (hp' : p ≤ 1000000000) :
 Evx (fun k => spec_l6Rd_pick.f k s p n) (fun r => 0 ≤ r.1 ∧ (r.1 < n ∨ r.1 = 0) ∧ r.2 = p + 1) := by
 have hw : wrap64 (p + 1) = p + 1 := w64 (by omega) (by omega)
 have hw' : wrap64 (p + 1 - 1) = p := by rw [w64 (by omega) (by omega)]; omega
 have hl := hc.l
 unfold spec_l6Rd_pick.f
 rw [hw]
 by_cases hn : n < 1
 ·
  refine Evx.pos hn (Evx.succ ?_)
  simp only [spec_l6Rd_pick.j0, if_true]
  exact Evx.now ⟨by simp, by simp, rfl⟩
 ·
  refine Evx.neg hn (Evx.succ ?_)
  have tm : ∀ x : Int, 0 ≤ x → 0 ≤ Int.tmod x n ∧ Int.tmod x n < n := fun x hx => ⟨Int.tmod_nonneg n hx, Int.tmod_lt_of_pos x (by omega)⟩
  by_cases h0 : s.length = 0
  ·
   have e : ((s.length : Int) == 0) = true := by simp [h0]
   simp only [spec_l6Rd_pick.j0, e, if_true]
   exact Evx.now ⟨by simp, by simp, rfl⟩
  ·
   have e : ((s.length : Int) == 0) = false := by rw [beq_eq_false_iff_ne]; omega
   simp only [spec_l6Rd_pick.j0, e, hw']
   refine Evx.neg (by simp) ?_
   by_cases hlt : p < (s.length : Int)
   ·
    refine Evx.pos hlt (Evx.pos hp (Evx.neg (by omega) (Evx.now ?_)))
    have hb := rd_bd hc.b p
    rw [w64 (x := rd s p) (by omega) (by omega)]
    have := tm (rd s p) hb.1
    exact ⟨this.1, .inl this.2, rfl⟩
   ·
    refine Evx.neg hlt (Evx.neg (by omega) ?_)
    have t1 : 0 ≤ Int.tmod p s.length := Int.tmod_nonneg _ hp
    have t1' : Int.tmod p s.length < s.length := Int.tmod_lt_of_pos p (by omega)
    rw [w64 (x := p * 7) (by omega) (by omega), w64 (x := p * 7 + 3) (by omega) (by omega)]
    have t2 : 0 ≤ Int.tmod (p * 7 + 3) s.length := Int.tmod_nonneg _ (by omega)
    have t2' : Int.tmod (p * 7 + 3) s.length < s.length := Int.tmod_lt_of_pos _ (by omega)
    refine Evx.pos t1 (Evx.pos t1' (Evx.pos t2 (Evx.pos t2' (Evx.neg (by omega) (Evx.now ?_)))))
    have hb1 := rd_bd hc.b (Int.tmod p s.length)
    have hb2 := rd_bd hc.b (Int.tmod (p * 7 + 3) s.length)
    have hd : 0 ≤ Int.tdiv p s.length ∧ Int.tdiv p s.length ≤ p := by
     rw [Int.tdiv_eq_ediv_of_nonneg hp]
     exact ⟨Int.ediv_nonneg hp (by omega), Int.ediv_le_self _ hp⟩
    generalize rd s (Int.tmod p s.length) = a at *
    generalize rd s (Int.tmod (p * 7 + 3) s.length) = b at *
    generalize Int.tdiv p s.length = c at *
    obtain ⟨X, hX, hX0, hX1⟩ : ∃ X : Int, wrap64 (wrap64 (wrap64 (wrap64 (wrap64 a * 131) + wrap64 (wrap64 b * 1117)) + wrap64 (p * 29)) + wrap64 (wrap64 c * 53)) = X ∧ 0 ≤ X ∧ X < 1000000000000 := by
     refine ⟨a * 131 + b * 1117 + p * 29 + c * 53, ?_, by omega, by omega⟩
     rw [w64 (x := a) (by omega) (by omega), w64 (x := b) (by omega) (by omega), w64 (x := c) (by omega) (by omega), w64 (x := a * 131) (by omega) (by omega), w64 (x := b * 1117) (by omega) (by omega), w64 (x := p * 29) (by omega) (by omega), w64 (x := c * 53) (by omega) (by omega), w64 (x := a * 131 + b * 1117) (by omega) (by omega), w64 (x := a * 131 + b * 1117 + p * 29) (by omega) (by omega), w64 (by omega) (by omega)]
    rw [hX]
    have hq : 0 ≤ Int.tdiv X 64 ∧ Int.tdiv X 64 ≤ X := by
     rw [Int.tdiv_eq_ediv_of_nonneg hX0]; omega
    rw [w64 (x := Int.tdiv X 64) (by omega) (by omega)]
    have := tm _ (xor_bd X (Int.tdiv X 64) hX0 (by omega) hq.1 (by omega))
    exact ⟨this.1, .inl this.2, rfl⟩

theorem drawMelody_loop {s : List Int} (hc : Code s) (n : Int) (hn : n ≤ 1000) (d : Nat) : ∀ (acc : List S29) (step p : Int), (acc.length : Int) + d = n → (∀ t ∈ acc, -1 ≤ t.f0 ∧ t.f0 ≤ 21) → 1 ≤ step → step ≤ 15 → 0 ≤ p → p + 2 * d ≤ 100000000 →
 Evx (fun k => spec_l91Melody.l0 k acc n step acc.length s p) (fun r => (r.1.length : Int) = n ∧ p ≤ r.2 ∧ r.2 ≤ p + 2 * d + 2 ∧ ∀ t ∈ r.1, -1 ≤ t.f0 ∧ t.f0 ≤ 21) := by
 induction d with
 | zero =>
  intro acc step p hl ha h1 h2 hp hp'
  refine Evx.succ ?_
  simp only [spec_l91Melody.l0]
  refine Evx.neg (by omega) (Evx.ite (fun hpos => ?_) (fun _ => Evx.now ⟨(by (try simp only [List.length_set, List.length_drop, List.length_take, List.length_append, List.length_cons, List.length_nil, Int.natCast_add, Int.natCast_one, Int.natCast_zero] at *); omega), (by (try simp only [List.length_set, List.length_drop, List.length_take, List.length_append, List.length_cons, List.length_nil, Int.natCast_add, Int.natCast_one, Int.natCast_zero] at *); omega), (by (try simp only [List.length_set, List.length_drop, List.length_take, List.length_append, List.length_cons, List.length_nil, Int.natCast_add, Int.natCast_one, Int.natCast_zero] at *); omega), ha⟩))
  refine Evx.bind (pick_ev hc p 50 hp (by omega)) ?_
  rintro ⟨r, q⟩ ⟨hr0, hr1, rfl⟩
  refine Evx.ite (fun e => ?_) (fun e => Evx.ite (fun e1 => ?_) (fun _ => Evx.now ⟨(by (try simp only [List.length_set, List.length_drop, List.length_take, List.length_append, List.length_cons, List.length_nil, Int.natCast_add, Int.natCast_one, Int.natCast_zero] at *); omega), (by (try simp only [List.length_set, List.length_drop, List.length_take, List.length_append, List.length_cons, List.length_nil, Int.natCast_add, Int.natCast_one, Int.natCast_zero] at *); omega), (by (try simp only [List.length_set, List.length_drop, List.length_take, List.length_append, List.length_cons, List.length_nil, Int.natCast_add, Int.natCast_one, Int.natCast_zero] at *); omega), ha⟩))
  ·
   refine Evx.someb (Evx.bind (pick_ev hc (p + 1) 3 (by omega) (by omega)) ?_)
   rintro ⟨u, q⟩ ⟨hu0, hu1, rfl⟩
   have hu0 : 0 ≤ u := hu0
   have hu1 : u < 3 ∨ u = 0 := hu1
   refine Evx.pos hu0 (Evx.pos (by (try simp only [List.length_set, List.length_drop, List.length_take, List.length_append, List.length_cons, List.length_nil, Int.natCast_add, Int.natCast_one, Int.natCast_zero] at *); omega) (Evx.pos (by omega) (Evx.now ⟨(by (try simp only [List.length_set, List.length_drop, List.length_take, List.length_append, List.length_cons, List.length_nil, Int.natCast_add, Int.natCast_one, Int.natCast_zero] at *); omega), (by (try simp only [List.length_set, List.length_drop, List.length_take, List.length_append, List.length_cons, List.length_nil, Int.natCast_add, Int.natCast_one, Int.natCast_zero] at *); omega), (by (try simp only [List.length_set, List.length_drop, List.length_take, List.length_append, List.length_cons, List.length_nil, Int.natCast_add, Int.natCast_one, Int.natCast_zero] at *); omega), ?_⟩)))
   refine mem_set_of ha _ _ ?_
   have : u = 0 ∨ u = 1 ∨ u = 2 := by omega
   rcases this with rfl | rfl | rfl <;> simp [rd]
  ·
   rw [w64 (by omega) (by omega)]
   refine Evx.pos (by omega) (Evx.pos (by omega) (Evx.now ⟨(by (try simp only [List.length_set, List.length_drop, List.length_take, List.length_append, List.length_cons, List.length_nil, Int.natCast_add, Int.natCast_one, Int.natCast_zero] at *); omega), (by (try simp only [List.length_set, List.length_drop, List.length_take, List.length_append, List.length_cons, List.length_nil, Int.natCast_add, Int.natCast_one, Int.natCast_zero] at *); omega), (by (try simp only [List.length_set, List.length_drop, List.length_take, List.length_append, List.length_cons, List.length_nil, Int.natCast_add, Int.natCast_one, Int.natCast_zero] at *); omega), ?_⟩))
   refine mem_set_of ha _ _ ?_
   have hlt : (n - 1).toNat < acc.length := by omega
   show -1 ≤ (rd_T29 acc (n - 1)).f0 ∧ (rd_T29 acc (n - 1)).f0 ≤ 21
   unfold rd_T29
   rw [List.getD_eq_getElem?_getD, List.getElem?_eq_getElem hlt]
   exact ha _ (List.getElem_mem hlt)
 | succ d ih =>
  intro acc step p hl ha h1 h2 hp hp'
  refine Evx.succ ?_
  simp only [spec_l91Melody.l0]
  have wl : wrap64 ((acc.length : Int) + 1) = (acc.length : Int) + 1 := w64 (by omega) (by omega)
  have stepok : ∀ u : Int, 0 ≤ u → u < 5 ∨ u = 0 → 1 ≤ mx 1 (mn 15 (wrap64 (wrap64 (step + u) - 2))) ∧ mx 1 (mn 15 (wrap64 (wrap64 (step + u) - 2))) ≤ 15 := by
   intro u hu hu'
   rw [w64 (x := step + u) (by omega) (by omega), w64 (by omega) (by omega)]
   have a := mn_le 15 (step + u - 2)
   have b := mx_le 1 (mn 15 (step + u - 2))
   omega
  refine Evx.pos (by omega) (Evx.someb (Evx.ite (fun _ => ?_) (fun _ => ?_)))
  ·
   refine Evx.bind (pick_ev hc p 3 hp (by omega)) ?_
   rintro ⟨r, q⟩ ⟨hr0, hr1, rfl⟩
   refine Evx.pos (by omega) (Evx.bind (pick_ev hc (p + 1) 5 (by omega) (by omega)) ?_)
   rintro ⟨u, q⟩ ⟨hu0, hu1, rfl⟩
   have so := stepok u hu0 hu1
   have := ih (acc ++ [⟨step, r == 0⟩]) _ (p + 1 + 1) (by (try simp only [List.length_set, List.length_drop, List.length_take, List.length_append, List.length_cons, List.length_nil, Int.natCast_add, Int.natCast_one, Int.natCast_zero] at *); omega) (by
    intro t ht
    rcases List.mem_append.1 ht with ht | ht
    ·
     exact ha t ht
    ·
     obtain rfl := List.mem_singleton.1 ht; exact ⟨(by (try simp only [List.length_set, List.length_drop, List.length_take, List.length_append, List.length_cons, List.length_nil, Int.natCast_add, Int.natCast_one, Int.natCast_zero] at *); omega), (by (try simp only [List.length_set, List.length_drop, List.length_take, List.length_append, List.length_cons, List.length_nil, Int.natCast_add, Int.natCast_one, Int.natCast_zero] at *); omega)⟩) so.1 so.2 (by omega) (by omega)
   simp only [List.length_append, List.length_singleton, Int.natCast_add, Int.natCast_one] at this
   rw [wl]
   exact this.mono (by rintro ⟨m, q⟩ ⟨e1, e2, e3, e4⟩; exact ⟨e1, (by (try simp only [List.length_set, List.length_drop, List.length_take, List.length_append, List.length_cons, List.length_nil, Int.natCast_add, Int.natCast_one, Int.natCast_zero] at *); omega), (by (try simp only [List.length_set, List.length_drop, List.length_take, List.length_append, List.length_cons, List.length_nil, Int.natCast_add, Int.natCast_one, Int.natCast_zero] at *); omega), e4⟩)
  ·
   refine Evx.pos (by omega) (Evx.bind (pick_ev hc p 5 (by omega) (by omega)) ?_)
   rintro ⟨u, q⟩ ⟨hu0, hu1, rfl⟩
   have so := stepok u hu0 hu1
   have := ih (acc ++ [⟨step, false⟩]) _ (p + 1) (by (try simp only [List.length_set, List.length_drop, List.length_take, List.length_append, List.length_cons, List.length_nil, Int.natCast_add, Int.natCast_one, Int.natCast_zero] at *); omega) (by
    intro t ht
    rcases List.mem_append.1 ht with ht | ht
    ·
     exact ha t ht
    ·
     obtain rfl := List.mem_singleton.1 ht; exact ⟨(by (try simp only [List.length_set, List.length_drop, List.length_take, List.length_append, List.length_cons, List.length_nil, Int.natCast_add, Int.natCast_one, Int.natCast_zero] at *); omega), (by (try simp only [List.length_set, List.length_drop, List.length_take, List.length_append, List.length_cons, List.length_nil, Int.natCast_add, Int.natCast_one, Int.natCast_zero] at *); omega)⟩) so.1 so.2 (by omega) (by omega)
   simp only [List.length_append, List.length_singleton, Int.natCast_add, Int.natCast_one] at this
   rw [wl]
   exact this.mono (by rintro ⟨m, q⟩ ⟨e1, e2, e3, e4⟩; exact ⟨e1, (by (try simp only [List.length_set, List.length_drop, List.length_take, List.length_append, List.length_cons, List.length_nil, Int.natCast_add, Int.natCast_one, Int.natCast_zero] at *); omega), (by (try simp only [List.length_set, List.length_drop, List.length_take, List.length_append, List.length_cons, List.length_nil, Int.natCast_add, Int.natCast_one, Int.natCast_zero] at *); omega), e4⟩)
theorem drawMelody_ev {s : List Int} (hc : Code s) (p top : Int) (hp : 0 ≤ p) (hp' : p ≤ 1000000) (hm : 0 ≤ top) (hm' : top ≤ 500) :
 Evx (fun k => spec_l91Melody.f k s p top) (fun r => (r.1.length : Int) ≤ top ∧ p ≤ r.2 ∧ r.2 ≤ p + 2000 ∧ ∀ t ∈ r.1, -1 ≤ t.f0 ∧ t.f0 ≤ 21) := by
 unfold spec_l91Melody.f
 rw [w64 (x := top + 1) (by omega) (by omega)]
 refine Evx.bind (pick_ev hc p (top + 1) hp (by omega)) ?_
 rintro ⟨n, q⟩ ⟨hn0, hn1, rfl⟩
 have hn0 : 0 ≤ n := hn0
 have hn1 : n < top + 1 ∨ n = 0 := hn1
 refine Evx.bind (pick_ev hc (p + 1) 5 (by omega) (by omega)) ?_
 rintro ⟨u, q⟩ ⟨hu0, hu1, rfl⟩
 have hu0 : 0 ≤ u := hu0
 have hu1 : u < 5 ∨ u = 0 := hu1
 have := drawMelody_loop hc n (by omega) n.toNat [] (wrap64 (4 + u)) (p + 1 + 1) (by (try simp only [List.length_set, List.length_drop, List.length_take, List.length_append, List.length_cons, List.length_nil, Int.natCast_add, Int.natCast_one, Int.natCast_zero] at *); omega) (by simp) (by rw [w64 (by omega) (by omega)]; omega) (by rw [w64 (by omega) (by omega)]; omega) (by omega) (by omega)
 exact this.mono (by rintro ⟨m, q⟩ ⟨e1, e2, e3, e4⟩; exact ⟨(by (try simp only [List.length_set, List.length_drop, List.length_take, List.length_append, List.length_cons, List.length_nil, Int.natCast_add, Int.natCast_one, Int.natCast_zero] at *); omega), (by (try simp only [List.length_set, List.length_drop, List.length_take, List.length_append, List.length_cons, List.length_nil, Int.natCast_add, Int.natCast_one, Int.natCast_zero] at *); omega), (by (try simp only [List.length_set, List.length_drop, List.length_take, List.length_append, List.length_cons, List.length_nil, Int.natCast_add, Int.natCast_one, Int.natCast_zero] at *); omega), e4⟩)

theorem drawChant_ev {s : List Int} (hc : Code s) (p : Int) (hp : 0 ≤ p) (hp' : p ≤ 1000000) :
 Evx (fun k => spec_l92Chant.f k s p) (fun r => (r.1.length : Int) ≤ 8 ∧ p ≤ r.2 ∧ r.2 ≤ p + 3000) := by
 unfold spec_l92Chant.f
 refine Evx.bind (drawMelody_ev hc p 7 hp hp' (by omega) (by omega)) ?_
 rintro ⟨m, q⟩ ⟨h1, h2, h3, _⟩
 have h1 : (m.length : Int) ≤ 7 := h1
 have h2 : p ≤ q := h2
 have h3 : q ≤ p + 2000 := h3
 refine Evx.bind (pick_ev hc q 5 (by omega) (by omega)) ?_
 rintro ⟨u, q'⟩ ⟨_, _, rfl⟩
 refine Evx.ite (fun _ => ?_) (fun _ => Evx.now ⟨by show (m.length : Int) ≤ 8; omega, by show p ≤ q + 1; omega, by show q + 1 ≤ p + 3000; omega⟩)
 refine Evx.bind1 (spec_MelodyValid_ev m (by omega)) ?_
 refine Evx.ite (fun _ => ?_) (fun _ => Evx.now ⟨by show (m.length : Int) ≤ 8; omega, by show p ≤ q + 1; omega, by show q + 1 ≤ p + 3000; omega⟩)
 refine Evx.bind (pick_ev hc (q + 1) 4 (by omega) (by omega)) ?_
 rintro ⟨u2, q2⟩ ⟨_, _, rfl⟩
 refine Evx.pos (by omega) (Evx.now ⟨?_, ?_, ?_⟩)
 ·
  show ((m ++ [_]).length : Int) ≤ 8
  rw [List.length_append, List.length_singleton]; omega
 ·
  show p ≤ q + 1 + 1; omega
 ·
  show q + 1 + 1 ≤ p + 3000; omega

theorem sameInts_ev (l : List Int) (hl : l.length ≤ 1000000000000000) : Ev (fun k => laws_sameInts.f k l l) true := by
 unfold laws_sameInts.f
 refine Ev.pos rfl ?_
 have := Ev.over (0 : Int) l (fun k (_ : Unit) i => laws_sameInts.l0 k l l i) (fun _ _ => true) (fun _ _ => True) (by
  intro s _
  refine Ev.succ ?_
  simp only [laws_sameInts.l0]
  exact Ev.neg (by omega) (Ev.now _)) (by
  intro s i rest _ hi _ ih
  refine Ev.succ ?_
  simp only [laws_sameInts.l0]
  refine Ev.pos (by omega) (Ev.pos (by omega) (Ev.pos (by omega) (Ev.pos (by simp) ?_)))
  rw [w64 (by omega) (by omega)]
  exact ih () trivial) 0 () (Nat.zero_le _) trivial
 simpa using this

end Go.Proofs.YthhnaplmjpacnaaDoor.Pure
namespace Go.Proofs.YthhnaplmjpacnaaDoor.Pure
set_option linter.unusedVariables false
set_option linter.unusedSimpArgs false
open Go Go.RowKit Go.Proofs.YthhnaplmjpacnaaDoor.PFnModeMoves Go.Proofs.YthhnaplmjpacnaaDoorW.PrintWords Go.Proofs.YthhnaplmjpacnaaDoorW.PrintLast Go.Proofs.YthhnaplmjpacnaaDoorW.PrintMore

def MV (k s : Int) : List S29 → List S29 → Prop
 | [], [] => True
 | x :: xs, y :: ys => (y.f0 = x.f0 + k ∧ toneOk y = true ∧ hgt y - hgt x = s) ∧ MV k s xs ys
 | _, _ => False
theorem MV_len {k s : Int} : ∀ {m M : List S29}, MV k s m M → M.length = m.length
 | [], [], _ => rfl
 | x :: xs, y :: ys, h => by rw [List.length_cons, List.length_cons, MV_len h.2]
 | [], _ :: _, h => h.elim
 | _ :: _, [], h => h.elim
theorem MV_get {k s : Int} : ∀ {m M : List S29}, MV k s m M → ∀ i, i < m.length → (M.getD i z29).f0 = (m.getD i z29).f0 + k
 | [], [], _, i, hi => by cases hi
 | x :: xs, y :: ys, h, 0, _ => h.1.1
 | x :: xs, y :: ys, h, i + 1, hi => by
  have := MV_get h.2 i (by simp only [List.length_cons] at hi; omega)
  simpa using this
 | [], _ :: _, h, _, _ => h.elim
 | _ :: _, [], h, _, _ => h.elim
theorem MV_all {k s : Int} : ∀ {m M : List S29}, mvAll k s m = some M → MV k s m M
 | [], M, h => by cases h; trivial
 | x :: xs, M, h => by
  simp only [mvAll] at h
  have good : ∀ b, mvGood k s x b = true → (mvT x k b).f0 = x.f0 + k ∧ toneOk (mvT x k b) = true ∧ hgt (mvT x k b) - hgt x = s := by
   intro b hb
   unfold mvGood at hb
   rw [Bool.and_eq_true, decide_eq_true_eq] at hb
   exact ⟨rfl, hb.1, hb.2⟩
  split at h
  ·
   rename_i hg
   obtain ⟨l, h1, rfl⟩ := Option.map_eq_some_iff.1 h
   exact ⟨good _ hg, MV_all h1⟩
  ·
   split at h
   ·
    rename_i hg
    obtain ⟨l, h1, rfl⟩ := Option.map_eq_some_iff.1 h
    exact ⟨good _ hg, MV_all h1⟩
   ·
    cases h
theorem mmove_spec {m M : List S29} {k : Int} (h : mmove m k = (M, true)) : melOk m = true ∧ ((m = [] ∧ M = []) ∨ (m ≠ [] ∧ (-20 ≤ k ∧ k ≤ 20) ∧ ∃ s, MV k s m M)) := by
 unfold mmove at h
 split at h
 ·
  rename_i hok
  refine ⟨hok, ?_⟩
  split at h
  ·
   rename_i h0
   cases h
   exact .inl ⟨List.eq_nil_of_length_eq_zero h0, rfl⟩
  ·
   rename_i h0
   refine .inr ⟨fun e => h0 (by rw [e]; rfl), ?_⟩
   split at h
   ·
    rename_i hk
    refine ⟨hk, ?_⟩
    have go : ∀ b, mmTry m k b = true → mmOf m k b = M → ∃ s, MV k s m M := by
     intro b ht ho
     unfold mmTry at ht
     rw [Bool.and_eq_true] at ht
     unfold mmOf at ho
     unfold movedP at ht ho
     obtain ⟨s, hs⟩ : ∃ s, s = hgt (mvT (rd_T29 m 0) k b) - hgt (rd_T29 m 0) := ⟨_, rfl⟩
     rw [← hs] at ht ho
     cases hl : mvAll k s m with
     | none => rw [hl] at ht; exact absurd ht.2 (by simp)
     | some l =>
      rw [hl] at ho
      have ho : l = M := ho
      subst ho
      exact ⟨s, MV_all hl⟩
    split at h
    ·
     rename_i ht
     exact go _ ht (congrArg Prod.fst h)
    ·
     split at h
     ·
      rename_i ht
      exact go _ ht (congrArg Prod.fst h)
     ·
      cases h
   ·
    cases h
 ·
  cases h
end Go.Proofs.YthhnaplmjpacnaaDoor.Pure
namespace Go.Proofs.YthhnaplmjpacnaaDoor.Pure
set_option linter.unusedVariables false
set_option linter.unusedSimpArgs false
open Go Go.RowKit Go.Proofs.YthhnaplmjpacnaaDoor.PFnModeMoves Go.Proofs.YthhnaplmjpacnaaDoorW.PrintWords Go.Proofs.YthhnaplmjpacnaaDoorW.PrintLast Go.Proofs.YthhnaplmjpacnaaDoorW.PrintMore

theorem mmRest_mem {m : List S29} {k : Int} : ∀ n, k ∈ mmRest m n → mmGood m k = true ∧ 21 - (n : Int) ≤ k ∧ k ≤ 20
 | 0, h => by simp [mmRest] at h
 | n + 1, h => by
  simp only [mmRest] at h
  split at h
  ·
   rename_i hg
   rcases List.mem_cons.1 h with rfl | h
   ·
    exact ⟨hg, by omega, by omega⟩
   ·
    have := mmRest_mem n h; exact ⟨this.1, by omega, this.2.2⟩
  ·
   have := mmRest_mem n h; exact ⟨this.1, by omega, this.2.2⟩
theorem mem_mmRest {m : List S29} {k : Int} (hg : mmGood m k = true) : ∀ n : Nat, 21 - (n : Int) ≤ k → k ≤ 20 → k ∈ mmRest m n
 | 0, h, h' => by omega
 | n + 1, h, h' => by
  simp only [mmRest]
  by_cases e : k = 20 - (n : Int)
  ·
   subst e
   rw [if_pos hg]; exact List.mem_cons_self
  ·
   have := mem_mmRest hg n (by omega) h'
   split
   ·
    exact List.mem_cons_of_mem _ this
   ·
    exact this
theorem mmRest_asc {m : List S29} : ∀ n, (mmRest m n).Pairwise (· < ·)
 | 0 => by simp [mmRest]
 | n + 1 => by
  simp only [mmRest]
  split
  ·
   refine List.pairwise_cons.2 ⟨fun k hk => ?_, mmRest_asc n⟩
   have := mmRest_mem n hk; omega
  ·
   exact mmRest_asc n
theorem asc_len : ∀ (l : List Int) (a b : Int), l.Pairwise (· < ·) → (∀ x ∈ l, a ≤ x ∧ x < b) → a ≤ b → (l.length : Int) ≤ b - a
 | [], a, b, _, _, h => by simp; omega
 | x :: xs, a, b, hp, hx, h => by
  obtain ⟨p1, p2⟩ := List.pairwise_cons.1 hp
  have h1 := hx x List.mem_cons_self
  have := asc_len xs (x + 1) b p2 (fun y hy => ⟨by have := p1 y hy; omega, (hx y (List.mem_cons_of_mem _ hy)).2⟩) (by omega)
  rw [List.length_cons]; omega
theorem mUp_some {m : List S29} : ∀ n, 0 < (mUp m n).length → ∃ mode, mIn m mode = true
 | 0, h => by simp [mUp] at h
 | n + 1, h => by
  simp only [mUp] at h
  split at h
  ·
   rename_i hg; exact ⟨_, hg⟩
  ·
   exact mUp_some n h
theorem mIn_last {m : List S29} {mode : Int} (h : mIn m mode = true) : 4 ≤ (rd_T29 m ((m.length : Int) - 1)).f0 ∧ (rd_T29 m ((m.length : Int) - 1)).f0 ≤ 7 := by
 unfold mIn at h
 simp only [Bool.and_eq_true, beq_iff_eq] at h
 obtain ⟨_, h1, h2, _⟩ := h
 rw [h2]
 rcases mOk_cases h1 with rfl | rfl | rfl | rfl | rfl | rfl | rfl | rfl <;> decide
theorem mmGood_last {m : List S29} {k : Int} (h : mmGood m k = true) : melOk m = true ∧ m ≠ [] ∧ 4 ≤ (rd_T29 m ((m.length : Int) - 1)).f0 + k ∧ (rd_T29 m ((m.length : Int) - 1)).f0 + k ≤ 7 := by
 unfold mmGood at h
 rw [Bool.and_eq_true, decide_eq_true_eq] at h
 obtain ⟨h1, h2⟩ := h
 obtain ⟨⟨M, ok⟩, hM⟩ : ∃ R, R = mmove m k := ⟨_, rfl⟩
 rw [← hM] at h1 h2
 have h1 : ok = true := h1
 have h2 : 0 < (mUp M 8).length := h2
 subst h1
 obtain ⟨mode, hin⟩ := mUp_some 8 h2
 have hl := mIn_last hin
 obtain ⟨hok, hc⟩ := mmove_spec hM.symm
 rcases hc with ⟨rfl, rfl⟩ | ⟨hne, hk, s, hmv⟩
 ·
  unfold mIn mSome at hin; simp at hin
 ·
  have hlen := MV_len hmv
  have hpos : 0 < m.length := List.length_pos_iff.2 hne
  have hg := MV_get hmv (m.length - 1) (by omega)
  have e1 : rd_T29 M ((M.length : Int) - 1) = M.getD (m.length - 1) z29 := by unfold rd_T29; rw [hlen, show ((m.length : Int) - 1).toNat = m.length - 1 by omega]
  have e2 : rd_T29 m ((m.length : Int) - 1) = m.getD (m.length - 1) z29 := by unfold rd_T29; rw [show ((m.length : Int) - 1).toNat = m.length - 1 by omega]
  rw [e1, hg] at hl
  rw [e2]
  exact ⟨hok, hne, hl⟩
theorem mvAll_zero : ∀ m : List S29, m.all toneOk = true → ∃ L, mvAll 0 0 m = some L
 | [], _ => ⟨[], rfl⟩
 | x :: xs, h => by
  rw [List.all_cons, Bool.and_eq_true] at h
  obtain ⟨L, hL⟩ := mvAll_zero xs h.2
  have hg : mvGood 0 0 x x.f1 = true := by
   have e : mvT x 0 x.f1 = x := by unfold mvT; rw [Int.add_zero]
   unfold mvGood
   rw [e, h.1, decide_eq_true (by omega)]; rfl
  simp only [mvAll]
  by_cases h1 : mvGood 0 0 x false = true
  ·
   rw [if_pos h1, hL]; exact ⟨_, rfl⟩
  ·
   rw [if_neg h1]
   have : x.f1 = true := by
    cases hb : x.f1
    ·
     rw [hb] at hg; exact absurd hg h1
    ·
     rfl
   rw [this] at hg
   rw [if_pos hg, hL]; exact ⟨_, rfl⟩
theorem mmove_zero {m : List S29} (hok : melOk m = true) : (mmove m 0).2 = true := by
 unfold mmove
 rw [if_pos hok]
 split
 ·
  rfl
 rename_i h0
 rw [if_pos (by omega)]
 have try_ : mmTry m 0 (rd_T29 m 0).f1 = true := by
  have hx : toneOk (rd_T29 m 0) = true := by
   refine List.all_eq_true.1 (melOk_all hok) _ ?_
   unfold rd_T29
   rw [List.getD_eq_getElem?_getD, List.getElem?_eq_getElem (by simp; omega)]; exact List.getElem_mem _
  have e : mvT (rd_T29 m 0) 0 (rd_T29 m 0).f1 = rd_T29 m 0 := by unfold mvT; rw [Int.add_zero]
  obtain ⟨L, hL⟩ := mvAll_zero m (melOk_all hok)
  unfold mmTry
  rw [e, hx, Int.sub_self]
  unfold movedP
  rw [hL]; rfl
 by_cases h1 : mmTry m 0 false = true
 ·
  rw [if_pos h1]
 ·
  rw [if_neg h1]
  cases hb : (rd_T29 m 0).f1
  ·
   rw [hb] at try_; exact absurd try_ h1
  ·
   rw [hb] at try_
   rw [if_pos try_]
theorem FnModeMoves_core (l0 : List Int) (hm0 : l0.length ≤ maxLen) (hw : ∀ x ∈ l0, (Lit.int .u8 x).wf = true) : ∃ k, laws_FnModeMoves.f k l0 = some true := by
 unfold maxLen at hm0
 have key : Ev (fun k => laws_FnModeMoves.f k l0) true := by
  unfold laws_FnModeMoves.f
  by_cases hb : (l0.length : Int) > 1048576
  ·
   exact Ev.pos hb (Ev.now _)
  refine Ev.neg hb ?_
  obtain ⟨m, hd, hm⟩ : ∃ m, Ev (fun n => spec_DrawModeMoves.f n l0) m ∧ m.length ≤ 8 := by
   obtain ⟨s, ho, hc⟩ := open_ev l0 hw
   suffices h : Evx (fun n => spec_DrawModeMoves.f n l0) (fun r => r.length ≤ 8) by
    obtain ⟨m, h1, h2⟩ := h
    exact ⟨m, h1, h2⟩
   unfold spec_DrawModeMoves.f
   refine Evx.conb ho (Evx.bind (drawChant_ev hc 0 (by omega) (by omega)) ?_)
   rintro ⟨m, q⟩ ⟨h1, _, _⟩
   have h1 : (m.length : Int) ≤ 8 := h1
   exact Evx.now (by show m.length ≤ 8; omega)
  obtain ⟨R, hR⟩ : ∃ R, R = mmRest m 41 := ⟨_, rfl⟩
  have hi : impl_ModeMoves.f m = some R := by unfold impl_ModeMoves.f; rw [if_pos (by omega), hR]
  have hs : Ev (fun n => spec_ModeMoves.f n m) R := by rw [hR]; exact spec_ModeMoves_ev m (by omega)
  have hRl : R.length ≤ 41 := by rw [hR]; exact mmRest_len m 41
  have hmem : ∀ k ∈ R, mmGood m k = true := fun k hk => by rw [hR] at hk; exact (mmRest_mem 41 hk).1
  have hasc : R.Pairwise (· < ·) := by rw [hR]; exact mmRest_asc 41
  refine Ev.bind hd (Ev.conb hi (Ev.bind hs (Ev.bind (sameInts_ev R (by omega)) (Ev.pos rfl (Ev.succ ?_)))))
  simp only [laws_FnModeMoves.j0]
  by_cases h0 : R.length = 0
  ·
   have e0 : ((R.length : Int) == 0) = true := by rw [beq_iff_eq]; omega
   rw [e0]
   exact Ev.pos rfl (Ev.bind (sameInts_ev R (by omega)) (Ev.now _))
  have e0 : ((R.length : Int) == 0) = false := by rw [beq_eq_false_iff_ne]; omega
  rw [e0]
  refine Ev.neg (by simp) ?_
  obtain ⟨k1, hk1⟩ : ∃ k, k ∈ R := List.exists_mem_of_length_pos (by omega)
  obtain ⟨hok, hne, _⟩ := mmGood_last (hmem k1 hk1)
  have hpos : 0 < m.length := List.length_pos_iff.2 hne
  obtain ⟨L, hL⟩ : ∃ L, L = (rd_T29 m ((m.length : Int) - 1)).f0 := ⟨_, rfl⟩
  have hLk : ∀ k ∈ R, 4 ≤ L + k ∧ L + k ≤ 7 := fun k hk => by rw [hL]; exact (mmGood_last (hmem k hk)).2.2
  have h4 : R.length ≤ 4 := by
   have := asc_len R (4 - L) (8 - L) hasc (fun x hx => by have := hLk x hx; omega) (by omega)
   omega
  have mv : ∀ k, impl_MelodyMove.f m k = some (mmove m k) := fun k => by unfold impl_MelodyMove.f; rw [if_pos (by omega)]
  have ma : ∀ k, impl_ModeAll.f (mmove m k).1 = some (mUp (mmove m k).1 8) := fun k => by
   have := mmove_len m k
   unfold impl_ModeAll.f; rw [if_pos (by omega)]
  have hz0 := mmove_zero hok
  have hgd : ∀ k, mmGood m k = true → (mmove m k).2 = true ∧ 0 < (mUp (mmove m k).1 8).length := fun k h => by
   unfold mmGood at h; rw [Bool.and_eq_true, decide_eq_true_eq] at h; exact h
  have hLb : 0 ≤ L ∧ L ≤ 20 := by
   rw [hL]
   refine toneOk_bd (List.all_eq_true.1 (melOk_all hok) _ ?_)
   unfold rd_T29
   rw [List.getD_eq_getElem?_getD, List.getElem?_eq_getElem (by omega)]; exact List.getElem_mem _
  have := Ev.over (0 : Int) R (fun n (z : Bool) i => laws_FnModeMoves.l0 n m R z i) (fun _ _ => true) (fun i z => z = decide (0 ∈ R.take i)) (by
   intro z hz
   rw [List.take_length] at hz
   refine Ev.succ ?_
   simp only [laws_FnModeMoves.l0]
   refine Ev.neg (by omega) (Ev.conb (mv 0) (Ev.pos (by omega) (Ev.pos hz0 (Ev.conb (ma 0) (Ev.eqr (Ev.now _) ?_)))))
   subst hz
   rw [beq_iff_eq]
   by_cases hg : mmGood m 0 = true
   ·
    have h1 : (0 : Int) ∈ R := by rw [hR]; exact mem_mmRest hg 41 (by omega) (by omega)
    rw [decide_eq_true h1, decide_eq_true (show ((mUp (mmove m 0).1 8).length : Int) > 0 by have := (hgd 0 hg).2; omega)]
   ·
    have h1 : ¬ (0 : Int) ∈ R := fun h => hg (hmem 0 h)
    rw [decide_eq_false h1, decide_eq_false (show ¬ ((mUp (mmove m 0).1 8).length : Int) > 0 from fun h => hg (by unfold mmGood; rw [hz0, decide_eq_true (by omega)]; rfl))]) (by
   intro z i rest hz hi hdr ih
   obtain ⟨k, hk⟩ : ∃ k, k = R.getD i 0 := ⟨_, rfl⟩
   have hrd : rd R (i : Int) = k := hk.symm
   have hke : k = R[i] := by rw [hk, List.getD_eq_getElem?_getD, List.getElem?_eq_getElem hi]; rfl
   have hkm : k ∈ R := by rw [hke]; exact List.getElem_mem hi
   have hg := hmem k hkm
   have hgg := hgd k hg
   have hLL := hLk k hkm
   have htk : R.take (i + 1) = R.take i ++ [k] := by rw [List.take_succ_eq_append_getElem hi, hke]
   refine Ev.succ ?_
   simp only [laws_FnModeMoves.l0]
   rw [hrd, w64 (x := (m.length : Int) - 1) (by omega) (by omega), ← hL, w64 (x := L + k) (by omega) (by omega), w64 (x := (i : Int) + 1) (by omega) (by omega)]
   refine Ev.pos (by omega) (Ev.pos (by omega) (Ev.conb (mv k) (Ev.pos (by omega) (Ev.pos (by omega) (Ev.pos hgg.1 (Ev.neg (by omega) (Ev.neg (by omega) (Ev.conb (ma k) (Ev.neg (by omega) ?_)))))))))
   have next : ∀ z', z' = decide (0 ∈ R.take (i + 1)) → Ev (fun n => laws_FnModeMoves.l0 n m R z' ((i : Int) + 1)) true := fun z' h => ih z' h
   have tail : Ev (fun n => if z = true then laws_FnModeMoves.l0 n m R true ((i : Int) + 1) else laws_FnModeMoves.l0 n m R (k == 0) ((i : Int) + 1)) true := by
    by_cases hzt : z = true
    ·
     refine Ev.pos hzt (next true ?_)
     rw [hzt] at hz
     have := of_decide_eq_true hz.symm
     exact (decide_eq_true (by rw [htk]; exact List.mem_append_left _ this)).symm
    ·
     refine Ev.neg hzt (next _ ?_)
     have hzf : z = false := by simpa using hzt
     rw [hzf] at hz
     have hno := of_decide_eq_false hz.symm
     rw [htk]
     by_cases h0 : k = 0
     ·
      subst h0
      rw [decide_eq_true (List.mem_append_right _ (List.mem_singleton.2 rfl))]; rfl
     ·
      rw [beq_eq_false_iff_ne.2 h0, decide_eq_false]
      intro h
      rcases List.mem_append.1 h with h | h
      ·
       exact hno h
      ·
       exact h0 (List.mem_singleton.1 h).symm
   by_cases hi0 : (i : Int) > 0
   ·
    refine Ev.pos hi0 ?_
    rw [w64 (x := (i : Int) - 1) (by omega) (by omega)]
    refine Ev.pos (by omega) (Ev.pos (by omega) (Ev.neg ?_ tail))
    have e : rd R ((i : Int) - 1) = R[i - 1] := by
     unfold rd
     rw [show ((i : Int) - 1).toNat = i - 1 by omega, List.getD_eq_getElem?_getD, List.getElem?_eq_getElem (by omega)]; rfl
    rw [e, hke]
    have := List.pairwise_iff_getElem.1 hasc (i - 1) i (by omega) hi (by omega)
    omega
   ·
    exact Ev.neg hi0 tail) 0 false (Nat.zero_le _) (by simp)
  simpa using this
 exact Ev.rounds key
theorem FnModeMoves_walk (l0 : List Int) (A0 : Option Addr) (c0 : Nat) (w : World) (ht : DTab w) (hr0 : Kd.C (Kd.int .u8) w A0 l0.length l0) (hc0 : l0.length ≤ c0) (hw0 : ∀ x ∈ l0, (Lit.int .u8 x).wf = true) (hm0 : l0.length ≤ maxLen) :
 Calls Tryd.prog 9 #[.slice A0 l0.length c0] w fun e w' => e = .returned (.bool true) ∧ Below w.heap.size w w' := by
 obtain ⟨k, h⟩ := FnModeMoves_core l0 hm0 hw0
 exact laws_FnModeMoves.calls k A0 c0 l0 true w ht hr0 hc0 rfl h

def Opn {α : Type} (P : Program) (t : TypeId) (d : Kd α) (ok : α → Prop) : Prop :=
 P.cellsOf t = d.sz ∧ ∀ {H : Type} (enc : TypeId × Value → H) (w : World) (base : Nat) (held : Bool) (fuel : Nat) (cs : List Value) (x : DataW H × List MemPlace), DataW.trod enc P w base (fun _ => true) held fuel t cs = some x → ∃ p, d.K w p cs ∧ ok p
theorem opn_int {P : Program} {t : TypeId} (k : IntKind) (ht : P.underlying t = some (.int k)) (hc : P.cellsOf t = 1) : Opn P t (Kd.int k) (fun n => (Lit.int k n).wf = true) :=
 ⟨hc, fun enc w base held fuel cs x h => by obtain ⟨n, rfl, _, hw⟩ := DataW.trod_int ht h; exact ⟨n, rfl, hw⟩⟩
theorem opn_slice {α : Type} {P : Program} {t e : TypeId} {d : Kd α} {ok : α → Prop} (ht : P.underlying t = some (.slice e)) (hc : P.cellsOf t = 1) (he : Opn P e d ok) : Opn P t (Kd.slice e d) (fun l => (∀ x ∈ l, ok x) ∧ l.length ≤ maxLen) := by
 refine ⟨hc, fun enc w base held fuel cs x h => ?_⟩
 rcases Go.Deep.open_slice ht h with ⟨rfl, _⟩ | ⟨a, len, cap, m, n, D, Pl, rfl, _, hl, hm, hmm, _, hi⟩
 ·
  exact ⟨[], ⟨none, 0, rfl, Nat.le_refl _, rfl, by simp, fun h => by simp at h⟩, by simp, by simp⟩
 ·
  have hmc : m = cap := by simpa using hmm
  clear hmm
  have key : ∀ k, k ≤ len → ∃ l : List α, l.length = k ∧ (∀ x ∈ l, ok x) ∧ ∀ j p, l[j]? = some p → ∃ c, c.length = d.sz ∧ d.K w p c ∧ ∀ i u, c[i]? = some u → w.cell? (a.add (j * d.sz + i)) = some u := by
   intro k
   induction k with
   | zero => intro _; exact ⟨[], rfl, by simp, by simp⟩
   | succ k ih =>
    intro hk
    obtain ⟨l, hll, hlo, hlc⟩ := ih (by omega)
    obtain ⟨cs', hcs, ht'⟩ := hi k (by omega)
    rw [he.1] at hcs
    obtain ⟨p, hp, hop⟩ := he.2 enc w base held n cs' _ ht'
    obtain ⟨_, hcl, hat⟩ := World.cells?_some hcs
    refine ⟨l ++ [p], by simp [hll], ?_, ?_⟩
    ·
     intro x hx
     rcases List.mem_append.1 hx with hx | hx
     ·
      exact hlo x hx
     ·
      rw [List.mem_singleton.1 hx]; exact hop
    ·
     intro j q hq
     by_cases hj : j < l.length
     ·
      rw [List.getElem?_append_left hj] at hq
      exact hlc j q hq
     ·
      have hj2 : j = l.length := by
       have := (List.getElem?_eq_some_iff.1 hq).1
       simp at this; omega
      subst hj2
      rw [List.getElem?_append_right (Nat.le_refl _)] at hq
      simp at hq
      subst hq
      refine ⟨cs', hcl, hp, fun i u hu => ?_⟩
      have hil : i < d.sz := by rw [← hcl]; exact (List.getElem?_eq_some_iff.1 hu).1
      rw [hll, ← Go.Deep.add_add, hat i hil, hu]
  obtain ⟨l, hll, hlo, hlc⟩ := key len (Nat.le_refl _)
  subst hll
  exact ⟨l, ⟨some a, cap, rfl, hl, rfl, by unfold maxLen at hm; omega, fun _ => ⟨a, rfl, hlc⟩⟩, hlo, by omega⟩
/-- A slice argument. -/
theorem opn_arg {α : Type} {P : Program} {t e : TypeId} {d : Kd α} {ok : List α → Prop} (h : Opn P t (Kd.slice e d) ok) {H : Type} {enc : TypeId × Value → H} {w : World} {base : Nat} {held : Bool} {a : Option Addr} {len cap : Nat} {x : DataW H} {p : List MemPlace} (hr : DataW.Trod enc P w base (fun _ => true) held t (.slice a len cap) x p) :
 ∃ l : List α, len = l.length ∧ l.length ≤ cap ∧ d.C w a l.length l ∧ ok l := by
 obtain ⟨fuel, hf⟩ := hr
 obtain ⟨l, ⟨A, c, he, hc, hC⟩, ho⟩ := h.2 enc w base held fuel _ _ hf
 simp [Value.cells] at he
 obtain ⟨rfl, rfl, rfl⟩ := he
 exact ⟨l, rfl, hc, hC, ho⟩

end Go.Proofs.YthhnaplmjpacnaaDoor.Pure
