/- Lemmas for the law FnReadRead. -/
import Derived.Test.YtpcohkffbjdmfaaDoorSFnReadReads4
namespace Go.Proofs.YtpcohkffbjdmfaaDoor.PFnReadRead
open Go.RowKit Go.Proofs.YtpcohkffbjdmfaaDoorW.PrintWords Go.Proofs.YtpcohkffbjdmfaaDoorW.PrintLast Go.Proofs.YtpcohkffbjdmfaaDoorW.PrintMore Go.Proofs.YtpcohkffbjdmfaaDoor.Pure
attribute [local go_sem] max2_int min2_int max_two min_two max_three min_three max_four min_four   -- for this text's walks alone
set_option linter.unusedVariables false
set_option linter.unusedSimpArgs false

mutual
def laws_FnReadRead.j0 : Nat → List (S128) → List (S29) → List Int → Bool → List Int → Bool → Bool → Option (Bool)
 | 0, _, _, _, _, _, _, _ => none
 | k + 1, x3, x4, x5, x6, x7, x8, x49 => if x49 = true then (if (x6 == x8) = true then ((laws_sameInts.f k x5 x7).bind fun t441 => (some t441)) else (some false)) else (if (x4.length : Int) = 0 then (some ((x5.length : Int) == 0)) else (if 0 < (x4.length : Int) then ((impl_FormulasMelody.f k x3 x5 ((rd_T29 x4 0).f0) ((rd_T29 x4 0).f1)).bind fun bt443 => (laws_FnReadRead.l0 k x3 x4 x5 bt443.1 bt443.2 false 1)) else (none)))
def laws_FnReadRead.l0 : Nat → List (S128) → List (S29) → List Int → List (S29) → Bool → Bool → Int → Option (Bool)
 | 0, _, _, _, _, _, _, _ => none
 | k + 1, x3, x4, x5, x9, x10, x11, x12 => if x12 < (x4.length : Int) then (if x11 = true then (laws_FnReadRead.l0 k x3 x4 x5 x9 x10 true (wrap64 (x12 + 1))) else (if 0 ≤ x12 then (laws_FnReadRead.l0 k x3 x4 x5 x9 x10 ((rd_T29 x4 x12).f1) (wrap64 (x12 + 1))) else (none))) else ((impl_MelodyMove.f x4 7).bind fun bt448 => ((impl_FormulasRead.f x3 bt448.1).bind fun bt452 => (if x10 = true then (if x11 = true then (if bt448.2 = true then (if bt452.2 = true then ((laws_sameInts.f k bt452.1 x5).bind fun t456 => (some t456)) else (some false)) else (some true)) else ((laws_sameTones.f k x9 x4).bind fun t457 => (if t457 = true then (if bt448.2 = true then (if bt452.2 = true then ((laws_sameInts.f k bt452.1 x5).bind fun t458 => (some t458)) else (some false)) else (some true)) else (some false)))) else (some false))))
end
def laws_FnReadRead.f (k : Nat) (l0 : List Int) : Option (Bool) := if (l0.length : Int) > 1048576 then (some true) else ((spec_DrawFormulasRead.f k l0).bind fun bt426 => ((impl_FormulasRead.f bt426.1 bt426.2).bind fun bt432 => ((spec_FormulasRead.f k bt426.1 bt426.2).bind fun bt436 => (if (bt432.2 != bt436.2) = true then (laws_FnReadRead.j0 k bt426.1 bt426.2 bt432.1 bt432.2 bt436.1 bt436.2 true) else ((laws_sameInts.f k bt432.1 bt436.1).bind fun t440 => (if t440 = true then (laws_FnReadRead.j0 k bt426.1 bt426.2 bt432.1 bt432.2 bt436.1 bt436.2 (!bt432.2)) else (laws_FnReadRead.j0 k bt426.1 bt426.2 bt432.1 bt432.2 bt436.1 bt436.2 true)))))))
set_option maxHeartbeats 8000000 in
set_option maxRecDepth 100000 in
theorem laws_FnReadRead.calls (k : Nat) (A0 : Option Addr) (c0 : Nat) (l0 : List Int) (r : Bool) (w : World) (ht : HTab w) (hr0 : Kd.C (Kd.int .u8) w A0 l0.length l0) (hc0 : l0.length ≤ c0) (hr : r = true) (h : laws_FnReadRead.f k l0 = some r) :
 Calls Tryd.prog 5 #[.slice A0 l0.length c0] w fun e w' => e = .returned (.bool r) ∧ Below w.heap.size w w' := by
 have HRR := Aside0.mk hr; clear hr; have HT := Aside0.mk ht; clear ht; have hu29 := Tryd.underlying29; have HR0 := Aside0.mk hr0; have HC0 := Aside0.mk hc0; clear hr0 hc0; have HB := Aside0.mk (Below.refl w.heap.size w); have H : (if (l0.length : Int) > 1048576 then (some true) else ((spec_DrawFormulasRead.f k l0).bind fun bt426 => ((impl_FormulasRead.f bt426.1 bt426.2).bind fun bt432 => ((spec_FormulasRead.f k bt426.1 bt426.2).bind fun bt436 => (if (bt432.2 != bt436.2) = true then (laws_FnReadRead.j0 k bt426.1 bt426.2 bt432.1 bt432.2 bt436.1 bt436.2 true) else ((laws_sameInts.f k bt432.1 bt436.1).bind fun t440 => (if t440 = true then (laws_FnReadRead.j0 k bt426.1 bt426.2 bt432.1 bt432.2 bt436.1 bt436.2 (!bt432.2)) else (laws_FnReadRead.j0 k bt426.1 bt426.2 bt432.1 bt432.2 bt436.1 bt436.2 true)))))))) = some r := h; clear h; by_cases c2 : (l0.length : Int) > 1048576
 ·
  rw [if_pos c2] at H; have c2b0 : decide (1048576 < (l0.length : Int)) = true := decide_eq_true c2; have c2b1 : decide (1048576 < l0.length) = true := decide_eq_true (by omega); clear c2; obtain rfl := Option.some.inj H; go_enter Tryd.func5, Tryd.ntmps5
  go_wp2; go_ret
  exact ⟨by first | rfl | (simp [errW_none, errW_some] <;> rfl) | (simp [*, errW_none, errW_some] <;> rfl), by repeat (first | (with_reducible first | exact HB.out | apply below_alloc | apply pw_below_drewN | apply below_drew1) | exact HB.out)⟩
 ·
  rw [if_neg c2] at H; have c2b0 : decide (1048576 < (l0.length : Int)) = false := decide_eq_false c2; have c2b1 : decide (1048576 < l0.length) = false := decide_eq_false (by omega); clear c2; replace H := Option.bind_eq_some_iff.mp H; obtain ⟨⟨t426, t429⟩, A30, H⟩ := H; replace H : ((impl_FormulasRead.f t426 t429).bind fun bt432 => ((spec_FormulasRead.f k t426 t429).bind fun bt436 => (if (bt432.2 != bt436.2) = true then (laws_FnReadRead.j0 k t426 t429 bt432.1 bt432.2 bt436.1 bt436.2 true) else ((laws_sameInts.f k bt432.1 bt436.1).bind fun t440 => (if t440 = true then (laws_FnReadRead.j0 k t426 t429 bt432.1 bt432.2 bt436.1 bt436.2 (!bt432.2)) else (laws_FnReadRead.j0 k t426 t429 bt432.1 bt432.2 bt436.1 bt436.2 true)))))) = some r := H; have A3 := Aside0.mk A30; clear A30; replace H := Option.bind_eq_some_iff.mp H; obtain ⟨⟨t432, t433⟩, A40, H⟩ := H; replace H : ((spec_FormulasRead.f k t426 t429).bind fun bt436 => (if (t433 != bt436.2) = true then (laws_FnReadRead.j0 k t426 t429 t432 t433 bt436.1 bt436.2 true) else ((laws_sameInts.f k t432 bt436.1).bind fun t440 => (if t440 = true then (laws_FnReadRead.j0 k t426 t429 t432 t433 bt436.1 bt436.2 (!t433)) else (laws_FnReadRead.j0 k t426 t429 t432 t433 bt436.1 bt436.2 true))))) = some r := H; have A4 := Aside0.mk A40; clear A40; replace H := Option.bind_eq_some_iff.mp H; obtain ⟨⟨t436, t437⟩, A50, H⟩ := H; replace H : (if (t433 != t437) = true then (laws_FnReadRead.j0 k t426 t429 t432 t433 t436 t437 true) else ((laws_sameInts.f k t432 t436).bind fun t440 => (if t440 = true then (laws_FnReadRead.j0 k t426 t429 t432 t433 t436 t437 (!t433)) else (laws_FnReadRead.j0 k t426 t429 t432 t433 t436 t437 true)))) = some r := H; have A5 := Aside0.mk A50; clear A50; have HC6 := Aside0.mk H; clear H; go_enter Tryd.func5, Tryd.ntmps5
  go_upto_region 6 with (first | ((with_reducible refine gate_callee (f := 18) rfl ?_); refine goesL_ (some 22) rfl rfl Tryd.func18 (by kernel_rfl) rfl #[.slice A0 l0.length c0] rfl (by (try simp only [List.map_toArray, List.map_cons, List.map_nil]); first | done | rfl | (simp only [List.length_drop, List.length_take]; rfl)) ?_; (with_reducible refine (spec_DrawFormulasRead.calls k _ _ l0 t426 t429 _ ?side1 ?side2 A3.out).mono ?_); (case side1 => repeat (first | exact HR0.out | (with_reducible refine Kd.C_alloc ?_ _) | (with_reducible refine Kd.C_drewN ?_ _) | (with_reducible refine Kd.C_drew ?_))); (case side2 => exact HC0.out); rintro e w7 ⟨v427, v430, rfl, ho0, ho1, hb⟩; refine ⟨_, rfl, ?_⟩; have n0_ := Aside0.mk (Kd.N_lower (Kd.N_mono (ok' := fun k_ => some k_ ≠ (v430 : Value).ownBlock) ho0 (fun k_ hk_ => hk_.2)) (below_size (by repeat (first | (with_reducible first | exact HB.out | apply below_alloc | apply pw_below_drewN | apply below_drew1) | exact HB.out)))); have n1_ := Aside0.mk (Kd.R_lower (Kd.R_mono (ok' := fun k_ => True) ho1 (fun _ hk_ => trivial)) (below_size (by repeat (first | (with_reducible first | exact HB.out | apply below_alloc | apply pw_below_drewN | apply below_drew1) | exact HB.out)))); have n2_ := Aside0.mk (below_step (by repeat (first | (with_reducible first | exact HB.out | apply below_alloc | apply pw_below_drewN | apply below_drew1) | exact HB.out)) hb); clear HB; have HO428 := n0_; have HO431 := n1_; have HB := n2_; clear n0_ n1_ n2_; (try clear hb); (try clear hb2); (try clear hk); (try clear hi); (try clear ho0); (try clear ho1); obtain ⟨Ao8, co8, eo8⟩ := Kd.N_slice HO428.out; subst eo8; obtain ⟨Ao9, co9, eo9⟩ := Kd.R_slice HO431.out; subst eo9) | ((with_reducible refine gate_callee (f := 19) rfl ?_); refine goesL_ (some 28) rfl rfl Tryd.func19 (by kernel_rfl) rfl #[.slice Ao8 t426.length co8, .slice Ao9 t429.length co9] rfl (by (try simp only [List.map_toArray, List.map_cons, List.map_nil]); first | done | rfl | (simp only [List.length_drop, List.length_take]; rfl)) ?_; (with_reducible refine (impl_FormulasRead.calls _ _ t426 _ _ t429 t432 t433 _ ?side1 ?side2 ?side3 ?side4 A4.out).mono ?_); (case side1 => repeat (first | exact (Kd.N_reads' HO428.out).2.2 | (with_reducible refine Kd.C_alloc ?_ _) | (with_reducible refine Kd.C_drewN ?_ _) | (with_reducible refine Kd.C_drew ?_))); (case side2 => exact (Kd.N_reads' HO428.out).2.1); (case side3 => repeat (first | exact (Kd.R_reads' HO431.out).2.2 | (with_reducible refine Kd.C_alloc ?_ _) | (with_reducible refine Kd.C_drewN ?_ _) | (with_reducible refine Kd.C_drew ?_))); (case side4 => exact (Kd.R_reads' HO431.out).2.1); rintro e w10 ⟨v434, rfl, ho0, hb⟩; refine ⟨_, rfl, ?_⟩; have n0_ := Aside0.mk (Kd.N_elder' (by (with_reducible repeat (first | apply Kd.N_alloc | apply Kd.N_drewN | apply Kd.N_drew)); exact HO428.out) (Kd.R_base ho0) hb); have n1_ := Aside0.mk (Kd.R_below (by (with_reducible repeat (first | apply Kd.R_alloc | apply Kd.R_drewN | apply Kd.R_drew)); exact HO431.out) hb); have n2_ := Aside0.mk (Kd.R_lower ho0 (below_size (by repeat (first | (with_reducible first | exact HB.out | apply below_alloc | apply pw_below_drewN | apply below_drew1) | exact HB.out)))); have n3_ := Aside0.mk (below_step (by repeat (first | (with_reducible first | exact HB.out | apply below_alloc | apply pw_below_drewN | apply below_drew1) | exact HB.out)) hb); clear HO428; clear HO431; clear HB; have HO428 := n0_; have HO431 := n1_; have HO435 := n2_; have HB := n3_; clear n0_ n1_ n2_ n3_; (try clear hb); (try clear hb2); (try clear hk); (try clear hi); (try clear ho0)) | ((with_reducible refine gate_callee (f := 20) rfl ?_); refine goesL_ (some 34) rfl rfl Tryd.func20 (by kernel_rfl) rfl #[.slice Ao8 t426.length co8, .slice Ao9 t429.length co9] rfl (by (try simp only [List.map_toArray, List.map_cons, List.map_nil]); first | done | rfl | (simp only [List.length_drop, List.length_take]; rfl)) ?_; (with_reducible refine (spec_FormulasRead.calls k _ _ t426 _ _ t429 t436 t437 _ ?side1 ?side2 ?side3 ?side4 A5.out).mono ?_); (case side1 => repeat (first | exact (Kd.N_reads' HO428.out).2.2 | (with_reducible refine Kd.C_alloc ?_ _) | (with_reducible refine Kd.C_drewN ?_ _) | (with_reducible refine Kd.C_drew ?_))); (case side2 => exact (Kd.N_reads' HO428.out).2.1); (case side3 => repeat (first | exact (Kd.R_reads' HO431.out).2.2 | (with_reducible refine Kd.C_alloc ?_ _) | (with_reducible refine Kd.C_drewN ?_ _) | (with_reducible refine Kd.C_drew ?_))); (case side4 => exact (Kd.R_reads' HO431.out).2.1); rintro e w11 ⟨v438, rfl, ho0, hb⟩; refine ⟨_, rfl, ?_⟩; have n0_ := Aside0.mk (Kd.N_elder' (by (with_reducible repeat (first | apply Kd.N_alloc | apply Kd.N_drewN | apply Kd.N_drew)); exact HO428.out) (Kd.R_base ho0) hb); have n1_ := Aside0.mk (Kd.R_below (by (with_reducible repeat (first | apply Kd.R_alloc | apply Kd.R_drewN | apply Kd.R_drew)); exact HO431.out) hb); have n2_ := Aside0.mk (Kd.R_elder' (by (with_reducible repeat (first | apply Kd.R_alloc | apply Kd.R_drewN | apply Kd.R_drew)); exact HO435.out) (Kd.R_base ho0) hb); have n3_ := Aside0.mk (Kd.R_lower (Kd.R_new' ho0 (Kd.R_lt (by (with_reducible repeat (first | apply Kd.R_alloc | apply Kd.R_drewN | apply Kd.R_drew)); exact HO435.out))) (below_size (by repeat (first | (with_reducible first | exact HB.out | apply below_alloc | apply pw_below_drewN | apply below_drew1) | exact HB.out)))); have n4_ := Aside0.mk (below_step (by repeat (first | (with_reducible first | exact HB.out | apply below_alloc | apply pw_below_drewN | apply below_drew1) | exact HB.out)) hb); clear HO428; clear HO431; clear HO435; clear HB; have HO428 := n0_; have HO431 := n1_; have HO435 := n2_; have HO439 := n3_; have HB := n4_; clear n0_ n1_ n2_ n3_ n4_; (try clear hb); (try clear hb2); (try clear hk); (try clear hi); (try clear ho0)))
  (try simp only [Act.put, List.setIfInBounds_toArray, List.set_cons_zero, List.set_cons_succ])
  go_cut [49] (fun v49 wc => ∃ (kq : Nat) (x49_5 : Bool), v49 = .bool x49_5 ∧ Aside0 (laws_FnReadRead.j0 kq t426 t429 t432 t433 t436 t437 x49_5 = some r) ∧ Aside0 (kq ≤ k) ∧ Aside0 (Kd.N k128 128 wc w.heap.size (fun k_ => some k_ ≠ ((.slice Ao9 t429.length co9) : Value).ownBlock ∧ some k_ ≠ (v434 : Value).ownBlock ∧ some k_ ≠ (v438 : Value).ownBlock) (.slice Ao8 t426.length co8) t426) ∧ Aside0 (Kd.R k29 29 wc w.heap.size (fun _ => True) (.slice Ao9 t429.length co9) t429) ∧ Aside0 (Kd.R (Kd.int .i64) 3 wc w.heap.size (fun k_ => some k_ ≠ (v438 : Value).ownBlock) v434 t432) ∧ Aside0 (Kd.R (Kd.int .i64) 3 wc w.heap.size (fun k_ => some k_ ≠ (v434 : Value).ownBlock) v438 t436) ∧ Aside0 (Below w.heap.size w wc))
  case first =>
   have H := HC6.out; clear HC6; by_cases c12 : (t433 != t437) = true
   ·
    rw [if_pos c12] at H; have c12b0 : (t433 != t437) = true := c12; (try (have c12b1 : decide (t433 = t437) = false := by simpa using c12))
    (try (have c12b2 : (t433 == t437) = false := by simpa using c12))
    (try (have c12b3 : ¬ (t433 = t437) := by simpa using c12))
    clear c12; (first | rw [c12b0] | (simp only [i64_w, i32_w]; rw [c12b0]) | skip)
    have H' := Aside0.mk H; clear H; go_wp2; go_meet
    case rel => exact ⟨_, (true), (by first | rfl | (simp; done) | (simp [*]; done)), H', ⟨by first | omega | exact Nat.le_refl _⟩, ⟨by (with_reducible repeat (first | apply Kd.N_alloc | apply Kd.N_drewN | apply Kd.N_drew)); exact Kd.N_mono HO428.out (fun _ hk => ⟨hk.1.1, ⟨hk.1.2, hk.2⟩⟩)⟩, ⟨by (with_reducible repeat (first | apply Kd.R_alloc | apply Kd.R_drewN | apply Kd.R_drew)); exact HO431.out⟩, ⟨by (with_reducible repeat (first | apply Kd.R_alloc | apply Kd.R_drewN | apply Kd.R_drew)); exact Kd.R_mono HO435.out (fun _ hk => hk.2)⟩, ⟨by (with_reducible repeat (first | apply Kd.R_alloc | apply Kd.R_drewN | apply Kd.R_drew)); exact Kd.R_mono HO439.out (fun _ hk => hk.2)⟩, ⟨by repeat (first | (with_reducible first | exact HB.out | apply below_alloc | apply pw_below_drewN | apply below_drew1) | exact HB.out)⟩⟩
   ·
    rw [if_neg c12] at H; have c12b0 : (t433 != t437) = false := by simpa using c12
    (try (have c12b1 : decide (t433 = t437) = true := by simpa using c12))
    (try (have c12b2 : (t433 == t437) = true := by simpa using c12))
    clear c12; (first | rw [c12b0] | (simp only [i64_w, i32_w]; rw [c12b0]) | skip)
    replace H := Option.bind_eq_some_iff.mp H; obtain ⟨t440, A130, H⟩ := H; replace H : (if t440 = true then (laws_FnReadRead.j0 k t426 t429 t432 t433 t436 t437 (!t433)) else (laws_FnReadRead.j0 k t426 t429 t432 t433 t436 t437 true)) = some r := H; have A13 := Aside0.mk A130; clear A130; by_cases c14 : t440 = true
    ·
     subst c14; have H1 : (laws_FnReadRead.j0 k t426 t429 t432 t433 t436 t437 (!t433)) = some r := by rw [if_pos rfl] at H; exact H
     clear H; have H := H1; clear H1; have H' := Aside0.mk H; clear H; obtain ⟨Ao15, co15, eo15⟩ := Kd.R_slice HO435.out; subst eo15; obtain ⟨Ao16, co16, eo16⟩ := Kd.R_slice HO439.out; subst eo16; go_wp2_with (first | (go_at_call 21; (with_reducible refine (laws_sameInts.calls k _ _ t432 _ _ t436 true _ ?side1 ?side2 ?side3 ?side4 A13.out).mono ?_); (case side1 => repeat (first | exact (Kd.R_reads' HO435.out).2.2 | (with_reducible refine Kd.C_alloc ?_ _) | (with_reducible refine Kd.C_drewN ?_ _) | (with_reducible refine Kd.C_drew ?_))); (case side2 => exact (Kd.R_reads' HO435.out).2.1); (case side3 => repeat (first | exact (Kd.R_reads' HO439.out).2.2 | (with_reducible refine Kd.C_alloc ?_ _) | (with_reducible refine Kd.C_drewN ?_ _) | (with_reducible refine Kd.C_drew ?_))); (case side4 => exact (Kd.R_reads' HO439.out).2.1); rintro e w' ⟨rfl, ⟨nd, rfl⟩⟩))
     go_meet
     case rel => exact ⟨_, (!t433), (by first | rfl | (simp; done) | (simp [*]; done)), H', ⟨by first | omega | exact Nat.le_refl _⟩, ⟨by (with_reducible repeat (first | apply Kd.N_alloc | apply Kd.N_drewN | apply Kd.N_drew)); exact Kd.N_mono HO428.out (fun _ hk => ⟨hk.1.1, ⟨hk.1.2, hk.2⟩⟩)⟩, ⟨by (with_reducible repeat (first | apply Kd.R_alloc | apply Kd.R_drewN | apply Kd.R_drew)); exact HO431.out⟩, ⟨by (with_reducible repeat (first | apply Kd.R_alloc | apply Kd.R_drewN | apply Kd.R_drew)); exact Kd.R_mono HO435.out (fun _ hk => hk.2)⟩, ⟨by (with_reducible repeat (first | apply Kd.R_alloc | apply Kd.R_drewN | apply Kd.R_drew)); exact Kd.R_mono HO439.out (fun _ hk => hk.2)⟩, ⟨by repeat (first | (with_reducible first | exact HB.out | apply below_alloc | apply pw_below_drewN | apply below_drew1) | exact HB.out)⟩⟩
    ·
     replace c14 := Bool.eq_false_iff.mpr c14; subst c14; have H1 : (laws_FnReadRead.j0 k t426 t429 t432 t433 t436 t437 true) = some r := by rw [if_neg (show ¬ (false = true) by decide)] at H; exact H
     clear H; have H := H1; clear H1; have H' := Aside0.mk H; clear H; obtain ⟨Ao17, co17, eo17⟩ := Kd.R_slice HO435.out; subst eo17; obtain ⟨Ao18, co18, eo18⟩ := Kd.R_slice HO439.out; subst eo18; go_wp2_with (first | (go_at_call 21; (with_reducible refine (laws_sameInts.calls k _ _ t432 _ _ t436 false _ ?side1 ?side2 ?side3 ?side4 A13.out).mono ?_); (case side1 => repeat (first | exact (Kd.R_reads' HO435.out).2.2 | (with_reducible refine Kd.C_alloc ?_ _) | (with_reducible refine Kd.C_drewN ?_ _) | (with_reducible refine Kd.C_drew ?_))); (case side2 => exact (Kd.R_reads' HO435.out).2.1); (case side3 => repeat (first | exact (Kd.R_reads' HO439.out).2.2 | (with_reducible refine Kd.C_alloc ?_ _) | (with_reducible refine Kd.C_drewN ?_ _) | (with_reducible refine Kd.C_drew ?_))); (case side4 => exact (Kd.R_reads' HO439.out).2.1); rintro e w' ⟨rfl, ⟨nd, rfl⟩⟩))
     go_meet
     case rel => exact ⟨_, (true), (by first | rfl | (simp; done) | (simp [*]; done)), H', ⟨by first | omega | exact Nat.le_refl _⟩, ⟨by (with_reducible repeat (first | apply Kd.N_alloc | apply Kd.N_drewN | apply Kd.N_drew)); exact Kd.N_mono HO428.out (fun _ hk => ⟨hk.1.1, ⟨hk.1.2, hk.2⟩⟩)⟩, ⟨by (with_reducible repeat (first | apply Kd.R_alloc | apply Kd.R_drewN | apply Kd.R_drew)); exact HO431.out⟩, ⟨by (with_reducible repeat (first | apply Kd.R_alloc | apply Kd.R_drewN | apply Kd.R_drew)); exact Kd.R_mono HO435.out (fun _ hk => hk.2)⟩, ⟨by (with_reducible repeat (first | apply Kd.R_alloc | apply Kd.R_drewN | apply Kd.R_drew)); exact Kd.R_mono HO439.out (fun _ hk => hk.2)⟩, ⟨by repeat (first | (with_reducible first | exact HB.out | apply below_alloc | apply pw_below_drewN | apply below_drew1) | exact HB.out)⟩⟩
  case rest =>
   clear HC6; try clear c1
   try clear c2
   try clear c2b0
   try clear c2b1
   try clear p2
   try clear c5
   try clear c12
   try clear c12b0
   try clear c12b1
   try clear c12b2
   try clear c14
   try clear c18
   obtain ⟨kq, x49_5, rfl, HA, HJ5, HO_3, HO_4, HO_5, HO_7, HB⟩ := hcut; cases kq with
   | zero => exact absurd HA.out (by simp [laws_FnReadRead.j0])
   | succ kj5 =>
    have H := HA.out; clear HA; simp only [laws_FnReadRead.j0] at H; by_cases c19 : x49_5 = true
    ·
     subst c19; have H1 : (if (t433 == t437) = true then ((laws_sameInts.f kj5 t432 t436).bind fun t441 => (some t441)) else (some false)) = some r := by rw [if_pos rfl] at H; exact H
     clear H; have H := H1; clear H1; by_cases c20 : (t433 == t437) = true
     ·
      rw [if_pos c20] at H; have c20b0 : (t433 == t437) = true := c20; (try (have c20b1 : decide (t433 = t437) = true := by simpa using c20))
      (try (have c20b2 : (t433 == t437) = true := by simpa using c20))
      clear c20; replace H := Option.bind_eq_some_iff.mp H; obtain ⟨t441, A210, H⟩ := H; replace H : (some t441) = some r := H; have A21 := Aside0.mk A210; clear A210; obtain rfl := Option.some.inj H; obtain ⟨Ao22, co22, eo22⟩ := Kd.R_slice HO_5.out; subst eo22; obtain ⟨Ao23, co23, eo23⟩ := Kd.R_slice HO_7.out; subst eo23; go_wp2_with (first | (go_at_call 21; (with_reducible refine (laws_sameInts.calls kj5 _ _ t432 _ _ t436 t441 _ ?side1 ?side2 ?side3 ?side4 A21.out).mono ?_); (case side1 => repeat (first | exact (Kd.R_reads' HO_5.out).2.2 | (with_reducible refine Kd.C_alloc ?_ _) | (with_reducible refine Kd.C_drewN ?_ _) | (with_reducible refine Kd.C_drew ?_))); (case side2 => exact (Kd.R_reads' HO_5.out).2.1); (case side3 => repeat (first | exact (Kd.R_reads' HO_7.out).2.2 | (with_reducible refine Kd.C_alloc ?_ _) | (with_reducible refine Kd.C_drewN ?_ _) | (with_reducible refine Kd.C_drew ?_))); (case side4 => exact (Kd.R_reads' HO_7.out).2.1); rintro e w' ⟨rfl, ⟨nd, rfl⟩⟩))
      go_ret
      exact ⟨by first | rfl | (simp [errW_none, errW_some] <;> rfl) | (simp [*, errW_none, errW_some] <;> rfl), by repeat (first | (with_reducible first | exact HB.out | apply below_alloc | apply pw_below_drewN | apply below_drew1) | exact HB.out)⟩
     ·
      rw [if_neg c20] at H; exact absurd (H.trans (congrArg some HRR.out)) (by simp)
    ·
     replace c19 := Bool.eq_false_iff.mpr c19; subst c19; have H1 : (if (t429.length : Int) = 0 then (some ((t432.length : Int) == 0)) else (if 0 < (t429.length : Int) then ((impl_FormulasMelody.f kj5 t426 t432 ((rd_T29 t429 0).f0) ((rd_T29 t429 0).f1)).bind fun bt443 => (laws_FnReadRead.l0 kj5 t426 t429 t432 bt443.1 bt443.2 false 1)) else (none))) = some r := by rw [if_neg (show ¬ (false = true) by decide)] at H; exact H
     clear H; have H := H1; clear H1; by_cases c24 : (t429.length : Int) = 0
     ·
      rw [if_pos c24] at H; have c24b0 : ((t429.length : Int) == 0) = true := beq_iff_eq.mpr c24; have c24b1 : ((t429.length : Int) != 0) = false := bne_eq_false_iff_eq.mpr c24; clear c24; obtain rfl := Option.some.inj H; obtain ⟨Ao25, co25, eo25⟩ := Kd.R_slice HO_5.out; subst eo25; go_wp2; go_ret
      exact ⟨by first | rfl | (simp [errW_none, errW_some] <;> rfl) | (simp [*, errW_none, errW_some] <;> rfl), by repeat (first | (with_reducible first | exact HB.out | apply below_alloc | apply pw_below_drewN | apply below_drew1) | exact HB.out)⟩
     ·
      rw [if_neg c24] at H; have c24b0 : ((t429.length : Int) == 0) = false := beq_eq_false_iff_ne.mpr c24; have c24b1 : ((t429.length : Int) != 0) = true := bne_iff_ne.mpr c24; have c24b2 : ¬ (t429 = []) := fun h_ => c24 (by rw [h_]; rfl)
      by_cases c26 : 0 < (t429.length : Int)
      ·
       rw [if_pos c26] at H; have c26b0 : decide (0 < (t429.length : Int)) = true := decide_eq_true c26; have c26b1 : decide (0 < t429.length) = true := decide_eq_true (by omega); clear c26; replace H := Option.bind_eq_some_iff.mp H; obtain ⟨⟨t443, t446⟩, A270, H⟩ := H; replace H : (laws_FnReadRead.l0 kj5 t426 t429 t432 t443 t446 false 1) = some r := H; have A27 := Aside0.mk A270; clear A270; have H' := Aside0.mk H; clear H; have p442 : 0 ≤ (0 : Int) := (by omega)
       have q442 : 0 < (t429.length : Int) := of_decide_eq_true (by first | (with_reducible assumption) | assumption); obtain ⟨ad442, e442, hx442_0, hx442_1⟩ := at_T29 (Kd.R_reads' HO_4.out).2.2 0 p442 q442; cases e442; have qi442 : (0 < t429.length) = True := eq_true (by omega); (try rw [show ((0 : Int)).toNat = 0 from rfl] at hx442_0)
       (try rw [show 0 * 2 = 0 from rfl] at hx442_0)
       (try rw [Addr.add_zero'] at hx442_0)
       (try rw [show ((0 : Int)).toNat = 0 from rfl] at hx442_1)
       (try rw [show 0 * 2 = 0 from rfl] at hx442_1)
       (try rw [Addr.add_zero'] at hx442_1)
       replace p442 := eq_true p442; replace q442 := eq_true q442; obtain ⟨Ao28, co28, eo28⟩ := Kd.R_slice HO_5.out; subst eo28; go_wp2_with (first | ((with_reducible refine gate_callee (f := 22) rfl ?_); refine goesL_ (some 70) rfl rfl Tryd.func22 (by kernel_rfl) rfl #[.slice Ao8 t426.length co8, .slice Ao28 t432.length co28, .agg #[.int .i64 ((rd_T29 t429 0).f0), .bool ((rd_T29 t429 0).f1)]] rfl (by (try simp only [List.map_toArray, List.map_cons, List.map_nil]); first | done | rfl | (simp only [List.length_drop, List.length_take]; rfl)) ?_; (with_reducible refine (impl_FormulasMelody.calls kj5 _ _ t426 _ _ t432 ((rd_T29 t429 0).f0) ((rd_T29 t429 0).f1) t443 t446 _ ?side1 ?side2 ?side3 ?side4 A27.out).mono ?_); (case side1 => repeat (first | exact (Kd.N_reads' HO_3.out).2.2 | (with_reducible refine Kd.C_alloc ?_ _) | (with_reducible refine Kd.C_drewN ?_ _) | (with_reducible refine Kd.C_drew ?_))); (case side2 => exact (Kd.N_reads' HO_3.out).2.1); (case side3 => repeat (first | exact (Kd.R_reads' HO_5.out).2.2 | (with_reducible refine Kd.C_alloc ?_ _) | (with_reducible refine Kd.C_drewN ?_ _) | (with_reducible refine Kd.C_drew ?_))); (case side4 => exact (Kd.R_reads' HO_5.out).2.1); rintro e w29 ⟨v444, rfl, ho0, hb⟩; refine ⟨_, rfl, ?_⟩; have n0_ := Aside0.mk (Kd.N_elder' (by (with_reducible repeat (first | apply Kd.N_alloc | apply Kd.N_drewN | apply Kd.N_drew)); exact HO_3.out) (Kd.R_base ho0) hb); have n1_ := Aside0.mk (Kd.R_elder' (by (with_reducible repeat (first | apply Kd.R_alloc | apply Kd.R_drewN | apply Kd.R_drew)); exact HO_4.out) (Kd.R_base ho0) hb); have n2_ := Aside0.mk (Kd.R_below (by (with_reducible repeat (first | apply Kd.R_alloc | apply Kd.R_drewN | apply Kd.R_drew)); exact HO_5.out) hb); have n3_ := Aside0.mk (Kd.R_below (by (with_reducible repeat (first | apply Kd.R_alloc | apply Kd.R_drewN | apply Kd.R_drew)); exact HO_7.out) hb); have n4_ := Aside0.mk (Kd.R_lower (Kd.R_new' ho0 (Kd.R_lt (by (with_reducible repeat (first | apply Kd.R_alloc | apply Kd.R_drewN | apply Kd.R_drew)); exact HO_4.out))) (below_size (by repeat (first | (with_reducible first | exact HB.out | apply below_alloc | apply pw_below_drewN | apply below_drew1) | exact HB.out)))); have n5_ := Aside0.mk (below_step (by repeat (first | (with_reducible first | exact HB.out | apply below_alloc | apply pw_below_drewN | apply below_drew1) | exact HB.out)) hb); clear HO_3; clear HO_4; clear HO_5; clear HO_7; clear HB; have HO_3 := n0_; have HO_4 := n1_; have HO_5 := n2_; have HO_7 := n3_; have HO445 := n4_; have HB := n5_; clear n0_ n1_ n2_ n3_ n4_ n5_; (try clear hb); (try clear hb2); (try clear hk); (try clear hi); (try clear ho0)))
       go_loopg [11, 12] kj5 (fun kq v11 v12 w' => ∃ (x11_2 : Bool) (x12_2 : Int), v11 = .bool x11_2 ∧ v12 = .int .i64 x12_2 ∧ Aside0 (laws_FnReadRead.l0 kq t426 t429 t432 t443 t446 x11_2 x12_2 = some r) ∧ Aside0 (kq ≤ kj5) ∧ Aside0 (Kd.N k128 128 w' w.heap.size (fun k_ => some k_ ≠ ((.slice (some ad442) t429.length co9) : Value).ownBlock ∧ some k_ ≠ ((.slice Ao28 t432.length co28) : Value).ownBlock ∧ some k_ ≠ (v444 : Value).ownBlock) (.slice Ao8 t426.length co8) t426) ∧ Aside0 (Kd.R k29 29 w' w.heap.size (fun k_ => some k_ ≠ (v444 : Value).ownBlock) (.slice (some ad442) t429.length co9) t429) ∧ Aside0 (Kd.R (Kd.int .i64) 3 w' w.heap.size (fun _ => True) (.slice Ao28 t432.length co28) t432) ∧ Aside0 (Kd.R k29 29 w' w.heap.size (fun k_ => some k_ ≠ ((.slice (some ad442) t429.length co9) : Value).ownBlock) v444 t443) ∧ Aside0 (Below w.heap.size w w'))
       case atStart => exact ⟨(false), (1), (by first | rfl | (simp; done) | (simp [*]; done)), (by first | rfl | (simp; done) | (simp [*]; done)), H', ⟨Nat.le_refl _⟩, ⟨by (with_reducible repeat (first | apply Kd.N_alloc | apply Kd.N_drewN | apply Kd.N_drew)); exact Kd.N_mono HO_3.out (fun _ hk => ⟨hk.1.1, ⟨hk.1.2.1, hk.2⟩⟩)⟩, ⟨by (with_reducible repeat (first | apply Kd.R_alloc | apply Kd.R_drewN | apply Kd.R_drew)); exact Kd.R_mono HO_4.out (fun _ hk => hk.2)⟩, ⟨by (with_reducible repeat (first | apply Kd.R_alloc | apply Kd.R_drewN | apply Kd.R_drew)); exact Kd.R_mono HO_5.out (fun _ hk => trivial)⟩, ⟨by (with_reducible repeat (first | apply Kd.R_alloc | apply Kd.R_drewN | apply Kd.R_drew)); exact Kd.R_mono HO445.out (fun _ hk => hk.2)⟩, ⟨by repeat (first | (with_reducible first | exact HB.out | apply below_alloc | apply pw_below_drewN | apply below_drew1) | exact HB.out)⟩⟩
       case round =>
        clear H'; try clear c1
        try clear c2
        try clear c2b0
        try clear c2b1
        try clear p2
        try clear p4
        try clear q4
        try clear hx4
        try clear qi4
        try clear c5
        try clear c12
        try clear c12b0
        try clear c12b1
        try clear c12b2
        try clear c14
        try clear c18
        try clear c19
        try clear c20
        try clear c20b0
        try clear c20b1
        try clear c20b2
        try clear c22
        try clear c24
        try clear c24b0
        try clear c24b1
        try clear c24b2
        try clear c26
        try clear c26b0
        try clear c26b1
        try clear hx442_0
        try clear hx442_1
        try clear p2
        try clear p442
        try clear q442
        obtain ⟨x11_2, x12_2, rfl, rfl, HA, HK2, HO_3, HO_4, HO_5, HO_9, HB⟩ := hrel; cases gk with
        | zero => exact absurd HA.out (by simp [laws_FnReadRead.l0])
        | succ k2 =>
         have H := HA.out; clear HA; simp only [laws_FnReadRead.l0] at H; by_cases c30 : x12_2 < (t429.length : Int)
         ·
          rw [if_pos c30] at H; have c30b0 : decide (x12_2 < (t429.length : Int)) = true := decide_eq_true c30; clear c30; by_cases c31 : x11_2 = true
          ·
           subst c31; have H1 : (laws_FnReadRead.l0 k2 t426 t429 t432 t443 t446 true (wrap64 (x12_2 + 1))) = some r := by rw [if_pos rfl] at H; exact H
           clear H; have H := H1; clear H1; have H' := Aside0.mk H; clear H; go_wp2; go_roundg k2
           case measure => have := HJ5.out; have := HK2.out; omega
           case rel => exact ⟨(true), (wrap64 (x12_2 + 1)), (by first | rfl | (simp; done) | (simp [*]; done)), (by first | rfl | (simp; done) | (simp [*]; done)), H', ⟨by have := HJ5.out; have := HK2.out; omega⟩, ⟨by (with_reducible repeat (first | apply Kd.N_alloc | apply Kd.N_drewN | apply Kd.N_drew)); exact HO_3.out⟩, ⟨by (with_reducible repeat (first | apply Kd.R_alloc | apply Kd.R_drewN | apply Kd.R_drew)); exact HO_4.out⟩, ⟨by (with_reducible repeat (first | apply Kd.R_alloc | apply Kd.R_drewN | apply Kd.R_drew)); exact HO_5.out⟩, ⟨by (with_reducible repeat (first | apply Kd.R_alloc | apply Kd.R_drewN | apply Kd.R_drew)); exact HO_9.out⟩, ⟨by repeat (first | (with_reducible first | exact HB.out | apply below_alloc | apply pw_below_drewN | apply below_drew1) | exact HB.out)⟩⟩
          ·
           replace c31 := Bool.eq_false_iff.mpr c31; subst c31; have H1 : (if 0 ≤ x12_2 then (laws_FnReadRead.l0 k2 t426 t429 t432 t443 t446 ((rd_T29 t429 x12_2).f1) (wrap64 (x12_2 + 1))) else (none)) = some r := by rw [if_neg (show ¬ (false = true) by decide)] at H; exact H
           clear H; have H := H1; clear H1; by_cases c32 : 0 ≤ x12_2
           ·
            rw [if_pos c32] at H; have c32b0 : decide (0 ≤ x12_2) = true := decide_eq_true c32; clear c32; have H' := Aside0.mk H; clear H; have p447 : 0 ≤ (x12_2 : Int) := of_decide_eq_true (by first | (with_reducible assumption) | assumption); have q447 : x12_2 < (t429.length : Int) := of_decide_eq_true (by first | (with_reducible assumption) | assumption); obtain ⟨ad447, e447, hx447_0, hx447_1⟩ := at_T29 (Kd.R_reads' HO_4.out).2.2 x12_2 p447 q447; obtain rfl : ad442 = ad447 := (by injection e447)
            try clear hx442_0
            try clear hx442_1
            try clear hx442_2
            try clear hx442_3
            replace p447 := eq_true p447; replace q447 := eq_true q447; go_wp2; go_roundg k2
            case measure => have := HJ5.out; have := HK2.out; omega
            case rel => exact ⟨((rd_T29 t429 x12_2).f1), (wrap64 (x12_2 + 1)), (by first | rfl | (simp; done) | (simp [*]; done)), (by first | rfl | (simp; done) | (simp [*]; done)), H', ⟨by have := HJ5.out; have := HK2.out; omega⟩, ⟨by (with_reducible repeat (first | apply Kd.N_alloc | apply Kd.N_drewN | apply Kd.N_drew)); exact HO_3.out⟩, ⟨by (with_reducible repeat (first | apply Kd.R_alloc | apply Kd.R_drewN | apply Kd.R_drew)); exact HO_4.out⟩, ⟨by (with_reducible repeat (first | apply Kd.R_alloc | apply Kd.R_drewN | apply Kd.R_drew)); exact HO_5.out⟩, ⟨by (with_reducible repeat (first | apply Kd.R_alloc | apply Kd.R_drewN | apply Kd.R_drew)); exact HO_9.out⟩, ⟨by repeat (first | (with_reducible first | exact HB.out | apply below_alloc | apply pw_below_drewN | apply below_drew1) | exact HB.out)⟩⟩
           ·
            rw [if_neg c32] at H; exact absurd H (by simp)
         ·
          rw [if_neg c30] at H; have c30b0 : decide (x12_2 < (t429.length : Int)) = false := decide_eq_false c30; clear c30; replace H := Option.bind_eq_some_iff.mp H; obtain ⟨⟨t448, t449⟩, A330, H⟩ := H; replace H : ((impl_FormulasRead.f t426 t448).bind fun bt452 => (if t446 = true then (if x11_2 = true then (if t449 = true then (if bt452.2 = true then ((laws_sameInts.f k2 bt452.1 t432).bind fun t456 => (some t456)) else (some false)) else (some true)) else ((laws_sameTones.f k2 t443 t429).bind fun t457 => (if t457 = true then (if t449 = true then (if bt452.2 = true then ((laws_sameInts.f k2 bt452.1 t432).bind fun t458 => (some t458)) else (some false)) else (some true)) else (some false)))) else (some false))) = some r := H; have A33 := Aside0.mk A330; clear A330; replace H := Option.bind_eq_some_iff.mp H; obtain ⟨⟨t452, t453⟩, A340, H⟩ := H; replace H : (if t446 = true then (if x11_2 = true then (if t449 = true then (if t453 = true then ((laws_sameInts.f k2 t452 t432).bind fun t456 => (some t456)) else (some false)) else (some true)) else ((laws_sameTones.f k2 t443 t429).bind fun t457 => (if t457 = true then (if t449 = true then (if t453 = true then ((laws_sameInts.f k2 t452 t432).bind fun t458 => (some t458)) else (some false)) else (some true)) else (some false)))) else (some false)) = some r := H; have A34 := Aside0.mk A340; clear A340; by_cases c35 : t446 = true
          ·
           subst c35; have H1 : (if x11_2 = true then (if t449 = true then (if t453 = true then ((laws_sameInts.f k2 t452 t432).bind fun t456 => (some t456)) else (some false)) else (some true)) else ((laws_sameTones.f k2 t443 t429).bind fun t457 => (if t457 = true then (if t449 = true then (if t453 = true then ((laws_sameInts.f k2 t452 t432).bind fun t458 => (some t458)) else (some false)) else (some true)) else (some false)))) = some r := by rw [if_pos rfl] at H; exact H
           clear H; have H := H1; clear H1; by_cases c36 : x11_2 = true
           ·
            subst c36; have H1 : (if t449 = true then (if t453 = true then ((laws_sameInts.f k2 t452 t432).bind fun t456 => (some t456)) else (some false)) else (some true)) = some r := by rw [if_pos rfl] at H; exact H
            clear H; have H := H1; clear H1; by_cases c37 : t449 = true
            ·
             subst c37; have H1 : (if t453 = true then ((laws_sameInts.f k2 t452 t432).bind fun t456 => (some t456)) else (some false)) = some r := by rw [if_pos rfl] at H; exact H
             clear H; have H := H1; clear H1; by_cases c38 : t453 = true
             ·
              subst c38; have H1 : ((laws_sameInts.f k2 t452 t432).bind fun t456 => (some t456)) = some r := by rw [if_pos rfl] at H; exact H
              clear H; have H := H1; clear H1; replace H := Option.bind_eq_some_iff.mp H; obtain ⟨t456, A390, H⟩ := H; replace H : (some t456) = some r := H; have A39 := Aside0.mk A390; clear A390; obtain rfl := Option.some.inj H; go_wp2_with (first | ((with_reducible refine gate_callee (f := 23) rfl ?_); refine goesL_ (some 89) rfl rfl Tryd.func23 (by kernel_rfl) rfl #[.slice (some ad442) t429.length co9, .int .i64 7] rfl (by (try simp only [List.map_toArray, List.map_cons, List.map_nil]); first | done | rfl | (simp only [List.length_drop, List.length_take]; rfl)) ?_; (with_reducible refine (impl_MelodyMove.calls _ _ t429 7 t448 true _ ?side1 ?side2 A33.out (ht := HT.out.below (by repeat (first | (with_reducible first | exact HB.out | apply below_alloc | apply pw_below_drewN | apply below_drew1) | exact HB.out)))).mono ?_); (case side1 => repeat (first | exact (Kd.R_reads' HO_4.out).2.2 | (with_reducible refine Kd.C_alloc ?_ _) | (with_reducible refine Kd.C_drewN ?_ _) | (with_reducible refine Kd.C_drew ?_))); (case side2 => exact (Kd.R_reads' HO_4.out).2.1); rintro e w40 ⟨v450, rfl, ho0, hb⟩; refine ⟨_, rfl, ?_⟩; have n0_ := Aside0.mk (Kd.N_elder' (by (with_reducible repeat (first | apply Kd.N_alloc | apply Kd.N_drewN | apply Kd.N_drew)); exact HO_3.out) (Kd.R_base ho0) hb); have n1_ := Aside0.mk (Kd.R_elder' (by (with_reducible repeat (first | apply Kd.R_alloc | apply Kd.R_drewN | apply Kd.R_drew)); exact HO_4.out) (Kd.R_base ho0) hb); have n2_ := Aside0.mk (Kd.R_below (by (with_reducible repeat (first | apply Kd.R_alloc | apply Kd.R_drewN | apply Kd.R_drew)); exact HO_5.out) hb); have n3_ := Aside0.mk (Kd.R_elder' (by (with_reducible repeat (first | apply Kd.R_alloc | apply Kd.R_drewN | apply Kd.R_drew)); exact HO_9.out) (Kd.R_base ho0) hb); have n4_ := Aside0.mk (Kd.R_lower (Kd.R_new' (Kd.R_new' ho0 (Kd.R_lt (by (with_reducible repeat (first | apply Kd.R_alloc | apply Kd.R_drewN | apply Kd.R_drew)); exact HO_4.out))) (Kd.R_lt (by (with_reducible repeat (first | apply Kd.R_alloc | apply Kd.R_drewN | apply Kd.R_drew)); exact HO_9.out))) (below_size (by repeat (first | (with_reducible first | exact HB.out | apply below_alloc | apply pw_below_drewN | apply below_drew1) | exact HB.out)))); have n5_ := Aside0.mk (below_step (by repeat (first | (with_reducible first | exact HB.out | apply below_alloc | apply pw_below_drewN | apply below_drew1) | exact HB.out)) hb); clear HO_3; clear HO_4; clear HO_5; clear HO_9; clear HB; have HO_3 := n0_; have HO_4 := n1_; have HO_5 := n2_; have HO_9 := n3_; have HO451 := n4_; have HB := n5_; clear n0_ n1_ n2_ n3_ n4_ n5_; (try clear hb); (try clear hb2); (try clear hk); (try clear hi); (try clear ho0); obtain ⟨Ao41, co41, eo41⟩ := Kd.R_slice HO451.out; subst eo41) | ((with_reducible refine gate_callee (f := 19) rfl ?_); refine goesL_ (some 95) rfl rfl Tryd.func19 (by kernel_rfl) rfl #[.slice Ao8 t426.length co8, .slice Ao41 t448.length co41] rfl (by (try simp only [List.map_toArray, List.map_cons, List.map_nil]); first | done | rfl | (simp only [List.length_drop, List.length_take]; rfl)) ?_; (with_reducible refine (impl_FormulasRead.calls _ _ t426 _ _ t448 t452 true _ ?side1 ?side2 ?side3 ?side4 A34.out).mono ?_); (case side1 => repeat (first | exact (Kd.N_reads' HO_3.out).2.2 | (with_reducible refine Kd.C_alloc ?_ _) | (with_reducible refine Kd.C_drewN ?_ _) | (with_reducible refine Kd.C_drew ?_))); (case side2 => exact (Kd.N_reads' HO_3.out).2.1); (case side3 => repeat (first | exact (Kd.R_reads' HO451.out).2.2 | (with_reducible refine Kd.C_alloc ?_ _) | (with_reducible refine Kd.C_drewN ?_ _) | (with_reducible refine Kd.C_drew ?_))); (case side4 => exact (Kd.R_reads' HO451.out).2.1); rintro e w42 ⟨v454, rfl, ho0, hb⟩; refine ⟨_, rfl, ?_⟩; have n0_ := Aside0.mk (Kd.N_elder' (by (with_reducible repeat (first | apply Kd.N_alloc | apply Kd.N_drewN | apply Kd.N_drew)); exact HO_3.out) (Kd.R_base ho0) hb); have n1_ := Aside0.mk (Kd.R_below (by (with_reducible repeat (first | apply Kd.R_alloc | apply Kd.R_drewN | apply Kd.R_drew)); exact HO_4.out) hb); have n2_ := Aside0.mk (Kd.R_elder' (by (with_reducible repeat (first | apply Kd.R_alloc | apply Kd.R_drewN | apply Kd.R_drew)); exact HO_5.out) (Kd.R_base ho0) hb); have n3_ := Aside0.mk (Kd.R_below (by (with_reducible repeat (first | apply Kd.R_alloc | apply Kd.R_drewN | apply Kd.R_drew)); exact HO_9.out) hb); have n4_ := Aside0.mk (Kd.R_below (by (with_reducible repeat (first | apply Kd.R_alloc | apply Kd.R_drewN | apply Kd.R_drew)); exact HO451.out) hb); have n5_ := Aside0.mk (Kd.R_lower (Kd.R_new' ho0 (Kd.R_lt (by (with_reducible repeat (first | apply Kd.R_alloc | apply Kd.R_drewN | apply Kd.R_drew)); exact HO_5.out))) (below_size (by repeat (first | (with_reducible first | exact HB.out | apply below_alloc | apply pw_below_drewN | apply below_drew1) | exact HB.out)))); have n6_ := Aside0.mk (below_step (by repeat (first | (with_reducible first | exact HB.out | apply below_alloc | apply pw_below_drewN | apply below_drew1) | exact HB.out)) hb); clear HO_3; clear HO_4; clear HO_5; clear HO_9; clear HO451; clear HB; have HO_3 := n0_; have HO_4 := n1_; have HO_5 := n2_; have HO_9 := n3_; have HO451 := n4_; have HO455 := n5_; have HB := n6_; clear n0_ n1_ n2_ n3_ n4_ n5_ n6_; (try clear hb); (try clear hb2); (try clear hk); (try clear hi); (try clear ho0); obtain ⟨Ao43, co43, eo43⟩ := Kd.R_slice HO455.out; subst eo43) | (go_at_call 21; (with_reducible refine (laws_sameInts.calls k2 _ _ t452 _ _ t432 t456 _ ?side1 ?side2 ?side3 ?side4 A39.out).mono ?_); (case side1 => repeat (first | exact (Kd.R_reads' HO455.out).2.2 | (with_reducible refine Kd.C_alloc ?_ _) | (with_reducible refine Kd.C_drewN ?_ _) | (with_reducible refine Kd.C_drew ?_))); (case side2 => exact (Kd.R_reads' HO455.out).2.1); (case side3 => repeat (first | exact (Kd.R_reads' HO_5.out).2.2 | (with_reducible refine Kd.C_alloc ?_ _) | (with_reducible refine Kd.C_drewN ?_ _) | (with_reducible refine Kd.C_drew ?_))); (case side4 => exact (Kd.R_reads' HO_5.out).2.1); rintro e w' ⟨rfl, ⟨nd, rfl⟩⟩))
              go_ret
              exact ⟨by first | rfl | (simp [errW_none, errW_some] <;> rfl) | (simp [*, errW_none, errW_some] <;> rfl), by repeat (first | (with_reducible first | exact HB.out | apply below_alloc | apply pw_below_drewN | apply below_drew1) | exact HB.out)⟩
             ·
              replace c38 := Bool.eq_false_iff.mpr c38; subst c38; have H1 : (some false) = some r := by rw [if_neg (show ¬ (false = true) by decide)] at H; exact H
              exact absurd (H1.trans (congrArg some HRR.out)) (by simp)
            ·
             replace c37 := Bool.eq_false_iff.mpr c37; subst c37; have H1 : (some true) = some r := by rw [if_neg (show ¬ (false = true) by decide)] at H; exact H
             clear H; have H := H1; clear H1; obtain rfl := Option.some.inj H; go_wp2_with (first | ((with_reducible refine gate_callee (f := 23) rfl ?_); refine goesL_ (some 89) rfl rfl Tryd.func23 (by kernel_rfl) rfl #[.slice (some ad442) t429.length co9, .int .i64 7] rfl (by (try simp only [List.map_toArray, List.map_cons, List.map_nil]); first | done | rfl | (simp only [List.length_drop, List.length_take]; rfl)) ?_; (with_reducible refine (impl_MelodyMove.calls _ _ t429 7 t448 false _ ?side1 ?side2 A33.out (ht := HT.out.below (by repeat (first | (with_reducible first | exact HB.out | apply below_alloc | apply pw_below_drewN | apply below_drew1) | exact HB.out)))).mono ?_); (case side1 => repeat (first | exact (Kd.R_reads' HO_4.out).2.2 | (with_reducible refine Kd.C_alloc ?_ _) | (with_reducible refine Kd.C_drewN ?_ _) | (with_reducible refine Kd.C_drew ?_))); (case side2 => exact (Kd.R_reads' HO_4.out).2.1); rintro e w47 ⟨v450, rfl, ho0, hb⟩; refine ⟨_, rfl, ?_⟩; have n0_ := Aside0.mk (Kd.N_elder' (by (with_reducible repeat (first | apply Kd.N_alloc | apply Kd.N_drewN | apply Kd.N_drew)); exact HO_3.out) (Kd.R_base ho0) hb); have n1_ := Aside0.mk (Kd.R_elder' (by (with_reducible repeat (first | apply Kd.R_alloc | apply Kd.R_drewN | apply Kd.R_drew)); exact HO_4.out) (Kd.R_base ho0) hb); have n2_ := Aside0.mk (Kd.R_below (by (with_reducible repeat (first | apply Kd.R_alloc | apply Kd.R_drewN | apply Kd.R_drew)); exact HO_5.out) hb); have n3_ := Aside0.mk (Kd.R_elder' (by (with_reducible repeat (first | apply Kd.R_alloc | apply Kd.R_drewN | apply Kd.R_drew)); exact HO_9.out) (Kd.R_base ho0) hb); have n4_ := Aside0.mk (Kd.R_lower (Kd.R_new' (Kd.R_new' ho0 (Kd.R_lt (by (with_reducible repeat (first | apply Kd.R_alloc | apply Kd.R_drewN | apply Kd.R_drew)); exact HO_4.out))) (Kd.R_lt (by (with_reducible repeat (first | apply Kd.R_alloc | apply Kd.R_drewN | apply Kd.R_drew)); exact HO_9.out))) (below_size (by repeat (first | (with_reducible first | exact HB.out | apply below_alloc | apply pw_below_drewN | apply below_drew1) | exact HB.out)))); have n5_ := Aside0.mk (below_step (by repeat (first | (with_reducible first | exact HB.out | apply below_alloc | apply pw_below_drewN | apply below_drew1) | exact HB.out)) hb); clear HO_3; clear HO_4; clear HO_5; clear HO_9; clear HB; have HO_3 := n0_; have HO_4 := n1_; have HO_5 := n2_; have HO_9 := n3_; have HO451 := n4_; have HB := n5_; clear n0_ n1_ n2_ n3_ n4_ n5_; (try clear hb); (try clear hb2); (try clear hk); (try clear hi); (try clear ho0); obtain ⟨Ao48, co48, eo48⟩ := Kd.R_slice HO451.out; subst eo48) | ((with_reducible refine gate_callee (f := 19) rfl ?_); refine goesL_ (some 95) rfl rfl Tryd.func19 (by kernel_rfl) rfl #[.slice Ao8 t426.length co8, .slice Ao48 t448.length co48] rfl (by (try simp only [List.map_toArray, List.map_cons, List.map_nil]); first | done | rfl | (simp only [List.length_drop, List.length_take]; rfl)) ?_; (with_reducible refine (impl_FormulasRead.calls _ _ t426 _ _ t448 t452 t453 _ ?side1 ?side2 ?side3 ?side4 A34.out).mono ?_); (case side1 => repeat (first | exact (Kd.N_reads' HO_3.out).2.2 | (with_reducible refine Kd.C_alloc ?_ _) | (with_reducible refine Kd.C_drewN ?_ _) | (with_reducible refine Kd.C_drew ?_))); (case side2 => exact (Kd.N_reads' HO_3.out).2.1); (case side3 => repeat (first | exact (Kd.R_reads' HO451.out).2.2 | (with_reducible refine Kd.C_alloc ?_ _) | (with_reducible refine Kd.C_drewN ?_ _) | (with_reducible refine Kd.C_drew ?_))); (case side4 => exact (Kd.R_reads' HO451.out).2.1); rintro e w49 ⟨v454, rfl, ho0, hb⟩; refine ⟨_, rfl, ?_⟩; have n0_ := Aside0.mk (Kd.N_elder' (by (with_reducible repeat (first | apply Kd.N_alloc | apply Kd.N_drewN | apply Kd.N_drew)); exact HO_3.out) (Kd.R_base ho0) hb); have n1_ := Aside0.mk (Kd.R_below (by (with_reducible repeat (first | apply Kd.R_alloc | apply Kd.R_drewN | apply Kd.R_drew)); exact HO_4.out) hb); have n2_ := Aside0.mk (Kd.R_elder' (by (with_reducible repeat (first | apply Kd.R_alloc | apply Kd.R_drewN | apply Kd.R_drew)); exact HO_5.out) (Kd.R_base ho0) hb); have n3_ := Aside0.mk (Kd.R_below (by (with_reducible repeat (first | apply Kd.R_alloc | apply Kd.R_drewN | apply Kd.R_drew)); exact HO_9.out) hb); have n4_ := Aside0.mk (Kd.R_below (by (with_reducible repeat (first | apply Kd.R_alloc | apply Kd.R_drewN | apply Kd.R_drew)); exact HO451.out) hb); have n5_ := Aside0.mk (Kd.R_lower (Kd.R_new' ho0 (Kd.R_lt (by (with_reducible repeat (first | apply Kd.R_alloc | apply Kd.R_drewN | apply Kd.R_drew)); exact HO_5.out))) (below_size (by repeat (first | (with_reducible first | exact HB.out | apply below_alloc | apply pw_below_drewN | apply below_drew1) | exact HB.out)))); have n6_ := Aside0.mk (below_step (by repeat (first | (with_reducible first | exact HB.out | apply below_alloc | apply pw_below_drewN | apply below_drew1) | exact HB.out)) hb); clear HO_3; clear HO_4; clear HO_5; clear HO_9; clear HO451; clear HB; have HO_3 := n0_; have HO_4 := n1_; have HO_5 := n2_; have HO_9 := n3_; have HO451 := n4_; have HO455 := n5_; have HB := n6_; clear n0_ n1_ n2_ n3_ n4_ n5_ n6_; (try clear hb); (try clear hb2); (try clear hk); (try clear hi); (try clear ho0)))
             go_ret
             exact ⟨by first | rfl | (simp [errW_none, errW_some] <;> rfl) | (simp [*, errW_none, errW_some] <;> rfl), by repeat (first | (with_reducible first | exact HB.out | apply below_alloc | apply pw_below_drewN | apply below_drew1) | exact HB.out)⟩
           ·
            replace c36 := Bool.eq_false_iff.mpr c36; subst c36; have H1 : ((laws_sameTones.f k2 t443 t429).bind fun t457 => (if t457 = true then (if t449 = true then (if t453 = true then ((laws_sameInts.f k2 t452 t432).bind fun t458 => (some t458)) else (some false)) else (some true)) else (some false))) = some r := by rw [if_neg (show ¬ (false = true) by decide)] at H; exact H
            clear H; have H := H1; clear H1; replace H := Option.bind_eq_some_iff.mp H; obtain ⟨t457, A500, H⟩ := H; replace H : (if t457 = true then (if t449 = true then (if t453 = true then ((laws_sameInts.f k2 t452 t432).bind fun t458 => (some t458)) else (some false)) else (some true)) else (some false)) = some r := H; have A50 := Aside0.mk A500; clear A500; by_cases c51 : t457 = true
            ·
             subst c51; have H1 : (if t449 = true then (if t453 = true then ((laws_sameInts.f k2 t452 t432).bind fun t458 => (some t458)) else (some false)) else (some true)) = some r := by rw [if_pos rfl] at H; exact H
             clear H; have H := H1; clear H1; by_cases c52 : t449 = true
             ·
              subst c52; have H1 : (if t453 = true then ((laws_sameInts.f k2 t452 t432).bind fun t458 => (some t458)) else (some false)) = some r := by rw [if_pos rfl] at H; exact H
              clear H; have H := H1; clear H1; by_cases c53 : t453 = true
              ·
               subst c53; have H1 : ((laws_sameInts.f k2 t452 t432).bind fun t458 => (some t458)) = some r := by rw [if_pos rfl] at H; exact H
               clear H; have H := H1; clear H1; replace H := Option.bind_eq_some_iff.mp H; obtain ⟨t458, A540, H⟩ := H; replace H : (some t458) = some r := H; have A54 := Aside0.mk A540; clear A540; obtain rfl := Option.some.inj H; go_wp2_with (first | ((with_reducible refine gate_callee (f := 23) rfl ?_); refine goesL_ (some 89) rfl rfl Tryd.func23 (by kernel_rfl) rfl #[.slice (some ad442) t429.length co9, .int .i64 7] rfl (by (try simp only [List.map_toArray, List.map_cons, List.map_nil]); first | done | rfl | (simp only [List.length_drop, List.length_take]; rfl)) ?_; (with_reducible refine (impl_MelodyMove.calls _ _ t429 7 t448 true _ ?side1 ?side2 A33.out (ht := HT.out.below (by repeat (first | (with_reducible first | exact HB.out | apply below_alloc | apply pw_below_drewN | apply below_drew1) | exact HB.out)))).mono ?_); (case side1 => repeat (first | exact (Kd.R_reads' HO_4.out).2.2 | (with_reducible refine Kd.C_alloc ?_ _) | (with_reducible refine Kd.C_drewN ?_ _) | (with_reducible refine Kd.C_drew ?_))); (case side2 => exact (Kd.R_reads' HO_4.out).2.1); rintro e w55 ⟨v450, rfl, ho0, hb⟩; refine ⟨_, rfl, ?_⟩; have n0_ := Aside0.mk (Kd.N_elder' (by (with_reducible repeat (first | apply Kd.N_alloc | apply Kd.N_drewN | apply Kd.N_drew)); exact HO_3.out) (Kd.R_base ho0) hb); have n1_ := Aside0.mk (Kd.R_elder' (by (with_reducible repeat (first | apply Kd.R_alloc | apply Kd.R_drewN | apply Kd.R_drew)); exact HO_4.out) (Kd.R_base ho0) hb); have n2_ := Aside0.mk (Kd.R_below (by (with_reducible repeat (first | apply Kd.R_alloc | apply Kd.R_drewN | apply Kd.R_drew)); exact HO_5.out) hb); have n3_ := Aside0.mk (Kd.R_elder' (by (with_reducible repeat (first | apply Kd.R_alloc | apply Kd.R_drewN | apply Kd.R_drew)); exact HO_9.out) (Kd.R_base ho0) hb); have n4_ := Aside0.mk (Kd.R_lower (Kd.R_new' (Kd.R_new' ho0 (Kd.R_lt (by (with_reducible repeat (first | apply Kd.R_alloc | apply Kd.R_drewN | apply Kd.R_drew)); exact HO_4.out))) (Kd.R_lt (by (with_reducible repeat (first | apply Kd.R_alloc | apply Kd.R_drewN | apply Kd.R_drew)); exact HO_9.out))) (below_size (by repeat (first | (with_reducible first | exact HB.out | apply below_alloc | apply pw_below_drewN | apply below_drew1) | exact HB.out)))); have n5_ := Aside0.mk (below_step (by repeat (first | (with_reducible first | exact HB.out | apply below_alloc | apply pw_below_drewN | apply below_drew1) | exact HB.out)) hb); clear HO_3; clear HO_4; clear HO_5; clear HO_9; clear HB; have HO_3 := n0_; have HO_4 := n1_; have HO_5 := n2_; have HO_9 := n3_; have HO451 := n4_; have HB := n5_; clear n0_ n1_ n2_ n3_ n4_ n5_; (try clear hb); (try clear hb2); (try clear hk); (try clear hi); (try clear ho0); obtain ⟨Ao56, co56, eo56⟩ := Kd.R_slice HO451.out; subst eo56) | ((with_reducible refine gate_callee (f := 19) rfl ?_); refine goesL_ (some 95) rfl rfl Tryd.func19 (by kernel_rfl) rfl #[.slice Ao8 t426.length co8, .slice Ao56 t448.length co56] rfl (by (try simp only [List.map_toArray, List.map_cons, List.map_nil]); first | done | rfl | (simp only [List.length_drop, List.length_take]; rfl)) ?_; (with_reducible refine (impl_FormulasRead.calls _ _ t426 _ _ t448 t452 true _ ?side1 ?side2 ?side3 ?side4 A34.out).mono ?_); (case side1 => repeat (first | exact (Kd.N_reads' HO_3.out).2.2 | (with_reducible refine Kd.C_alloc ?_ _) | (with_reducible refine Kd.C_drewN ?_ _) | (with_reducible refine Kd.C_drew ?_))); (case side2 => exact (Kd.N_reads' HO_3.out).2.1); (case side3 => repeat (first | exact (Kd.R_reads' HO451.out).2.2 | (with_reducible refine Kd.C_alloc ?_ _) | (with_reducible refine Kd.C_drewN ?_ _) | (with_reducible refine Kd.C_drew ?_))); (case side4 => exact (Kd.R_reads' HO451.out).2.1); rintro e w57 ⟨v454, rfl, ho0, hb⟩; refine ⟨_, rfl, ?_⟩; have n0_ := Aside0.mk (Kd.N_elder' (by (with_reducible repeat (first | apply Kd.N_alloc | apply Kd.N_drewN | apply Kd.N_drew)); exact HO_3.out) (Kd.R_base ho0) hb); have n1_ := Aside0.mk (Kd.R_below (by (with_reducible repeat (first | apply Kd.R_alloc | apply Kd.R_drewN | apply Kd.R_drew)); exact HO_4.out) hb); have n2_ := Aside0.mk (Kd.R_elder' (by (with_reducible repeat (first | apply Kd.R_alloc | apply Kd.R_drewN | apply Kd.R_drew)); exact HO_5.out) (Kd.R_base ho0) hb); have n3_ := Aside0.mk (Kd.R_below (by (with_reducible repeat (first | apply Kd.R_alloc | apply Kd.R_drewN | apply Kd.R_drew)); exact HO_9.out) hb); have n4_ := Aside0.mk (Kd.R_below (by (with_reducible repeat (first | apply Kd.R_alloc | apply Kd.R_drewN | apply Kd.R_drew)); exact HO451.out) hb); have n5_ := Aside0.mk (Kd.R_lower (Kd.R_new' ho0 (Kd.R_lt (by (with_reducible repeat (first | apply Kd.R_alloc | apply Kd.R_drewN | apply Kd.R_drew)); exact HO_5.out))) (below_size (by repeat (first | (with_reducible first | exact HB.out | apply below_alloc | apply pw_below_drewN | apply below_drew1) | exact HB.out)))); have n6_ := Aside0.mk (below_step (by repeat (first | (with_reducible first | exact HB.out | apply below_alloc | apply pw_below_drewN | apply below_drew1) | exact HB.out)) hb); clear HO_3; clear HO_4; clear HO_5; clear HO_9; clear HO451; clear HB; have HO_3 := n0_; have HO_4 := n1_; have HO_5 := n2_; have HO_9 := n3_; have HO451 := n4_; have HO455 := n5_; have HB := n6_; clear n0_ n1_ n2_ n3_ n4_ n5_ n6_; (try clear hb); (try clear hb2); (try clear hk); (try clear hi); (try clear ho0); obtain ⟨Ao58, co58, eo58⟩ := Kd.R_slice HO_9.out; subst eo58) | (go_at_call 24; (with_reducible refine (laws_sameTones.calls k2 _ _ t443 _ _ t429 true _ ?side1 ?side2 ?side3 ?side4 A50.out).mono ?_); (case side1 => repeat (first | exact (Kd.R_reads' HO_9.out).2.2 | (with_reducible refine Kd.C_alloc ?_ _) | (with_reducible refine Kd.C_drewN ?_ _) | (with_reducible refine Kd.C_drew ?_))); (case side2 => exact (Kd.R_reads' HO_9.out).2.1); (case side3 => repeat (first | exact (Kd.R_reads' HO_4.out).2.2 | (with_reducible refine Kd.C_alloc ?_ _) | (with_reducible refine Kd.C_drewN ?_ _) | (with_reducible refine Kd.C_drew ?_))); (case side4 => exact (Kd.R_reads' HO_4.out).2.1); rintro e w' ⟨rfl, ⟨nd, rfl⟩⟩; obtain ⟨Ao59, co59, eo59⟩ := Kd.R_slice HO455.out; subst eo59) | (go_at_call 21; (with_reducible refine (laws_sameInts.calls k2 _ _ t452 _ _ t432 t458 _ ?side1 ?side2 ?side3 ?side4 A54.out).mono ?_); (case side1 => repeat (first | exact (Kd.R_reads' HO455.out).2.2 | (with_reducible refine Kd.C_alloc ?_ _) | (with_reducible refine Kd.C_drewN ?_ _) | (with_reducible refine Kd.C_drew ?_))); (case side2 => exact (Kd.R_reads' HO455.out).2.1); (case side3 => repeat (first | exact (Kd.R_reads' HO_5.out).2.2 | (with_reducible refine Kd.C_alloc ?_ _) | (with_reducible refine Kd.C_drewN ?_ _) | (with_reducible refine Kd.C_drew ?_))); (case side4 => exact (Kd.R_reads' HO_5.out).2.1); rintro e w' ⟨rfl, ⟨nd, rfl⟩⟩))
               go_ret
               exact ⟨by first | rfl | (simp [errW_none, errW_some] <;> rfl) | (simp [*, errW_none, errW_some] <;> rfl), by repeat (first | (with_reducible first | exact HB.out | apply below_alloc | apply pw_below_drewN | apply below_drew1) | exact HB.out)⟩
              ·
               replace c53 := Bool.eq_false_iff.mpr c53; subst c53; have H1 : (some false) = some r := by rw [if_neg (show ¬ (false = true) by decide)] at H; exact H
               exact absurd (H1.trans (congrArg some HRR.out)) (by simp)
             ·
              replace c52 := Bool.eq_false_iff.mpr c52; subst c52; have H1 : (some true) = some r := by rw [if_neg (show ¬ (false = true) by decide)] at H; exact H
              clear H; have H := H1; clear H1; obtain rfl := Option.some.inj H; go_wp2_with (first | ((with_reducible refine gate_callee (f := 23) rfl ?_); refine goesL_ (some 89) rfl rfl Tryd.func23 (by kernel_rfl) rfl #[.slice (some ad442) t429.length co9, .int .i64 7] rfl (by (try simp only [List.map_toArray, List.map_cons, List.map_nil]); first | done | rfl | (simp only [List.length_drop, List.length_take]; rfl)) ?_; (with_reducible refine (impl_MelodyMove.calls _ _ t429 7 t448 false _ ?side1 ?side2 A33.out (ht := HT.out.below (by repeat (first | (with_reducible first | exact HB.out | apply below_alloc | apply pw_below_drewN | apply below_drew1) | exact HB.out)))).mono ?_); (case side1 => repeat (first | exact (Kd.R_reads' HO_4.out).2.2 | (with_reducible refine Kd.C_alloc ?_ _) | (with_reducible refine Kd.C_drewN ?_ _) | (with_reducible refine Kd.C_drew ?_))); (case side2 => exact (Kd.R_reads' HO_4.out).2.1); rintro e w64 ⟨v450, rfl, ho0, hb⟩; refine ⟨_, rfl, ?_⟩; have n0_ := Aside0.mk (Kd.N_elder' (by (with_reducible repeat (first | apply Kd.N_alloc | apply Kd.N_drewN | apply Kd.N_drew)); exact HO_3.out) (Kd.R_base ho0) hb); have n1_ := Aside0.mk (Kd.R_elder' (by (with_reducible repeat (first | apply Kd.R_alloc | apply Kd.R_drewN | apply Kd.R_drew)); exact HO_4.out) (Kd.R_base ho0) hb); have n2_ := Aside0.mk (Kd.R_below (by (with_reducible repeat (first | apply Kd.R_alloc | apply Kd.R_drewN | apply Kd.R_drew)); exact HO_5.out) hb); have n3_ := Aside0.mk (Kd.R_elder' (by (with_reducible repeat (first | apply Kd.R_alloc | apply Kd.R_drewN | apply Kd.R_drew)); exact HO_9.out) (Kd.R_base ho0) hb); have n4_ := Aside0.mk (Kd.R_lower (Kd.R_new' (Kd.R_new' ho0 (Kd.R_lt (by (with_reducible repeat (first | apply Kd.R_alloc | apply Kd.R_drewN | apply Kd.R_drew)); exact HO_4.out))) (Kd.R_lt (by (with_reducible repeat (first | apply Kd.R_alloc | apply Kd.R_drewN | apply Kd.R_drew)); exact HO_9.out))) (below_size (by repeat (first | (with_reducible first | exact HB.out | apply below_alloc | apply pw_below_drewN | apply below_drew1) | exact HB.out)))); have n5_ := Aside0.mk (below_step (by repeat (first | (with_reducible first | exact HB.out | apply below_alloc | apply pw_below_drewN | apply below_drew1) | exact HB.out)) hb); clear HO_3; clear HO_4; clear HO_5; clear HO_9; clear HB; have HO_3 := n0_; have HO_4 := n1_; have HO_5 := n2_; have HO_9 := n3_; have HO451 := n4_; have HB := n5_; clear n0_ n1_ n2_ n3_ n4_ n5_; (try clear hb); (try clear hb2); (try clear hk); (try clear hi); (try clear ho0); obtain ⟨Ao65, co65, eo65⟩ := Kd.R_slice HO451.out; subst eo65) | ((with_reducible refine gate_callee (f := 19) rfl ?_); refine goesL_ (some 95) rfl rfl Tryd.func19 (by kernel_rfl) rfl #[.slice Ao8 t426.length co8, .slice Ao65 t448.length co65] rfl (by (try simp only [List.map_toArray, List.map_cons, List.map_nil]); first | done | rfl | (simp only [List.length_drop, List.length_take]; rfl)) ?_; (with_reducible refine (impl_FormulasRead.calls _ _ t426 _ _ t448 t452 t453 _ ?side1 ?side2 ?side3 ?side4 A34.out).mono ?_); (case side1 => repeat (first | exact (Kd.N_reads' HO_3.out).2.2 | (with_reducible refine Kd.C_alloc ?_ _) | (with_reducible refine Kd.C_drewN ?_ _) | (with_reducible refine Kd.C_drew ?_))); (case side2 => exact (Kd.N_reads' HO_3.out).2.1); (case side3 => repeat (first | exact (Kd.R_reads' HO451.out).2.2 | (with_reducible refine Kd.C_alloc ?_ _) | (with_reducible refine Kd.C_drewN ?_ _) | (with_reducible refine Kd.C_drew ?_))); (case side4 => exact (Kd.R_reads' HO451.out).2.1); rintro e w66 ⟨v454, rfl, ho0, hb⟩; refine ⟨_, rfl, ?_⟩; have n0_ := Aside0.mk (Kd.N_elder' (by (with_reducible repeat (first | apply Kd.N_alloc | apply Kd.N_drewN | apply Kd.N_drew)); exact HO_3.out) (Kd.R_base ho0) hb); have n1_ := Aside0.mk (Kd.R_below (by (with_reducible repeat (first | apply Kd.R_alloc | apply Kd.R_drewN | apply Kd.R_drew)); exact HO_4.out) hb); have n2_ := Aside0.mk (Kd.R_elder' (by (with_reducible repeat (first | apply Kd.R_alloc | apply Kd.R_drewN | apply Kd.R_drew)); exact HO_5.out) (Kd.R_base ho0) hb); have n3_ := Aside0.mk (Kd.R_below (by (with_reducible repeat (first | apply Kd.R_alloc | apply Kd.R_drewN | apply Kd.R_drew)); exact HO_9.out) hb); have n4_ := Aside0.mk (Kd.R_below (by (with_reducible repeat (first | apply Kd.R_alloc | apply Kd.R_drewN | apply Kd.R_drew)); exact HO451.out) hb); have n5_ := Aside0.mk (Kd.R_lower (Kd.R_new' ho0 (Kd.R_lt (by (with_reducible repeat (first | apply Kd.R_alloc | apply Kd.R_drewN | apply Kd.R_drew)); exact HO_5.out))) (below_size (by repeat (first | (with_reducible first | exact HB.out | apply below_alloc | apply pw_below_drewN | apply below_drew1) | exact HB.out)))); have n6_ := Aside0.mk (below_step (by repeat (first | (with_reducible first | exact HB.out | apply below_alloc | apply pw_below_drewN | apply below_drew1) | exact HB.out)) hb); clear HO_3; clear HO_4; clear HO_5; clear HO_9; clear HO451; clear HB; have HO_3 := n0_; have HO_4 := n1_; have HO_5 := n2_; have HO_9 := n3_; have HO451 := n4_; have HO455 := n5_; have HB := n6_; clear n0_ n1_ n2_ n3_ n4_ n5_ n6_; (try clear hb); (try clear hb2); (try clear hk); (try clear hi); (try clear ho0); obtain ⟨Ao67, co67, eo67⟩ := Kd.R_slice HO_9.out; subst eo67) | (go_at_call 24; (with_reducible refine (laws_sameTones.calls k2 _ _ t443 _ _ t429 true _ ?side1 ?side2 ?side3 ?side4 A50.out).mono ?_); (case side1 => repeat (first | exact (Kd.R_reads' HO_9.out).2.2 | (with_reducible refine Kd.C_alloc ?_ _) | (with_reducible refine Kd.C_drewN ?_ _) | (with_reducible refine Kd.C_drew ?_))); (case side2 => exact (Kd.R_reads' HO_9.out).2.1); (case side3 => repeat (first | exact (Kd.R_reads' HO_4.out).2.2 | (with_reducible refine Kd.C_alloc ?_ _) | (with_reducible refine Kd.C_drewN ?_ _) | (with_reducible refine Kd.C_drew ?_))); (case side4 => exact (Kd.R_reads' HO_4.out).2.1); rintro e w' ⟨rfl, ⟨nd, rfl⟩⟩))
              go_ret
              exact ⟨by first | rfl | (simp [errW_none, errW_some] <;> rfl) | (simp [*, errW_none, errW_some] <;> rfl), by repeat (first | (with_reducible first | exact HB.out | apply below_alloc | apply pw_below_drewN | apply below_drew1) | exact HB.out)⟩
            ·
             replace c51 := Bool.eq_false_iff.mpr c51; subst c51; have H1 : (some false) = some r := by rw [if_neg (show ¬ (false = true) by decide)] at H; exact H
             exact absurd (H1.trans (congrArg some HRR.out)) (by simp)
          ·
           replace c35 := Bool.eq_false_iff.mpr c35; subst c35; have H1 : (some false) = some r := by rw [if_neg (show ¬ (false = true) by decide)] at H; exact H
           exact absurd (H1.trans (congrArg some HRR.out)) (by simp)
      ·
       rw [if_neg c26] at H; exact absurd H (by simp)

end Go.Proofs.YtpcohkffbjdmfaaDoor.PFnReadRead
namespace Go.Proofs.YtpcohkffbjdmfaaDoor.Pure
set_option linter.unusedVariables false
set_option linter.unusedSimpArgs false
open Go Go.RowKit Go.Proofs.YtpcohkffbjdmfaaDoor.PFnReadRead Go.Proofs.YtpcohkffbjdmfaaDoorW.PrintWords Go.Proofs.YtpcohkffbjdmfaaDoorW.PrintLast Go.Proofs.YtpcohkffbjdmfaaDoorW.PrintMore

structure Code (s : List Int) : Prop where
 b : ∀ x ∈ s, 0 ≤ x ∧ x ≤ 255
 l : s.length ≤ 2000
theorem open_ev (l0 : List Int) (hw : ∀ x ∈ l0, (Lit.int .u8 x).wf = true) : ∃ s, spec_l6Open.f l0 = some (s, 0) ∧ Code s := by
 have hb : ∀ x ∈ l0, 0 ≤ x ∧ x ≤ 255 := by
  intro x hx
  have := hw x hx
  have e1 : IntKind.u8.min = 0 := by decide
  have e2 : IntKind.u8.max = 255 := by decide
  simp only [Lit.wf, e1, e2] at this
  simpa using this
 unfold spec_l6Open.f
 by_cases h : (l0.length : Int) > 2000
 ·
  refine ⟨l0.take 2000, by rw [if_pos h, if_pos (by omega)], ⟨fun x hx => hb x (List.mem_of_mem_take hx), by rw [List.length_take]; omega⟩⟩
 ·
  exact ⟨l0, by rw [if_neg h], ⟨hb, by omega⟩⟩
theorem pick_ev {s : List Int} (hc : Code s) (p n : Int) (hp : 0 ≤ p) (hp' : p ≤ 1000000000) :
 Evx (fun k => spec_l6Rd_pick.f k s p n) (fun r => 0 ≤ r.1 ∧ (r.1 < n ∨ r.1 = 0) ∧ r.2 = p + 1) := by
 have hw : wrap64 (p + 1) = p + 1 := w64 (by omega) (by omega)
 have hw' : wrap64 (p + 1 - 1) = p := by rw [w64 (by omega) (by omega)]; omega
 have hl := hc.l
 unfold spec_l6Rd_pick.f
 rw [hw]
 by_cases hn : n < 1
 ·
  refine Evx.pos hn (Evx.succ ?_)
  simp only [spec_l6Rd_pick.j0, if_true]
  exact Evx.now ⟨by simp, by simp, rfl⟩
 ·
  refine Evx.neg hn (Evx.succ ?_)
  have tm : ∀ x : Int, 0 ≤ x → 0 ≤ Int.tmod x n ∧ Int.tmod x n < n := fun x hx => ⟨Int.tmod_nonneg n hx, Int.tmod_lt_of_pos x (by omega)⟩
  by_cases h0 : s.length = 0
  ·
   have e : ((s.length : Int) == 0) = true := by simp [h0]
   simp only [spec_l6Rd_pick.j0, e, if_true]
   exact Evx.now ⟨by simp, by simp, rfl⟩
  ·
   have e : ((s.length : Int) == 0) = false := by rw [beq_eq_false_iff_ne]; omega
   simp only [spec_l6Rd_pick.j0, e, hw']
   refine Evx.neg (by simp) ?_
   by_cases hlt : p < (s.length : Int)
   ·
    refine Evx.pos hlt (Evx.pos hp (Evx.neg (by omega) (Evx.now ?_)))
    have hb := rd_bd hc.b p
    rw [w64 (x := rd s p) (by omega) (by omega)]
    have := tm (rd s p) hb.1
    exact ⟨this.1, .inl this.2, rfl⟩
   ·
    refine Evx.neg hlt (Evx.neg (by omega) ?_)
    have t1 : 0 ≤ Int.tmod p s.length := Int.tmod_nonneg _ hp
    have t1' : Int.tmod p s.length < s.length := Int.tmod_lt_of_pos p (by omega)
    rw [w64 (x := p * 7) (by omega) (by omega), w64 (x := p * 7 + 3) (by omega) (by omega)]
    have t2 : 0 ≤ Int.tmod (p * 7 + 3) s.length := Int.tmod_nonneg _ (by omega)
    have t2' : Int.tmod (p * 7 + 3) s.length < s.length := Int.tmod_lt_of_pos _ (by omega)
    refine Evx.pos t1 (Evx.pos t1' (Evx.pos t2 (Evx.pos t2' (Evx.neg (by omega) (Evx.now ?_)))))
    have hb1 := rd_bd hc.b (Int.tmod p s.length)
    have hb2 := rd_bd hc.b (Int.tmod (p * 7 + 3) s.length)
    have hd : 0 ≤ Int.tdiv p s.length ∧ Int.tdiv p s.length ≤ p := by
     rw [Int.tdiv_eq_ediv_of_nonneg hp]
     exact ⟨Int.ediv_nonneg hp (by omega), Int.ediv_le_self _ hp⟩
    generalize rd s (Int.tmod p s.length) = a at *
    generalize rd s (Int.tmod (p * 7 + 3) s.length) = b at *
    generalize Int.tdiv p s.length = c at *
    obtain ⟨X, hX, hX0, hX1⟩ : ∃ X : Int, wrap64 (wrap64 (wrap64 (wrap64 (wrap64 a * 131) + wrap64 (wrap64 b * 1117)) + wrap64 (p * 29)) + wrap64 (wrap64 c * 53)) = X ∧ 0 ≤ X ∧ X < 1000000000000 := by
     refine ⟨a * 131 + b * 1117 + p * 29 + c * 53, ?_, by omega, by omega⟩
     rw [w64 (x := a) (by omega) (by omega), w64 (x := b) (by omega) (by omega), w64 (x := c) (by omega) (by omega), w64 (x := a * 131) (by omega) (by omega), w64 (x := b * 1117) (by omega) (by omega), w64 (x := p * 29) (by omega) (by omega), w64 (x := c * 53) (by omega) (by omega), w64 (x := a * 131 + b * 1117) (by omega) (by omega), w64 (x := a * 131 + b * 1117 + p * 29) (by omega) (by omega), w64 (by omega) (by omega)]
    rw [hX]
    have hq : 0 ≤ Int.tdiv X 64 ∧ Int.tdiv X 64 ≤ X := by
     rw [Int.tdiv_eq_ediv_of_nonneg hX0]; omega
    rw [w64 (x := Int.tdiv X 64) (by omega) (by omega)]
    have := tm _ (xor_bd X (Int.tdiv X 64) hX0 (by omega) hq.1 (by omega))
    exact ⟨this.1, .inl this.2, rfl⟩

theorem spec_l2Same_ev (a b : List Int) (hl : a.length ≤ 1000000000000) : Ev (fun k => spec_l2Same.f k a b) (a == b) := by
 unfold spec_l2Same.f
 by_cases hlen : (a.length : Int) = (b.length : Int)
 ·
  refine Ev.pos hlen ?_
  have := Ev.over (0 : Int) a (fun k (_ : Unit) i => spec_l2Same.l0 k a b i) (fun _ rest => rest == b.drop (a.length - rest.length)) (fun _ _ => True) (by
   intro s _
   refine Ev.succ ?_
   simp only [spec_l2Same.l0]
   refine Ev.eqr (Ev.neg (by omega) (Ev.now _)) ?_
   have : b.drop a.length = [] := List.drop_eq_nil_of_le (by omega)
   simp [this]) (by
   intro s i rest _ hi hdr ih
   have hrl : rest.length + 1 + i = a.length := by
    have := congrArg List.length hdr
    simp at this; omega
   refine Ev.succ ?_
   simp only [spec_l2Same.l0]
   rw [w64 (by omega) (by omega)]
   refine Ev.pos (by omega) (Ev.pos (by omega) (Ev.pos (by omega) ?_))
   have hra : rd a (i : Int) = a.getD i 0 := rfl
   have hrb : rd b (i : Int) = b.getD i 0 := rfl
   rw [hra, hrb]
   have e2 : a.length - (a.getD i 0 :: rest).length = i := by simp; omega
   have e1 : a.length - rest.length = i + 1 := by omega
   have e3 : b.drop i = b.getD i 0 :: b.drop (i + 1) := by
    rw [List.drop_eq_getElem_cons (by omega), List.getD_eq_getElem?_getD, List.getElem?_eq_getElem (by omega)]; rfl
   rw [e2, e3]
   have ih := ih () trivial
   rw [e1] at ih
   by_cases h : a.getD i 0 = b.getD i 0
   ·
    refine Ev.pos h (Ev.eqr ih ?_)
    rw [h, Bool.eq_iff_iff]; simp
   ·
    refine Ev.neg h (Ev.eqr (Ev.now _) ?_)
    symm; rw [beq_eq_false_iff_ne]; intro hc; exact h (List.cons.inj hc).1) 0 () (Nat.zero_le _) trivial
  simpa using this
 ·
  refine Ev.neg hlen (Ev.eqr (Ev.now _) ?_)
  symm; rw [beq_eq_false_iff_ne]; rintro rfl; exact hlen rfl

theorem spec_ToneValid_eq (a : Int) (b : Bool) : spec_ToneValid.f a b = some (toneOk ⟨a, b⟩) := by
 unfold spec_ToneValid.f toneOk
 rw [spec_l6In_eq]
 by_cases h : 0 ≤ a ∧ a ≤ 20
 ·
  cases b <;> simp [h, spec_l1Letter.f]
 ·
  simp [h]
theorem spec_MelodyValid_ev (m : List S29) (hm : m.length ≤ 1000000000000) : Ev (fun k => spec_MelodyValid.f k m) (melOk m) := by
 unfold spec_MelodyValid.f
 have := Ev.over z29 m (fun k (_ : Unit) i => spec_MelodyValid.l0 k m i) (fun _ l => l.all toneOk && decide (m.length ≤ 24)) (fun _ _ => True) (by
  intro s _
  refine Ev.succ ?_
  simp only [spec_MelodyValid.l0]
  refine Ev.eqr (Ev.neg (by omega) (Ev.now _)) ?_
  simp; omega) (by
  intro s i rest _ hi _ ih
  refine Ev.succ ?_
  simp only [spec_MelodyValid.l0]
  refine Ev.pos (by omega) (Ev.pos (by omega) (Ev.conb (spec_ToneValid_eq _ _) ?_))
  show Ev _ (toneOk (rd_T29 m i) && _ && _)
  cases ht : toneOk (rd_T29 m i)
  ·
   exact Ev.neg (by simp [ht]) (Ev.now _)
  ·
   refine Ev.pos (by simp [ht]) ?_
   rw [w64 (by omega) (by omega)]
   simpa using ih () trivial) 0 () (Nat.zero_le _) trivial
 refine Ev.eqr (by simpa using this) ?_
 unfold melOk
 rw [Bool.and_comm]

def DrF (l : List S128) : Prop := l.length ≤ 7 ∧ ∀ x ∈ l, x.f0.length ≤ 3
theorem l92_two {s : List Int} {Q : List S128 × Int → Prop} (out : List S128) (n i p w : Int) (fs : List Int) (ho : ∀ x ∈ out, x.f0.length ≤ 3) (hol : out.length ≤ 100)
 (hk : Evx (fun k => spec_l92Formulas.l0 k out n (wrap64 (i + 1)) s p) Q) (hk' : Evx (fun k => spec_l92Formulas.l0 k (out ++ [⟨fs, w⟩]) n (wrap64 (i + 1)) s p) Q) (d : Nat) :
 ∀ (x9 : Bool) (j : Nat), j + d = out.length → Evx (fun k => spec_l92Formulas.l2 k out n i x9 (j : Int) s p fs w) Q := by
 induction d with
 | zero =>
  intro x9 j hj
  refine Evx.succ ?_
  simp only [spec_l92Formulas.l2]
  refine Evx.neg (by omega) ?_
  cases x9
  ·
   exact Evx.neg (by simp) hk
  ·
   exact Evx.pos rfl (Evx.pos (by omega) hk')
 | succ d ih =>
  intro x9 j hj
  refine Evx.succ ?_
  simp only [spec_l92Formulas.l2]
  rw [w64 (x := (j : Int) + 1) (by omega) (by omega)]
  have e : ((j : Int) + 1) = ((j + 1 : Nat) : Int) := by omega
  rw [e]
  refine Evx.pos (by omega) ?_
  cases x9
  ·
   exact Evx.neg (by simp) (ih false (j + 1) (by omega))
  ·
   refine Evx.pos rfl (Evx.pos (by omega) (Evx.bind1 (spec_l2Same_ev _ fs ?_) (ih _ (j + 1) (by omega))))
   have := ho _ (rd_mem (l := out) (k := (j : Int)) (by omega) (by omega))
   omega
theorem l92_one {s : List Int} (hc : Code s) {Q : List S128 × Int → Prop} (out : List S128) (n i x7 w : Int) (P : Int) (hP : P ≤ 1000000000)
 (hk : ∀ (fs : List Int) (p : Int), fs.length ≤ 3 → 0 ≤ p → p ≤ P → Evx (fun k => spec_l92Formulas.l2 k out n i true 0 s p fs w) Q) (d : Nat) :
 ∀ (x8 p : Int) (fs : List Int), 0 ≤ x8 → x7 - x8 = d → x7 ≤ 3 → fs.length + d ≤ 3 → 0 ≤ p → p + d ≤ P → Evx (fun k => spec_l92Formulas.l1 k out n i x7 x8 s p fs w) Q := by
 induction d with
 | zero =>
  intro x8 p fs h0 h1 h2 h3 h4 h5
  refine Evx.succ ?_
  simp only [spec_l92Formulas.l1]
  exact Evx.neg (by omega) (hk fs p (by omega) h4 (by omega))
 | succ d ih =>
  intro x8 p fs h0 h1 h2 h3 h4 h5
  refine Evx.succ ?_
  simp only [spec_l92Formulas.l1]
  rw [w64 (x := x8 + 1) (by omega) (by omega)]
  refine Evx.pos (by omega) (Evx.bind (pick_ev hc p 3 h4 (by omega)) ?_)
  rintro ⟨r, q⟩ ⟨hr0, hr1, rfl⟩
  exact Evx.pos (by omega) (ih (x8 + 1) (p + 1) _ (by omega) (by omega) h2 (by rw [List.length_append, List.length_singleton]; omega) (by omega) (by omega))
theorem DrF.set {l : List S128} (h : DrF l) (j : Nat) {x : S128} (hx : x.f0.length ≤ 3) : DrF (l.set j x) := by
 refine ⟨by rw [List.length_set]; exact h.1, fun y hy => ?_⟩
 rcases List.mem_or_eq_of_mem_set hy with hy | rfl
 ·
  exact h.2 y hy
 ·
  exact hx
theorem drawFormulas_loop {s : List Int} (hc : Code s) (n : Int) (hn : n ≤ 5) (d : Nat) : ∀ (out : List S128) (i p : Int), 0 ≤ i → n - i = d → (out.length : Int) ≤ i → (1 ≤ i → 1 ≤ out.length) → 1 ≤ n → (∀ x ∈ out, x.f0.length ≤ 3) → 0 ≤ p → p + 10 * d ≤ 1000000 →
 Evx (fun k => spec_l92Formulas.l0 k out n i s p) (fun r => DrF r.1 ∧ 0 ≤ r.2 ∧ r.2 ≤ p + 10 * d + 2) := by
 induction d with
 | zero =>
  intro out i p h0 h1 h2 h3 h4 h5 h6 h7
  have hne := h3 (by omega)
  have hD : DrF out := ⟨by omega, h5⟩
  have hz : (rd_T128 out 0).f0.length ≤ 3 := h5 _ (rd_mem (k := 0) (by omega) (by omega))
  refine Evx.succ ?_
  simp only [spec_l92Formulas.l0]
  refine Evx.neg (by omega) (Evx.bind (pick_ev hc p 40 h6 (by omega)) ?_)
  rintro ⟨r, q⟩ ⟨hr0, hr1, rfl⟩
  refine Evx.ite (fun _ => ?_) (fun _ => Evx.ite (fun _ => ?_) (fun _ => Evx.ite (fun _ => ?_) (fun _ => Evx.ite (fun _ => ?_) (fun _ => ?_))))
  ·
   refine Evx.someb (Evx.bind (pick_ev hc (p + 1) 2 (by omega) (by omega)) ?_)
   rintro ⟨u, q⟩ ⟨hu0, hu1, rfl⟩
   have hu0 : 0 ≤ u := hu0
   have hu1 : u < 2 ∨ u = 0 := hu1
   exact Evx.pos hu0 (Evx.pos (by simp; omega) (Evx.pos (by omega) (Evx.now ⟨hD.set _ hz, by show 0 ≤ p + 1 + 1; omega, by show p + 1 + 1 ≤ _; omega⟩)))
  ·
   refine Evx.pos (by omega) (Evx.pos (by omega) (Evx.now ⟨⟨by rw [List.length_append, List.length_singleton]; omega, fun x hx => ?_⟩, by show 0 ≤ p + 1; omega, by show p + 1 ≤ _; omega⟩))
   rcases List.mem_append.1 hx with hx | hx
   ·
    exact h5 x hx
   ·
    rw [List.mem_singleton.1 hx]; exact hz
  ·
   exact Evx.pos (by omega) (Evx.now ⟨hD.set _ (by simp), by show 0 ≤ p + 1; omega, by show p + 1 ≤ _; omega⟩)
  ·
   exact Evx.now ⟨⟨by simp, by simp⟩, by show 0 ≤ p + 1; omega, by show p + 1 ≤ _; omega⟩
  ·
   exact Evx.now ⟨hD, by show 0 ≤ p + 1; omega, by show p + 1 ≤ _; omega⟩
 | succ d ih =>
  intro out i p h0 h1 h2 h3 h4 h5 h6 h7
  refine Evx.succ ?_
  simp only [spec_l92Formulas.l0]
  refine Evx.pos (by omega) (Evx.bind (pick_ev hc p 5 h6 (by omega)) ?_)
  rintro ⟨u, q⟩ ⟨hu0, hu1, rfl⟩
  refine Evx.bind (pick_ev hc (p + 1) 3 (by omega) (by omega)) ?_
  rintro ⟨v, q⟩ ⟨hv0, hv1, rfl⟩
  have hv0 : 0 ≤ v := hv0
  have hv1 : v < 3 ∨ v = 0 := hv1
  rw [w64 (x := 1 + v) (by omega) (by omega)]
  have nxt : ∀ out' : List S128, (out'.length : Int) ≤ i + 1 → 1 ≤ out'.length → (∀ x ∈ out', x.f0.length ≤ 3) → ∀ q, 0 ≤ q → q ≤ p + 6 → Evx (fun k => spec_l92Formulas.l0 k out' n (wrap64 (i + 1)) s q) (fun r => DrF r.1 ∧ 0 ≤ r.2 ∧ r.2 ≤ p + 10 * ((d + 1 : Nat) : Int) + 2) := by
   intro out' a1 a2 a3 q a4 a5
   rw [w64 (x := i + 1) (by omega) (by omega)]
   exact (ih out' (i + 1) q (by omega) (by omega) a1 (fun _ => a2) h4 a3 a4 (by omega)).mono (fun r h => ⟨h.1, h.2.1, by have := h.2.2; omega⟩)
  obtain ⟨e, he⟩ : ∃ e : Nat, (1 + v) - 0 = e := ⟨(1 + v).toNat, by omega⟩
  refine l92_one hc out n i (1 + v) _ (p + 6) (by omega) (fun fs q hf hq hq' => ?_) e 0 (p + 1 + 1) [] (by omega) he (by omega) (by simp; omega) (by omega) (by omega)
  by_cases hz : out = []
  ·
   subst hz
   refine Evx.succ ?_
   simp only [spec_l92Formulas.l2]
   refine Evx.neg (by simp) (Evx.pos trivial (Evx.pos (by simp) (nxt _ (by simp; omega) (by simp) (by simpa using hf) q hq hq')))
  ·
   have hlz : 1 ≤ out.length := List.length_pos_iff.2 hz
   refine l92_two out n i q _ fs h5 (by omega) (nxt out (by omega) hlz h5 q hq hq') (nxt _ (by rw [List.length_append, List.length_singleton]; omega) (by rw [List.length_append, List.length_singleton]; omega) (fun x hx => ?_) q hq hq') out.length true 0 (by omega)
   rcases List.mem_append.1 hx with hx | hx
   ·
    exact h5 x hx
   ·
    rw [List.mem_singleton.1 hx]; exact hf
theorem drawFormulas_ev {s : List Int} (hc : Code s) (p : Int) (hp : 0 ≤ p) (hp' : p ≤ 10000) : Evx (fun k => spec_l92Formulas.f k s p) (fun r => DrF r.1 ∧ 0 ≤ r.2 ∧ r.2 ≤ p + 53) := by
 unfold spec_l92Formulas.f
 refine Evx.bind (pick_ev hc p 5 hp (by omega)) ?_
 rintro ⟨u, q⟩ ⟨hu0, hu1, rfl⟩
 have hu0 : 0 ≤ u := hu0
 have hu1 : u < 5 ∨ u = 0 := hu1
 rw [w64 (x := 1 + u) (by omega) (by omega)]
 obtain ⟨e, he⟩ : ∃ e : Nat, (1 + u) - 0 = e := ⟨(1 + u).toNat, by omega⟩
 exact (drawFormulas_loop hc (1 + u) (by omega) e [] 0 (p + 1) (by omega) he (by simp) (by omega) (by omega) (by simp) (by omega) (by omega)).mono (fun r h => ⟨h.1, h.2.1, by have := h.2.2; omega⟩)

theorem spec_l6fOne_ev (x : S128) (hl : x.f0.length ≤ 1000000000000) : Ev (fun k => spec_l6fOne.f k x.f0 x.f1) (fOk x) := by
 unfold spec_l6fOne.f
 have := Ev.over (0 : Int) x.f0 (fun k (_ : Unit) i => spec_l6fOne.l0 k i x.f0 x.f1) (fun _ rest => rest.all (inR (-7) 7) && (decide (1 ≤ (x.f0.length : Int) ∧ (x.f0.length : Int) ≤ 5) && decide (1 ≤ x.f1 ∧ x.f1 ≤ 9))) (fun _ _ => True) (by
  intro s _
  refine Ev.succ ?_
  simp only [spec_l6fOne.l0, List.all_nil, Bool.true_and]
  refine Ev.neg (by omega) (Ev.conb (spec_l6In_eq _ _ _) ?_)
  by_cases h : 1 ≤ (x.f0.length : Int) ∧ (x.f0.length : Int) ≤ 5
  ·
   rw [decide_eq_true h]
   exact Ev.pos rfl (Ev.conb (spec_l6In_eq _ _ _) (Ev.now _))
  ·
   rw [decide_eq_false h]
   exact Ev.neg (by simp) (Ev.now _)) (by
  intro s i rest _ hi _ ih
  refine Ev.succ ?_
  simp only [spec_l6fOne.l0, List.all_cons]
  rw [w64 (by omega) (by omega)]
  refine Ev.pos (by omega) (Ev.pos (by omega) (Ev.conb (spec_l6In_eq _ _ _) ?_))
  have hrd : rd x.f0 (i : Int) = x.f0.getD i 0 := rfl
  rw [hrd]
  show Ev _ ((decide (-7 ≤ x.f0.getD i 0 ∧ x.f0.getD i 0 ≤ 7) && _) && _)
  by_cases h : -7 ≤ x.f0.getD i 0 ∧ x.f0.getD i 0 ≤ 7
  ·
   rw [decide_eq_true h]
   exact Ev.pos rfl (ih () trivial)
  ·
   rw [decide_eq_false h]
   exact Ev.neg (by simp) (Ev.now _)) 0 () (Nat.zero_le _) trivial
 refine Ev.eqr (by simpa using this) ?_
 unfold fOk
 cases x.f0.all (inR (-7) 7) <;> simp
theorem spec_FormulasValid_ev (l : List S128) (hll : l.length ≤ 1000000000000) (hl : ∀ x ∈ l, x.f0.length ≤ 1000000000000) : Ev (fun k => spec_FormulasValid.f k l) (fsOk l) := by
 unfold spec_FormulasValid.f
 have := Ev.over z128 l (fun k (_ : Unit) i => spec_FormulasValid.l0 k l i) (fun _ rest => goF (l.take (l.length - rest.length)) rest && decide ((l.length : Int) ≤ 8)) (fun _ _ => True) (by
  intro s _
  refine Ev.succ ?_
  simp only [spec_FormulasValid.l0, goF, Bool.true_and]
  exact Ev.neg (by omega) (Ev.now _)) (by
  intro s i rest _ hi hdr ih
  have hrl : rest.length + 1 + i = l.length := by
   have := congrArg List.length hdr
   simp at this; omega
  have hm : l.getD i z128 ∈ l := by
   rw [List.getD_eq_getElem?_getD, List.getElem?_eq_getElem hi]; exact List.getElem_mem hi
  have hx := hl _ hm
  refine Ev.succ ?_
  simp only [spec_FormulasValid.l0]
  refine Ev.pos (by omega) (Ev.pos (by omega) ?_)
  have hrd : rd_T128 l (i : Int) = l.getD i z128 := rfl
  have e2 : l.length - (l.getD i z128 :: rest).length = i := by simp; omega
  have e1 : l.length - rest.length = i + 1 := by omega
  have ih := ih () trivial
  rw [e1, take_rd l i hi] at ih
  rw [e2]
  rw [← hrd] at hx ih ⊢
  simp only [goF]
  refine Ev.bind (spec_l6fOne_ev _ hx) ?_
  cases hf : fOk (rd_T128 l (i : Int))
  ·
   exact Ev.neg (by simp) (Ev.now _)
  refine Ev.pos rfl ?_
  simp only [Bool.true_and]
  have htl : (l.take i).length = i := by simp; omega
  have inner := Ev.over z128 (l.take i) (fun k (_ : Unit) j => spec_FormulasValid.l1 k l i j) (fun _ rest' => (!(rest'.any (fun y => y.f0 == (rd_T128 l (i : Int)).f0)) && goF (l.take i ++ [rd_T128 l (i : Int)]) rest) && decide ((l.length : Int) ≤ 8)) (fun _ _ => True) (by
   intro s _
   refine Ev.succ ?_
   simp only [spec_FormulasValid.l1]
   refine Ev.neg (by omega) ?_
   rw [w64 (by omega) (by omega)]
   simpa using ih) (by
   intro s j rest' _ hj _ ih'
   have hjm : (l.take i).getD j z128 ∈ l := by
    rw [List.getD_eq_getElem?_getD, List.getElem?_eq_getElem hj]; exact List.mem_of_mem_take (List.getElem_mem hj)
   have hxj := hl _ hjm
   refine Ev.succ ?_
   simp only [spec_FormulasValid.l1]
   refine Ev.pos (by omega) (Ev.pos (by omega) (Ev.pos (by omega) (Ev.pos (by omega) (Ev.pos (by omega) ?_))))
   have hrd' : rd_T128 l (j : Int) = (l.take i).getD j z128 := by
    rw [List.getD_eq_getElem?_getD, List.getElem?_take, if_pos (by omega)]
    simp [rd_T128]
   rw [hrd']
   generalize (l.take i).getD j z128 = y at hxj
   refine Ev.bind (spec_l2Same_ev _ _ hx) ?_
   simp only [List.any_cons]
   have hcm : (y.f0 == (rd_T128 l (i : Int)).f0) = ((rd_T128 l (i : Int)).f0 == y.f0) := by rw [Bool.eq_iff_iff, beq_iff_eq, beq_iff_eq]; exact eq_comm
   rw [hcm]
   cases (rd_T128 l (i : Int)).f0 == y.f0
   ·
    refine Ev.neg (by simp) ?_
    rw [w64 (by omega) (by omega)]
    simpa using ih' () trivial
   ·
    exact Ev.pos rfl (Ev.now _)) 0 () (Nat.zero_le _) trivial
  simpa using inner) 0 () (Nat.zero_le _) trivial
 refine Ev.eqr (by simpa using this) ?_
 unfold fsOk
 rw [Bool.and_comm]

theorem goF_pw : ∀ {l acc : List S128}, goF acc l = true → (∀ a ∈ acc, ∀ b ∈ l, a.f0 ≠ b.f0) ∧ l.Pairwise (fun a b => a.f0 ≠ b.f0)
 | [], acc, _ => ⟨by simp, List.Pairwise.nil⟩
 | x :: xs, acc, h => by
  simp only [goF, Bool.and_eq_true, Bool.not_eq_true', List.any_eq_false, beq_iff_eq] at h
  obtain ⟨_, h1, h2⟩ := h
  obtain ⟨h3, h4⟩ := goF_pw h2
  refine ⟨fun a ha b hb => ?_, List.pairwise_cons.2 ⟨fun b hb => h3 x (by simp) b hb, h4⟩⟩
  rcases List.mem_cons.1 hb with rfl | hb
  ·
   exact h1 a ha
  ·
   exact h3 a (List.mem_append_left _ ha) b hb
def sumB (s : List Int) : List S128 → Nat
 | [] => 0
 | f :: fs => (if isPre f.f0 s = true then 2 ^ (s.length - f.f0.length) else 0) + sumB s fs
theorem sum_pow : ∀ (n : Nat) (ks : List Nat), ks.Nodup → (∀ k ∈ ks, 1 ≤ k ∧ k ≤ n) → (ks.map (fun k => 2 ^ (n - k))).sum + 1 ≤ 2 ^ n
 | 0, ks, _, h => by
  cases ks with
  | nil => simp
  | cons k ks => have := h k (by simp); omega
 | n + 1, ks, hn, h => by
  have key : ∀ l : List Nat, (∀ k ∈ l, k ≤ n) → (l.map (fun k => 2 ^ (n + 1 - k))).sum = 2 * (l.map (fun k => 2 ^ (n - k))).sum := by
   intro l
   induction l with
   | nil => intro _; rfl
   | cons k l ih =>
    intro hl
    have h1 := hl k (by simp)
    have e : n + 1 - k = (n - k) + 1 := by omega
    simp only [List.map_cons, List.sum_cons]
    rw [ih (fun k hk => hl k (by simp [hk])), e, Nat.pow_succ]; omega
  by_cases hm : n + 1 ∈ ks
  ·
   have hp := List.perm_cons_erase hm
   have h1 := sum_pow n (ks.erase (n + 1)) (hn.erase _) (fun k hk => by
    have h2 := h k (List.mem_of_mem_erase hk)
    have : k ≠ n + 1 := fun e => by subst e; exact (List.Nodup.not_mem_erase hn) hk
    omega)
   have h2 := (hp.map (fun k => 2 ^ (n + 1 - k))).sum_nat
   rw [h2, List.map_cons, List.sum_cons, key _ (fun k hk => by
    have h2 := h k (List.mem_of_mem_erase hk)
    have : k ≠ n + 1 := fun e => by subst e; exact (List.Nodup.not_mem_erase hn) hk
    omega), Nat.sub_self, Nat.pow_succ]
   omega
  ·
   rw [key _ (fun k hk => by have := h k hk; have : k ≠ n + 1 := fun e => hm (e ▸ hk); omega)]
   have h1 := sum_pow n ks hn (fun k hk => by have := h k hk; have : k ≠ n + 1 := fun e => hm (e ▸ hk); omega)
   rw [Nat.pow_succ]; omega
theorem isPre_take {p s : List Int} (h : isPre p s = true) : s.take p.length = p := by
 unfold isPre at h; simp at h; exact h.2
theorem sumB_eq (s : List Int) : ∀ L : List S128, sumB s L = (((L.filter (fun f => isPre f.f0 s)).map (fun f => f.f0.length)).map (fun k => 2 ^ (s.length - k))).sum
 | [] => rfl
 | f :: fs => by
  simp only [sumB]
  rw [sumB_eq s fs, List.filter_cons]
  cases isPre f.f0 s <;> simp
theorem sumB_le {s : List Int} {L : List S128} (hL : ∀ f ∈ L, 1 ≤ f.f0.length) (hp : L.Pairwise (fun a b => a.f0 ≠ b.f0)) : sumB s L ≤ 2 ^ s.length := by
 rw [sumB_eq]
 have h1 : ((L.filter (fun f => isPre f.f0 s)).map (fun f => f.f0.length)).Nodup := by
  rw [List.nodup_iff_pairwise_ne, List.pairwise_map]
  have h2 := hp.filter (fun f => isPre f.f0 s)
  refine List.Pairwise.imp_of_mem (fun {a b} ha hb h => ?_) h2
  intro e
  have h3 := isPre_take (List.mem_filter.1 ha).2
  have h4 := isPre_take (List.mem_filter.1 hb).2
  rw [e] at h3
  exact h (h3.symm.trans h4)
 have := sum_pow s.length _ h1 (fun k hk => by
  obtain ⟨f, hf, rfl⟩ := List.mem_map.1 hk
  obtain ⟨hf1, hf2⟩ := List.mem_filter.1 hf
  exact ⟨hL f hf1, isPre_len hf2⟩)
 omega
/-- A least sum, -1 for none. -/
def lA (c : S128 → Int) (g : List Int → Int) (s : List Int) : List S128 → Int → Int
 | [], a => a
 | f :: fs, a => if isPre f.f0 s = true then (if g (s.drop f.f0.length) < 0 then lA c g s fs a else lA c g s fs (if a < 0 ∨ g (s.drop f.f0.length) + c f < a then g (s.drop f.f0.length) + c f else a)) else lA c g s fs a
def oW (o : OutC) : Int := if o.f0 = 0 then -1 else o.f1
def oF (o : OutC) : Int := if o.f0 = 0 then -1 else o.f2
structure OBd (n : Nat) (o : OutC) : Prop where
 lo : 0 ≤ o.f0
 hi : o.f0 ≤ ((2 ^ n : Nat) : Int)
 w0 : o.f0 ≠ 0 → 0 ≤ o.f1
 w1 : o.f0 ≠ 0 → o.f1 ≤ 9 * (n : Int)
 f0 : o.f0 ≠ 0 → 0 ≤ o.f2
 f1 : o.f0 ≠ 0 → o.f2 ≤ (n : Int)
theorem OBd.oW {n : Nat} {o : OutC} (h : OBd n o) : -1 ≤ Pure.oW o ∧ Pure.oW o ≤ 9 * (n : Int) := by
 unfold Pure.oW
 by_cases hz : o.f0 = 0
 ·
  rw [if_pos hz]; omega
 ·
  rw [if_neg hz]; have := h.w0 hz; have := h.w1 hz; omega
theorem OBd.oF {n : Nat} {o : OutC} (h : OBd n o) : -1 ≤ Pure.oF o ∧ Pure.oF o ≤ (n : Int) := by
 unfold Pure.oF
 by_cases hz : o.f0 = 0
 ·
  rw [if_pos hz]; omega
 ·
  rw [if_neg hz]; have := h.f0 hz; have := h.f1 hz; omega
theorem outW_plain {n m : Nat} {o r : OutC} {f : S128} (hn : n ≤ 23) (hm : m + f.f0.length ≤ n) (hf : 1 ≤ f.f0.length) (hw : 1 ≤ f.f1 ∧ f.f1 ≤ 9) (h1 : OBd n o) (h2 : OBd m r) (hr : r.f0 ≠ 0) (hs : o.f0 + r.f0 ≤ ((2 ^ n : Nat) : Int)) :
 OBd n (outW o f r) ∧ (outW o f r).f0 = o.f0 + r.f0 ∧ oW (outW o f r) = (if oW o < 0 ∨ oW r + f.f1 < oW o then oW r + f.f1 else oW o) ∧ oF (outW o f r) = (if oF o < 0 ∨ oF r + 1 < oF o then oF r + 1 else oF o) := by
 have hp : (2 : Nat) ^ n ≤ 2 ^ 23 := Nat.pow_le_pow_right (by omega) hn
 have hp' : (2 : Nat) ^ 23 = 8388608 := rfl
 obtain ⟨a1, a2, a3, a4, a5, a6⟩ := h1
 obtain ⟨b1, b2, b3, b4, b5, b6⟩ := h2
 have b3 := b3 hr; have b4 := b4 hr; have b5 := b5 hr; have b6 := b6 hr
 have hne : o.f0 + r.f0 ≠ 0 := by omega
 unfold outW
 by_cases h : o.f0 > 0
 ·
  have hz : o.f0 ≠ 0 := by omega
  have a3 := a3 hz; have a4 := a4 hz; have a5 := a5 hz; have a6 := a6 hz
  rw [if_pos h, w64 (x := o.f0 + r.f0) (by omega) (by omega), w64 (x := f.f1 + r.f1) (by omega) (by omega), w64 (x := 1 + r.f2) (by omega) (by omega)]
  have m1 := mn_le (f.f1 + r.f1) o.f1
  have m2 := mn_le (1 + r.f2) o.f2
  refine ⟨⟨by simp only []; omega, hs, fun _ => by simp only []; omega, fun _ => by simp only []; omega, fun _ => by simp only []; omega, fun _ => by simp only []; omega⟩, rfl, ?_, ?_⟩
  ·
   unfold oW
   simp only []
   rw [if_neg hne, if_neg hz, if_neg hr]
   by_cases hc : r.f1 + f.f1 < o.f1
   ·
    rw [if_pos (.inr hc)]; omega
   ·
    rw [if_neg (by omega)]; omega
  ·
   unfold oF
   simp only []
   rw [if_neg hne, if_neg hz, if_neg hr]
   by_cases hc : r.f2 + 1 < o.f2
   ·
    rw [if_pos (.inr hc)]; omega
   ·
    rw [if_neg (by omega)]; omega
 ·
  have hz : o.f0 = 0 := by omega
  rw [if_neg h, w64 (x := o.f0 + r.f0) (by omega) (by omega), w64 (x := f.f1 + r.f1) (by omega) (by omega), w64 (x := 1 + r.f2) (by omega) (by omega)]
  refine ⟨⟨by simp only []; omega, hs, fun _ => by simp only []; omega, fun _ => by simp only []; omega, fun _ => by simp only []; omega, fun _ => by simp only []; omega⟩, rfl, ?_, ?_⟩
  ·
   unfold oW
   simp only []
   rw [if_neg hne, if_pos hz, if_neg hr, if_pos (.inl (by omega))]; omega
  ·
   unfold oF
   simp only []
   rw [if_neg hne, if_pos hz, if_neg hr, if_pos (.inl (by omega))]; omega
theorem rdA_plain {rec : List Int → OutC} {s : List Int} (hs : s.length ≤ 23) (hrec : ∀ k, 1 ≤ k → k ≤ s.length → OBd (s.length - k) (rec (s.drop k))) :
 ∀ (L : List S128) (acc : OutC), (∀ f ∈ L, 1 ≤ f.f0.length ∧ 1 ≤ f.f1 ∧ f.f1 ≤ 9) → OBd s.length acc → acc.f0 + (sumB s L : Int) ≤ ((2 ^ s.length : Nat) : Int) →
  OBd s.length (rdA rec s L acc) ∧ oW (rdA rec s L acc) = lA (fun f => f.f1) (fun t => oW (rec t)) s L (oW acc) ∧ oF (rdA rec s L acc) = lA (fun _ => 1) (fun t => oF (rec t)) s L (oF acc)
 | [], acc, _, h, _ => ⟨h, rfl, rfl⟩
 | f :: fs, acc, hL, h, hb => by
  have hf := hL f (by simp)
  have hL' := fun g hg => hL g (List.mem_cons_of_mem _ hg)
  simp only [rdA, lA, sumB] at hb ⊢
  by_cases hp : isPre f.f0 s = true
  ·
   rw [if_pos hp] at hb
   rw [if_pos hp, if_pos hp, if_pos hp]
   have hl := isPre_len hp
   have hr := hrec f.f0.length hf.1 hl
   generalize rec (s.drop f.f0.length) = r at hr ⊢
   rw [Int.natCast_add] at hb
   have hbr := hr.hi
   by_cases hz : r.f0 = 0
   ·
    have e1 : oW r = -1 := if_pos hz
    have e2 : oF r = -1 := if_pos hz
    rw [if_pos hz, if_pos (by rw [e1]; omega), if_pos (by rw [e2]; omega)]
    have := hr.lo
    exact rdA_plain hs hrec fs acc hL' h (by omega)
   ·
    have e1 : ¬ oW r < 0 := by unfold oW; rw [if_neg hz]; have := hr.w0 hz; omega
    have e2 : ¬ oF r < 0 := by unfold oF; rw [if_neg hz]; have := hr.f0 hz; omega
    rw [if_neg hz, if_neg e1, if_neg e2]
    obtain ⟨o1, o2, o3, o4⟩ := outW_plain (n := s.length) (m := s.length - f.f0.length) (o := acc) (r := r) (f := f) hs (by omega) hf.1 hf.2 h hr hz (by omega)
    rw [← o3, ← o4]
    exact rdA_plain hs hrec fs (outW acc f r) hL' o1 (by rw [o2]; omega)
  ·
   rw [if_neg hp] at hb
   rw [if_neg hp, if_neg hp, if_neg hp]
   exact rdA_plain hs hrec fs acc hL' h (by omega)
/-- What valid formulas are good for. -/
structure FsV (L : List S128) : Prop where
 len : L.length ≤ 8
 one : ∀ f ∈ L, 1 ≤ f.f0.length ∧ f.f0.length ≤ 5
 wt : ∀ f ∈ L, 1 ≤ f.f1 ∧ f.f1 ≤ 9
 pw : L.Pairwise (fun a b => a.f0 ≠ b.f0)
theorem FsV.of {L : List S128} (h : fsOk L = true) : FsV L :=
 ⟨fsOk_len h, fun f hf => fOk_len (fsOk_all h f hf), fun f hf => fOk_weight (fsOk_all h f hf), (goF_pw (acc := []) (by unfold fsOk at h; simp at h; exact h.2)).2⟩
theorem rdO_bd {L : List S128} (hv : FsV L) : ∀ (n : Nat) (s : List Int), s.length = n → n ≤ 23 → OBd n (rdO L s) := by
 intro n
 induction n using Nat.strongRecOn with
 | ind n ih =>
  intro s hs hn
  by_cases hne : s = []
  ·
   subst hne
   simp at hs
   subst hs
   rw [rdO_nil]
   exact ⟨by simp, by simp, by simp, by simp, by simp, by simp⟩
  ·
   rw [rdO_step (fun f hf => (hv.one f hf).1) hne]
   subst hs
   refine (rdA_plain hn (fun k hk hk' => ih (s.length - k) (by omega) _ (by rw [List.length_drop]) (by omega)) L ⟨0, 0, 0⟩ (fun f hf => ⟨(hv.one f hf).1, hv.wt f hf⟩) ⟨by simp, Int.natCast_nonneg _, by simp, by simp, by simp, by simp⟩ ?_).1
   have := sumB_le (s := s) (fun f hf => (hv.one f hf).1) hv.pw
   simp only [Int.zero_add]
   exact_mod_cast this
theorem rdO_least {L : List S128} (hv : FsV L) {s : List Int} (hs : s.length ≤ 23) (hne : s ≠ []) :
 oW (rdO L s) = lA (fun f => f.f1) (fun t => oW (rdO L t)) s L (-1) ∧ oF (rdO L s) = lA (fun _ => 1) (fun t => oF (rdO L t)) s L (-1) := by
 have h := rdA_plain (rec := rdO L) (s := s) hs (fun k hk hk' => rdO_bd hv (s.length - k) _ (by rw [List.length_drop]) (by omega)) L ⟨0, 0, 0⟩ (fun f hf => ⟨(hv.one f hf).1, hv.wt f hf⟩) ⟨by simp, Int.natCast_nonneg _, by simp, by simp, by simp, by simp⟩ (by
  have := sumB_le (s := s) (fun f hf => (hv.one f hf).1) hv.pw
  simp only [Int.zero_add]
  exact_mod_cast this)
 rw [rdO_step (fun f hf => (hv.one f hf).1) hne]
 exact ⟨h.2.1, h.2.2⟩

def goB (l : List S128) : List Int → List Int → List Int × Bool
 | acc, [] => (acc, true)
 | acc, i :: is => if i < 0 ∨ (l.length : Int) ≤ i ∨ acc.length + (rd_T128 l i).f0.length > 23 then ([], false) else goB l (acc ++ (rd_T128 l i).f0) is
def fbuild (l : List S128) (r : List Int) : List Int × Bool := if fsOk l = true then goB l [] r else ([], false)
theorem goB_len (l : List S128) : ∀ r acc, acc.length ≤ 23 → (goB l acc r).1.length ≤ 23
 | [], acc, h => h
 | i :: is, acc, h => by
  simp only [goB]
  split
  ·
   simp
  ·
   exact goB_len l is _ (by rw [List.length_append]; omega)
theorem fbuild_len (l : List S128) (r : List Int) : (fbuild l r).1.length ≤ 23 := by
 unfold fbuild
 split
 ·
  exact goB_len l r [] (by simp)
 ·
  simp
theorem impl_FormulasBuild_ev (l : List S128) (r : List Int) (hl : ∀ x ∈ l, x.f0.length ≤ 1000000000000) (hr : r.length ≤ 1000000000000) : Ev (fun k => impl_FormulasBuild.f k l r) (fbuild l r) := by
 unfold impl_FormulasBuild.f fbuild
 refine Ev.bind (impl_FormulasValid_ev l hl) ?_
 cases hok : fsOk l
 ·
  exact Ev.neg (by simp) (Ev.eqr (Ev.now _) (by simp))
 refine Ev.pos rfl ?_
 rw [if_pos rfl]
 have h8 := fsOk_len hok
 have := Ev.over (0 : Int) r (fun k (s : List Int) i => impl_FormulasBuild.l0 k l s r r.length i) (fun s rest => goB l s rest) (fun i s => s.length ≤ 23) (by
  intro s _
  refine Ev.succ ?_
  simp only [impl_FormulasBuild.l0, goB]
  exact Ev.neg (by omega) (Ev.now _)) (by
  intro s i rest hs hi _ ih
  refine Ev.succ ?_
  simp only [impl_FormulasBuild.l0, goB]
  refine Ev.pos (by omega) (Ev.pos (by omega) (Ev.pos (by omega) ?_))
  have hrd : rd r (i : Int) = r.getD i 0 := rfl
  rw [hrd]
  generalize r.getD i 0 = n
  by_cases h1 : n < 0
  ·
   rw [if_pos (Or.inl h1)]
   exact Ev.pos h1 (Ev.now _)
  ·
   refine Ev.neg h1 ?_
   by_cases h2 : n ≥ (l.length : Int)
   ·
    rw [if_pos (Or.inr (Or.inl h2))]
    exact Ev.pos h2 (Ev.now _)
   ·
    refine Ev.neg h2 (Ev.pos (by omega) (Ev.pos (by omega) ?_))
    have hw := fOk_len (fsOk_all hok _ (rd_mem (k := n) (by omega) (by omega)))
    rw [w64 (by omega) (by omega)]
    by_cases h3 : (s.length : Int) + ((rd_T128 l n).f0.length : Int) > 23
    ·
     rw [if_pos (Or.inr (Or.inr (by omega)))]
     exact Ev.pos h3 (Ev.now _)
    ·
     rw [if_neg (by omega)]
     refine Ev.neg h3 (Ev.pos (by omega) ?_)
     rw [w64 (by omega) (by omega)]
     exact ih _ (by rw [List.length_append]; omega)) 0 [] (Nat.zero_le _) (by simp)
 simpa using this
theorem spec_FormulasBuild_ev (l : List S128) (r : List Int) (hll : l.length ≤ 1000000000000) (hl : ∀ x ∈ l, x.f0.length ≤ 1000000000000) (hr : r.length ≤ 1000000000000) : Ev (fun k => spec_FormulasBuild.f k l r) (fbuild l r) := by
 unfold spec_FormulasBuild.f fbuild
 refine Ev.someb (Ev.bind (spec_FormulasValid_ev l hll hl) ?_)
 cases hok : fsOk l
 ·
  exact Ev.neg (by simp) (Ev.eqr (Ev.now _) (by simp))
 refine Ev.pos rfl ?_
 rw [if_pos rfl]
 have h8 := fsOk_len hok
 have := Ev.over (0 : Int) r (fun k (s : List Int) i => spec_FormulasBuild.l0 k l r s i) (fun s rest => goB l s rest) (fun i s => s.length ≤ 23) (by
  intro s _
  refine Ev.succ ?_
  simp only [spec_FormulasBuild.l0, goB]
  exact Ev.neg (by omega) (Ev.now _)) (by
  intro s i rest hs hi _ ih
  refine Ev.succ ?_
  simp only [spec_FormulasBuild.l0, goB]
  rw [w64 (x := (l.length : Int) - 1) (by omega) (by omega)]
  refine Ev.pos (by omega) (Ev.pos (by omega) (Ev.conb (spec_l6In_eq _ _ _) ?_))
  have hrd : rd r (i : Int) = r.getD i 0 := rfl
  rw [hrd]
  generalize r.getD i 0 = n
  by_cases h1 : 0 ≤ n ∧ n ≤ (l.length : Int) - 1
  ·
   rw [decide_eq_true h1]
   have hw := fOk_len (fsOk_all hok _ (rd_mem (k := n) (by omega) (by omega)))
   refine Ev.pos rfl (Ev.pos h1.1 (Ev.pos (by omega) (Ev.pos (by omega) (Ev.someb ?_))))
   by_cases h3 : ((s ++ (rd_T128 l n).f0).length : Int) ≥ 24
   ·
    rw [if_pos (by rw [List.length_append] at h3; omega)]
    exact Ev.pos h3 (Ev.now _)
   ·
    have h3' := h3
    rw [List.length_append] at h3'
    rw [if_neg (by omega), w64 (by omega) (by omega)]
    exact Ev.neg h3 (ih _ (by rw [List.length_append]; omega))
  ·
   rw [decide_eq_false h1, if_pos (by omega)]
   exact Ev.neg (by simp) (Ev.now _)) 0 [] (Nat.zero_le _) (by simp)
 simpa using this

def okIx (L : List S128) (r : List Int) : Prop := ∀ i ∈ r, 0 ≤ i ∧ i < (L.length : Int)
def flatR (L : List S128) : List Int → List Int
 | [] => []
 | i :: r => (rd_T128 L i).f0 ++ flatR L r
def sumW (L : List S128) : List Int → Int
 | [] => 0
 | i :: r => (rd_T128 L i).f1 + sumW L r
theorem goB_of {L : List S128} : ∀ (r acc : List Int), okIx L r → (acc ++ flatR L r).length ≤ 23 → goB L acc r = (acc ++ flatR L r, true)
 | [], acc, _, _ => by simp [goB, flatR]
 | i :: r, acc, h, hl => by
  have hi := h i List.mem_cons_self
  simp only [flatR] at hl ⊢
  simp only [goB]
  rw [if_neg (by rw [List.length_append, List.length_append] at hl; omega), goB_of r _ (fun j hj => h j (List.mem_cons_of_mem _ hj)) (by rw [List.append_assoc]; exact hl), List.append_assoc]
theorem fbuild_of {L : List S128} {r : List Int} (hv : fsOk L = true) (h : okIx L r) (hl : (flatR L r).length ≤ 23) : fbuild L r = (flatR L r, true) := by
 unfold fbuild
 rw [if_pos hv, goB_of r [] h (by simpa using hl)]; simp
theorem oW_nn {o : OutC} : 0 ≤ oW o → o.f0 ≠ 0 := by
 intro h hz
 unfold oW at h
 rw [if_pos hz] at h; omega
def selA (x : Int × Int) : Int := if x.1 < 0 then -1 else x.2
def BInv (L : List S128) (s : List Int) (x : Int × Int) : Prop := x.1 < 0 ∨ (0 ≤ x.2 ∧ 0 ≤ x.1 ∧ x.1 < (L.length : Int) ∧ isPre (rd_T128 L x.1).f0 s = true ∧ (rdO L (s.drop (rd_T128 L x.1).f0.length)).f0 ≠ 0 ∧ x.2 = (rd_T128 L x.1).f1 + oW (rdO L (s.drop (rd_T128 L x.1).f0.length)))
theorem bestF_lA {L : List S128} (hv : FsV L) {s : List Int} (hs : s.length ≤ 23) : ∀ (l : List S128) (q : Nat), l = L.drop q → ∀ (b a : Int), BInv L s (b, a) →
 BInv L s (bestF L (rdC (rdO L) s (q : Int) l) (b, a)) ∧ lA (fun f => f.f1) (fun t => oW (rdO L t)) s l (selA (b, a)) = selA (bestF L (rdC (rdO L) s (q : Int) l) (b, a))
 | [], q, _, b, a, h => ⟨h, rfl⟩
 | f :: fs, q, hq, b, a, h => by
  have hlt : q < L.length := by
   rcases Nat.lt_or_ge q L.length with h | h
   ·
    exact h
   ·
    rw [List.drop_eq_nil_of_le h] at hq; cases hq
  have hf : f = rd_T128 L (q : Int) ∧ fs = L.drop (q + 1) := by
   rw [List.drop_eq_getElem_cons hlt] at hq
   refine ⟨?_, (List.cons.inj hq).2⟩
   unfold rd_T128
   rw [Int.toNat_natCast, List.getD_eq_getElem?_getD, List.getElem?_eq_getElem hlt]
   exact (List.cons.inj hq).1
  have e2 : ((q : Int) + 1) = ((q + 1 : Nat) : Int) := by omega
  have hm : rd_T128 L (q : Int) ∈ L := rd_mem (by omega) (by omega)
  have h1 := hv.one _ hm
  have hw := hv.wt _ hm
  simp only [rdC, lA]
  rw [e2]
  by_cases hp : isPre f.f0 s = true
  ·
   have hl := isPre_len hp
   have hbd := rdO_bd hv (s.length - f.f0.length) (s.drop f.f0.length) (by rw [List.length_drop]) (by omega)
   rw [if_pos hp, if_pos hp]
   by_cases hz : (rdO L (s.drop f.f0.length)).f0 = 0
   ·
    have e1 : oW (rdO L (s.drop f.f0.length)) = -1 := if_pos hz
    rw [if_pos hz, if_pos (by rw [e1]; omega)]
    exact bestF_lA hv hs fs (q + 1) hf.2 b a h
   ·
    have e1 : oW (rdO L (s.drop f.f0.length)) = (rdO L (s.drop f.f0.length)).f1 := if_neg hz
    have w0 := hbd.w0 hz
    have w1 := hbd.w1 hz
    rw [if_neg hz, if_neg (by rw [e1]; omega)]
    simp only [bestF]
    rw [hf.1] at hp hz e1 w0 w1 hl ⊢
    have ew : wrap64 ((rd_T128 L (q : Int)).f1 + (rdO L (s.drop (rd_T128 L (q : Int)).f0.length)).f1) = (rd_T128 L (q : Int)).f1 + oW (rdO L (s.drop (rd_T128 L (q : Int)).f0.length)) := by rw [w64 (by omega) (by omega), e1]
    rw [ew]
    have ec : oW (rdO L (s.drop (rd_T128 L (q : Int)).f0.length)) + (rd_T128 L (q : Int)).f1 = (rd_T128 L (q : Int)).f1 + oW (rdO L (s.drop (rd_T128 L (q : Int)).f0.length)) := by omega
    rw [ec]
    generalize hV : (rd_T128 L (q : Int)).f1 + oW (rdO L (s.drop (rd_T128 L (q : Int)).f0.length)) = V
    have hV0 : 0 ≤ V := by omega
    have sq : selA ((q : Int), V) = V := if_neg (by show ¬ (q : Int) < 0; omega)
    have nxt := bestF_lA hv hs fs (q + 1) hf.2 (q : Int) V (.inr ⟨hV0, by show 0 ≤ (q : Int); omega, by show (q : Int) < _; omega, hp, hz, hV.symm⟩)
    rw [sq] at nxt
    by_cases hb : b < 0
    ·
     have sb : selA (b, a) = -1 := if_pos hb
     rw [sb, if_pos (show (-1 : Int) < 0 ∨ V < -1 from .inl (by omega)), if_pos (show b < 0 ∨ V < a from .inl hb)]
     exact nxt
    ·
     have ha : 0 ≤ a := by rcases h with h | h; exact absurd h hb; exact h.1
     have sb : selA (b, a) = a := if_neg hb
     rw [sb]
     by_cases hc : V < a
     ·
      rw [if_pos (show a < 0 ∨ V < a from .inr hc), if_pos (show b < 0 ∨ V < a from .inr hc)]
      exact nxt
     ·
      rw [if_neg (show ¬ (a < 0 ∨ V < a) by omega), if_neg (show ¬ (b < 0 ∨ V < a) by omega)]
      have := bestF_lA hv hs fs (q + 1) hf.2 b a h
      rw [sb] at this
      exact this
  ·
   rw [if_neg hp, if_neg hp]
   exact bestF_lA hv hs fs (q + 1) hf.2 b a h
theorem best_least {L : List S128} (hv : FsV L) {s : List Int} (hs : s.length ≤ 23) (hne : s ≠ []) (hm : (rdO L s).f0 ≠ 0) :
 ∃ b, (bestF L (rdCalls L s) (-1, 0)).1 = b ∧ 0 ≤ b ∧ b < (L.length : Int) ∧ isPre (rd_T128 L b).f0 s = true ∧ (rdO L (s.drop (rd_T128 L b).f0.length)).f0 ≠ 0 ∧ oW (rdO L s) = (rd_T128 L b).f1 + oW (rdO L (s.drop (rd_T128 L b).f0.length)) := by
 have hcl : rdCalls L s = rdC (rdO L) s ((0 : Nat) : Int) L := if_neg hne
 obtain ⟨h1, h2⟩ := bestF_lA hv hs L 0 rfl (-1) 0 (.inl (by show (-1 : Int) < 0; omega))
 rw [← hcl] at h1 h2
 have s0 : selA (-1, 0) = -1 := rfl
 rw [s0, ← (rdO_least hv hs hne).1] at h2
 have h0 : 0 ≤ oW (rdO L s) := by
  have := rdO_bd hv s.length s rfl hs
  unfold oW
  rw [if_neg hm]; exact this.w0 hm
 rcases h1 with h1 | ⟨a1, a2, a3, a4, a5, a6⟩
 ·
  have : selA (bestF L (rdCalls L s) (-1, 0)) = -1 := if_pos h1
  omega
 ·
  have : selA (bestF L (rdCalls L s) (-1, 0)) = (bestF L (rdCalls L s) (-1, 0)).2 := if_neg (by omega)
  rw [this] at h2
  exact ⟨_, rfl, a2, a3, a4, a5, by rw [h2]; exact a6⟩
theorem bestGo_reads {L : List S128} (hv : FsV L) : ∀ (n : Nat) (s : List Int), s.length ≤ n → s.length ≤ 23 → (rdO L s).f0 ≠ 0 → okIx L (bestGo L n s) ∧ flatR L (bestGo L n s) = s ∧ sumW L (bestGo L n s) = oW (rdO L s)
 | 0, s, h, _, _ => by
  obtain rfl : s = [] := List.eq_nil_of_length_eq_zero (by omega)
  simp only [bestGo, flatR, sumW]
  rw [rdO_nil]
  exact ⟨fun i hi => by simp at hi, trivial, by simp [oW]⟩
 | n + 1, s, h, hs, hm => by
  by_cases hne : s = []
  ·
   subst hne
   simp only [bestGo, if_true, flatR, sumW]
   rw [rdO_nil]
   exact ⟨fun i hi => by simp at hi, trivial, by simp [oW]⟩
  ·
   obtain ⟨b, h1, h2, h3, h4, h5, h6⟩ := best_least hv hs hne hm
   have hl := isPre_len h4
   have ho := hv.one _ (rd_mem h2 h3)
   simp only [bestGo]
   rw [if_neg hne, h1]
   obtain ⟨a1, a2, a3⟩ := bestGo_reads hv n (s.drop (rd_T128 L b).f0.length) (by rw [List.length_drop]; omega) (by rw [List.length_drop]; omega) h5
   simp only [flatR, sumW]
   refine ⟨fun i hi => ?_, ?_, ?_⟩
   ·
    rcases List.mem_cons.1 hi with rfl | hi
    ·
     exact ⟨h2, h3⟩
    ·
     exact a1 i hi
   ·
    rw [a2]
    have := isPre_take h4
    conv => rhs; rw [← List.take_append_drop (rd_T128 L b).f0.length s, this]
   ·
    rw [a3, h6]
theorem bestGo_len (L : List S128) : ∀ (n : Nat) (s : List Int), (bestGo L n s).length ≤ n
 | 0, s => Nat.le_refl _
 | n + 1, s => by
  simp only [bestGo]
  split
  ·
   simp
  ·
   rw [List.length_cons]
   have := bestGo_len L n (s.drop (rd_T128 L (bestF L (rdCalls L s) (-1, 0)).1).f0.length)
   omega

theorem drawAt_ev {s : List Int} (hc : Code s) (p n : Int) (hp : 0 ≤ p) (hp' : p ≤ 1000000) (hn : 0 ≤ n) :
 Evx (fun k => spec_l91At.f k s p n) (fun r => -1 ≤ r.1 ∧ r.1 ≤ n ∧ p ≤ r.2 ∧ r.2 ≤ p + 2) := by
 have tt : ∀ q, 0 ≤ q → q ≤ 2000000 → Evx (fun k => spec_l91At.j0 k n true s q) (fun r => -1 ≤ r.1 ∧ r.1 ≤ n ∧ r.2 = q + 1) := by
  intro q hq hq'
  refine Evx.succ ?_
  simp only [spec_l91At.j0, if_true]
  refine Evx.someb (Evx.bind (pick_ev hc q 2 hq (by omega)) ?_)
  rintro ⟨r, q'⟩ ⟨hr0, hr1, rfl⟩
  have hr0 : 0 ≤ r := hr0
  have hr1 : r < 2 ∨ r = 0 := hr1
  refine Evx.pos hr0 (Evx.pos (by (try simp only [List.length_set, List.length_drop, List.length_take, List.length_append, List.length_cons, List.length_nil, Int.natCast_add, Int.natCast_one, Int.natCast_zero] at *); omega) (Evx.now ?_))
  have : r = 0 ∨ r = 1 := by omega
  rcases this with rfl | rfl
  ·
   exact ⟨by simp [rd], by simp [rd]; omega, rfl⟩
  ·
   exact ⟨by simp [rd]; omega, by simp [rd], rfl⟩
 unfold spec_l91At.f
 refine Evx.ite (fun _ => (tt p hp (by omega)).mono (by rintro ⟨a, q⟩ ⟨h1, h2, h3⟩; exact ⟨h1, h2, (by (try simp only [List.length_set, List.length_drop, List.length_take, List.length_append, List.length_cons, List.length_nil, Int.natCast_add, Int.natCast_one, Int.natCast_zero] at *); omega), (by (try simp only [List.length_set, List.length_drop, List.length_take, List.length_append, List.length_cons, List.length_nil, Int.natCast_add, Int.natCast_one, Int.natCast_zero] at *); omega)⟩)) (fun h0 => ?_)
 refine Evx.bind (pick_ev hc p 20 hp (by omega)) ?_
 rintro ⟨r, q'⟩ ⟨hr0, hr1, rfl⟩
 by_cases e : r = 0
 ·
  subst e
  exact (tt (p + 1) (by omega) (by omega)).mono (by rintro ⟨a, q⟩ ⟨h1, h2, h3⟩; exact ⟨h1, h2, (by (try simp only [List.length_set, List.length_drop, List.length_take, List.length_append, List.length_cons, List.length_nil, Int.natCast_add, Int.natCast_one, Int.natCast_zero] at *); omega), (by (try simp only [List.length_set, List.length_drop, List.length_take, List.length_append, List.length_cons, List.length_nil, Int.natCast_add, Int.natCast_one, Int.natCast_zero] at *); omega)⟩)
 ·
  have e' : (r == 0) = false := by rw [beq_eq_false_iff_ne]; exact e
  simp only [e']
  refine Evx.succ ?_
  simp only [spec_l91At.j0]
  refine Evx.neg (by simp) (Evx.bind (pick_ev hc (p + 1) n (by omega) (by omega)) ?_)
  rintro ⟨u, q'⟩ ⟨hu0, hu1, rfl⟩
  exact Evx.now ⟨(by (try simp only [List.length_set, List.length_drop, List.length_take, List.length_append, List.length_cons, List.length_nil, Int.natCast_add, Int.natCast_one, Int.natCast_zero] at *); omega), (by (try simp only [List.length_set, List.length_drop, List.length_take, List.length_append, List.length_cons, List.length_nil, Int.natCast_add, Int.natCast_one, Int.natCast_zero] at *); omega), (by (try simp only [List.length_set, List.length_drop, List.length_take, List.length_append, List.length_cons, List.length_nil, Int.natCast_add, Int.natCast_one, Int.natCast_zero] at *); omega), (by (try simp only [List.length_set, List.length_drop, List.length_take, List.length_append, List.length_cons, List.length_nil, Int.natCast_add, Int.natCast_one, Int.natCast_zero] at *); omega)⟩

theorem drawReading_loop {s : List Int} (hc : Code s) (n m : Int) (hn : 0 ≤ n) (d : Nat) : ∀ (out : List Int) (i p : Int), 0 ≤ i → m - i = d → m ≤ 5 → (out.length : Int) ≤ i → 0 ≤ p → p + 2 * d ≤ 1000000 →
 Evx (fun k => spec_l92Reading.l0 k n out m i s p) (fun r => r.1.length ≤ 5 ∧ 0 ≤ r.2 ∧ r.2 ≤ p + 2 * d) := by
 induction d with
 | zero =>
  intro out i p h0 h1 h2 h3 h4 h5
  refine Evx.succ ?_
  simp only [spec_l92Reading.l0]
  exact Evx.neg (by omega) (Evx.now ⟨by show out.length ≤ 5; omega, h4, by show p ≤ _; omega⟩)
 | succ d ih =>
  intro out i p h0 h1 h2 h3 h4 h5
  refine Evx.succ ?_
  simp only [spec_l92Reading.l0]
  rw [w64 (x := i + 1) (by omega) (by omega)]
  refine Evx.pos (by omega) (Evx.bind (drawAt_ev hc p n h4 (by omega) hn) ?_)
  rintro ⟨r, q⟩ ⟨hr0, hr1, hq, hq'⟩
  have hq : p ≤ q := hq
  have hq' : q ≤ p + 2 := hq'
  refine Evx.pos (by omega) ?_
  exact (ih (out ++ [r]) (i + 1) q (by omega) (by omega) h2 (by rw [List.length_append, List.length_singleton]; omega) (by omega) (by omega)).mono (fun r h => ⟨h.1, h.2.1, by have := h.2.2; omega⟩)
theorem drawReading_ev {s : List Int} (hc : Code s) (p n : Int) (hn : 0 ≤ n) (hp : 0 ≤ p) (hp' : p ≤ 100000) : Evx (fun k => spec_l92Reading.f k s p n) (fun r => r.1.length ≤ 5 ∧ 0 ≤ r.2 ∧ r.2 ≤ p + 11) := by
 unfold spec_l92Reading.f
 refine Evx.bind (pick_ev hc p 6 hp (by omega)) ?_
 rintro ⟨u, q⟩ ⟨hu0, hu1, rfl⟩
 have hu0 : 0 ≤ u := hu0
 have hu1 : u < 6 ∨ u = 0 := hu1
 obtain ⟨e, he⟩ : ∃ e : Nat, u - 0 = e := ⟨u.toNat, by omega⟩
 exact (drawReading_loop hc n u hn e [] 0 (p + 1) (by omega) he (by omega) (by simp) (by omega) (by omega)).mono (fun r h => ⟨h.1, h.2.1, by have := h.2.2; omega⟩)

theorem drawMelody_loop {s : List Int} (hc : Code s) (n : Int) (hn : n ≤ 1000) (d : Nat) : ∀ (acc : List S29) (step p : Int), (acc.length : Int) + d = n → (∀ t ∈ acc, -1 ≤ t.f0 ∧ t.f0 ≤ 21) → 1 ≤ step → step ≤ 15 → 0 ≤ p → p + 2 * d ≤ 100000000 →
 Evx (fun k => spec_l91Melody.l0 k acc n step acc.length s p) (fun r => (r.1.length : Int) = n ∧ p ≤ r.2 ∧ r.2 ≤ p + 2 * d + 2 ∧ ∀ t ∈ r.1, -1 ≤ t.f0 ∧ t.f0 ≤ 21) := by
 induction d with
 | zero =>
  intro acc step p hl ha h1 h2 hp hp'
  refine Evx.succ ?_
  simp only [spec_l91Melody.l0]
  refine Evx.neg (by omega) (Evx.ite (fun hpos => ?_) (fun _ => Evx.now ⟨(by (try simp only [List.length_set, List.length_drop, List.length_take, List.length_append, List.length_cons, List.length_nil, Int.natCast_add, Int.natCast_one, Int.natCast_zero] at *); omega), (by (try simp only [List.length_set, List.length_drop, List.length_take, List.length_append, List.length_cons, List.length_nil, Int.natCast_add, Int.natCast_one, Int.natCast_zero] at *); omega), (by (try simp only [List.length_set, List.length_drop, List.length_take, List.length_append, List.length_cons, List.length_nil, Int.natCast_add, Int.natCast_one, Int.natCast_zero] at *); omega), ha⟩))
  refine Evx.bind (pick_ev hc p 50 hp (by omega)) ?_
  rintro ⟨r, q⟩ ⟨hr0, hr1, rfl⟩
  refine Evx.ite (fun e => ?_) (fun e => Evx.ite (fun e1 => ?_) (fun _ => Evx.now ⟨(by (try simp only [List.length_set, List.length_drop, List.length_take, List.length_append, List.length_cons, List.length_nil, Int.natCast_add, Int.natCast_one, Int.natCast_zero] at *); omega), (by (try simp only [List.length_set, List.length_drop, List.length_take, List.length_append, List.length_cons, List.length_nil, Int.natCast_add, Int.natCast_one, Int.natCast_zero] at *); omega), (by (try simp only [List.length_set, List.length_drop, List.length_take, List.length_append, List.length_cons, List.length_nil, Int.natCast_add, Int.natCast_one, Int.natCast_zero] at *); omega), ha⟩))
  ·
   refine Evx.someb (Evx.bind (pick_ev hc (p + 1) 3 (by omega) (by omega)) ?_)
   rintro ⟨u, q⟩ ⟨hu0, hu1, rfl⟩
   have hu0 : 0 ≤ u := hu0
   have hu1 : u < 3 ∨ u = 0 := hu1
   refine Evx.pos hu0 (Evx.pos (by (try simp only [List.length_set, List.length_drop, List.length_take, List.length_append, List.length_cons, List.length_nil, Int.natCast_add, Int.natCast_one, Int.natCast_zero] at *); omega) (Evx.pos (by omega) (Evx.now ⟨(by (try simp only [List.length_set, List.length_drop, List.length_take, List.length_append, List.length_cons, List.length_nil, Int.natCast_add, Int.natCast_one, Int.natCast_zero] at *); omega), (by (try simp only [List.length_set, List.length_drop, List.length_take, List.length_append, List.length_cons, List.length_nil, Int.natCast_add, Int.natCast_one, Int.natCast_zero] at *); omega), (by (try simp only [List.length_set, List.length_drop, List.length_take, List.length_append, List.length_cons, List.length_nil, Int.natCast_add, Int.natCast_one, Int.natCast_zero] at *); omega), ?_⟩)))
   refine mem_set_of ha _ _ ?_
   have : u = 0 ∨ u = 1 ∨ u = 2 := by omega
   rcases this with rfl | rfl | rfl <;> simp [rd]
  ·
   rw [w64 (by omega) (by omega)]
   refine Evx.pos (by omega) (Evx.pos (by omega) (Evx.now ⟨(by (try simp only [List.length_set, List.length_drop, List.length_take, List.length_append, List.length_cons, List.length_nil, Int.natCast_add, Int.natCast_one, Int.natCast_zero] at *); omega), (by (try simp only [List.length_set, List.length_drop, List.length_take, List.length_append, List.length_cons, List.length_nil, Int.natCast_add, Int.natCast_one, Int.natCast_zero] at *); omega), (by (try simp only [List.length_set, List.length_drop, List.length_take, List.length_append, List.length_cons, List.length_nil, Int.natCast_add, Int.natCast_one, Int.natCast_zero] at *); omega), ?_⟩))
   refine mem_set_of ha _ _ ?_
   have hlt : (n - 1).toNat < acc.length := by omega
   show -1 ≤ (rd_T29 acc (n - 1)).f0 ∧ (rd_T29 acc (n - 1)).f0 ≤ 21
   unfold rd_T29
   rw [List.getD_eq_getElem?_getD, List.getElem?_eq_getElem hlt]
   exact ha _ (List.getElem_mem hlt)
 | succ d ih =>
  intro acc step p hl ha h1 h2 hp hp'
  refine Evx.succ ?_
  simp only [spec_l91Melody.l0]
  have wl : wrap64 ((acc.length : Int) + 1) = (acc.length : Int) + 1 := w64 (by omega) (by omega)
  have stepok : ∀ u : Int, 0 ≤ u → u < 5 ∨ u = 0 → 1 ≤ mx 1 (mn 15 (wrap64 (wrap64 (step + u) - 2))) ∧ mx 1 (mn 15 (wrap64 (wrap64 (step + u) - 2))) ≤ 15 := by
   intro u hu hu'
   rw [w64 (x := step + u) (by omega) (by omega), w64 (by omega) (by omega)]
   have a := mn_le 15 (step + u - 2)
   have b := mx_le 1 (mn 15 (step + u - 2))
   omega
  refine Evx.pos (by omega) (Evx.someb (Evx.ite (fun _ => ?_) (fun _ => ?_)))
  ·
   refine Evx.bind (pick_ev hc p 3 hp (by omega)) ?_
   rintro ⟨r, q⟩ ⟨hr0, hr1, rfl⟩
   refine Evx.pos (by omega) (Evx.bind (pick_ev hc (p + 1) 5 (by omega) (by omega)) ?_)
   rintro ⟨u, q⟩ ⟨hu0, hu1, rfl⟩
   have so := stepok u hu0 hu1
   have := ih (acc ++ [⟨step, r == 0⟩]) _ (p + 1 + 1) (by (try simp only [List.length_set, List.length_drop, List.length_take, List.length_append, List.length_cons, List.length_nil, Int.natCast_add, Int.natCast_one, Int.natCast_zero] at *); omega) (by
    intro t ht
    rcases List.mem_append.1 ht with ht | ht
    ·
     exact ha t ht
    ·
     obtain rfl := List.mem_singleton.1 ht; exact ⟨(by (try simp only [List.length_set, List.length_drop, List.length_take, List.length_append, List.length_cons, List.length_nil, Int.natCast_add, Int.natCast_one, Int.natCast_zero] at *); omega), (by (try simp only [List.length_set, List.length_drop, List.length_take, List.length_append, List.length_cons, List.length_nil, Int.natCast_add, Int.natCast_one, Int.natCast_zero] at *); omega)⟩) so.1 so.2 (by omega) (by omega)
   simp only [List.length_append, List.length_singleton, Int.natCast_add, Int.natCast_one] at this
   rw [wl]
   exact this.mono (by rintro ⟨m, q⟩ ⟨e1, e2, e3, e4⟩; exact ⟨e1, (by (try simp only [List.length_set, List.length_drop, List.length_take, List.length_append, List.length_cons, List.length_nil, Int.natCast_add, Int.natCast_one, Int.natCast_zero] at *); omega), (by (try simp only [List.length_set, List.length_drop, List.length_take, List.length_append, List.length_cons, List.length_nil, Int.natCast_add, Int.natCast_one, Int.natCast_zero] at *); omega), e4⟩)
  ·
   refine Evx.pos (by omega) (Evx.bind (pick_ev hc p 5 (by omega) (by omega)) ?_)
   rintro ⟨u, q⟩ ⟨hu0, hu1, rfl⟩
   have so := stepok u hu0 hu1
   have := ih (acc ++ [⟨step, false⟩]) _ (p + 1) (by (try simp only [List.length_set, List.length_drop, List.length_take, List.length_append, List.length_cons, List.length_nil, Int.natCast_add, Int.natCast_one, Int.natCast_zero] at *); omega) (by
    intro t ht
    rcases List.mem_append.1 ht with ht | ht
    ·
     exact ha t ht
    ·
     obtain rfl := List.mem_singleton.1 ht; exact ⟨(by (try simp only [List.length_set, List.length_drop, List.length_take, List.length_append, List.length_cons, List.length_nil, Int.natCast_add, Int.natCast_one, Int.natCast_zero] at *); omega), (by (try simp only [List.length_set, List.length_drop, List.length_take, List.length_append, List.length_cons, List.length_nil, Int.natCast_add, Int.natCast_one, Int.natCast_zero] at *); omega)⟩) so.1 so.2 (by omega) (by omega)
   simp only [List.length_append, List.length_singleton, Int.natCast_add, Int.natCast_one] at this
   rw [wl]
   exact this.mono (by rintro ⟨m, q⟩ ⟨e1, e2, e3, e4⟩; exact ⟨e1, (by (try simp only [List.length_set, List.length_drop, List.length_take, List.length_append, List.length_cons, List.length_nil, Int.natCast_add, Int.natCast_one, Int.natCast_zero] at *); omega), (by (try simp only [List.length_set, List.length_drop, List.length_take, List.length_append, List.length_cons, List.length_nil, Int.natCast_add, Int.natCast_one, Int.natCast_zero] at *); omega), e4⟩)
theorem drawMelody_ev {s : List Int} (hc : Code s) (p top : Int) (hp : 0 ≤ p) (hp' : p ≤ 1000000) (hm : 0 ≤ top) (hm' : top ≤ 500) :
 Evx (fun k => spec_l91Melody.f k s p top) (fun r => (r.1.length : Int) ≤ top ∧ p ≤ r.2 ∧ r.2 ≤ p + 2000 ∧ ∀ t ∈ r.1, -1 ≤ t.f0 ∧ t.f0 ≤ 21) := by
 unfold spec_l91Melody.f
 rw [w64 (x := top + 1) (by omega) (by omega)]
 refine Evx.bind (pick_ev hc p (top + 1) hp (by omega)) ?_
 rintro ⟨n, q⟩ ⟨hn0, hn1, rfl⟩
 have hn0 : 0 ≤ n := hn0
 have hn1 : n < top + 1 ∨ n = 0 := hn1
 refine Evx.bind (pick_ev hc (p + 1) 5 (by omega) (by omega)) ?_
 rintro ⟨u, q⟩ ⟨hu0, hu1, rfl⟩
 have hu0 : 0 ≤ u := hu0
 have hu1 : u < 5 ∨ u = 0 := hu1
 have := drawMelody_loop hc n (by omega) n.toNat [] (wrap64 (4 + u)) (p + 1 + 1) (by (try simp only [List.length_set, List.length_drop, List.length_take, List.length_append, List.length_cons, List.length_nil, Int.natCast_add, Int.natCast_one, Int.natCast_zero] at *); omega) (by simp) (by rw [w64 (by omega) (by omega)]; omega) (by rw [w64 (by omega) (by omega)]; omega) (by omega) (by omega)
 exact this.mono (by rintro ⟨m, q⟩ ⟨e1, e2, e3, e4⟩; exact ⟨(by (try simp only [List.length_set, List.length_drop, List.length_take, List.length_append, List.length_cons, List.length_nil, Int.natCast_add, Int.natCast_one, Int.natCast_zero] at *); omega), (by (try simp only [List.length_set, List.length_drop, List.length_take, List.length_append, List.length_cons, List.length_nil, Int.natCast_add, Int.natCast_one, Int.natCast_zero] at *); omega), (by (try simp only [List.length_set, List.length_drop, List.length_take, List.length_append, List.length_cons, List.length_nil, Int.natCast_add, Int.natCast_one, Int.natCast_zero] at *); omega), e4⟩)

theorem goB_all {l : List S128} (hv : fsOk l = true) : ∀ (r acc : List Int), acc.all (inR (-20) 20) = true → (goB l acc r).1.all (inR (-20) 20) = true
 | [], acc, h => h
 | i :: is, acc, h => by
  simp only [goB]
  split
  ·
   rfl
  ·
   rename_i hc
   refine goB_all hv is _ ?_
   rw [List.all_append, h, Bool.true_and]
   have hf := fsOk_all hv _ (rd_mem (l := l) (k := i) (by omega) (by omega))
   unfold fOk at hf
   simp only [Bool.and_eq_true] at hf
   rw [List.all_eq_true]
   intro x hx
   have := List.all_eq_true.1 hf.2.1 x hx
   unfold inR at this ⊢
   simp at this ⊢
   omega
theorem fbuild_all (l : List S128) (r : List Int) : (fbuild l r).1.all (inR (-20) 20) = true := by
 unfold fbuild
 split
 ·
  rename_i h; exact goB_all h r [] rfl
 ·
  rfl
def tAbove (a : Int) (b : Bool) (d : Int) (s : Bool) : Int × Bool × Bool := if toneOk ⟨a, b⟩ = true ∧ (-20 ≤ d ∧ d ≤ 20) ∧ toneOk ⟨wrap64 (a + d), s⟩ = true then (wrap64 (a + d), s, true) else (0, false, false)
theorem impl_ToneAbove_ev (a : Int) (b : Bool) (d : Int) (s : Bool) : Ev (fun k => impl_ToneAbove.f k a b d s) (tAbove a b d s) := by
 unfold impl_ToneAbove.f
 refine Ev.conb (impl_Tone_valid_eq a b) ?_
 have no : (¬ toneOk ⟨a, b⟩ = true ∨ ¬ (-20 ≤ d ∧ d ≤ 20)) → Ev (fun k => impl_ToneAbove.j0 k d s true a b) (tAbove a b d s) := by
  intro h
  refine Ev.succ ?_
  simp only [impl_ToneAbove.j0]
  refine Ev.pos trivial (Ev.eqr (Ev.now _) ?_)
  unfold tAbove
  rw [if_neg (fun hh => by rcases h with h | h; exact h hh.1; exact h hh.2.1)]
 by_cases h1 : toneOk ⟨a, b⟩ = true
 ·
  refine Ev.pos h1 ?_
  by_cases h2 : d < (-20)
  ·
   exact Ev.pos h2 (no (.inr (by omega)))
  refine Ev.neg h2 ?_
  by_cases h3 : d > 20
  ·
   rw [decide_eq_true h3]; exact no (.inr (by omega))
  rw [decide_eq_false h3]
  refine Ev.succ ?_
  simp only [impl_ToneAbove.j0]
  refine Ev.neg (by simp) (Ev.conb (impl_Tone_valid_eq _ s) ?_)
  by_cases h4 : toneOk ⟨wrap64 (a + d), s⟩ = true
  ·
   refine Ev.pos h4 (Ev.eqr (Ev.now _) ?_)
   unfold tAbove
   rw [if_pos ⟨h1, by omega, h4⟩]
  ·
   refine Ev.neg h4 (Ev.eqr (Ev.now _) ?_)
   unfold tAbove
   rw [if_neg (fun hh => h4 hh.2.2)]
 ·
  exact Ev.neg h1 (no (.inl h1))
/-- The tones behind a step, by differences. -/
def ext (x : Int) : List Int → List S29
 | [] => []
 | d :: ds => ⟨wrap64 (x + d), false⟩ :: ext (wrap64 (x + d)) ds
theorem ext_len : ∀ (ds : List Int) (x : Int), (ext x ds).length = ds.length
 | [], _ => rfl
 | d :: ds, x => by simp [ext, ext_len ds]
def fmelT (l : List S128) (r : List Int) (a : Int) (b : Bool) : List S29 := ⟨a, b⟩ :: ext a (fbuild l r).1
def fmel (l : List S128) (r : List Int) (a : Int) (b : Bool) : List S29 × Bool := if (fbuild l r).2 = true ∧ melOk (fmelT l r a b) = true then (fmelT l r a b, true) else ([], false)
def lastF (s : List S29) : Int := (rd_T29 s ((s.length : Int) - 1)).f0
theorem lastF_snoc (s : List S29) (t : S29) : lastF (s ++ [t]) = t.f0 := by
 unfold lastF rd_T29
 have e : (((s ++ [t]).length : Int) - 1).toNat = s.length := by rw [List.length_append, List.length_singleton]; omega
 rw [e, List.getD_eq_getElem?_getD, List.getElem?_append_right (Nat.le_refl _)]; simp
theorem fmel_len (l : List S128) (r : List Int) (a : Int) (b : Bool) : (fmel l r a b).1.length ≤ 24 := by
 unfold fmel
 split
 ·
  have := fbuild_len l r
  show (fmelT l r a b).length ≤ 24
  unfold fmelT
  rw [List.length_cons, ext_len]; omega
 ·
  exact Nat.zero_le _
theorem melOk_cons {t : S29} {m : List S29} : melOk (t :: m) = (decide ((t :: m).length ≤ 24) && (toneOk t && m.all toneOk)) := rfl
theorem impl_FormulasMelody_ev (l : List S128) (r : List Int) (a : Int) (b : Bool) (hl : ∀ x ∈ l, x.f0.length ≤ 1000000000000) (hr : r.length ≤ 1000000000000) : Ev (fun k => impl_FormulasMelody.f k l r a b) (fmel l r a b) := by
 unfold impl_FormulasMelody.f
 refine Ev.bind (impl_FormulasBuild_ev l r hl hr) ?_
 have hall := fbuild_all l r
 have hlen := fbuild_len l r
 obtain ⟨⟨D, ok⟩, hD⟩ : ∃ D, D = fbuild l r := ⟨_, rfl⟩
 unfold fmel fmelT
 rw [← hD] at hall hlen ⊢
 simp only [] at hall hlen ⊢
 have no : Ev (fun k => impl_FormulasMelody.j0 k D true a b) (([] : List S29), false) := by
  refine Ev.succ ?_
  simp only [impl_FormulasMelody.j0]
  exact Ev.pos trivial (Ev.now _)
 cases ok
 ·
  refine Ev.neg (by simp) (Ev.eqr no ?_)
  rw [if_neg (fun h => by cases h.1)]
 refine Ev.pos rfl (Ev.conb (impl_Tone_valid_eq a b) ?_)
 by_cases h1 : toneOk ⟨a, b⟩ = true
 ·
  rw [h1]
  refine Ev.succ ?_
  simp only [impl_FormulasMelody.j0]
  refine Ev.neg (by simp) ?_
  have := Ev.over (0 : Int) D (fun k (s : List S29) i => impl_FormulasMelody.l0 k s D (D.length : Int) i) (fun s rest => if (ext (lastF s) rest).all toneOk = true then (s ++ ext (lastF s) rest, true) else (([] : List S29), false)) (fun i s => s.length = i + 1 ∧ toneOk (rd_T29 s ((s.length : Int) - 1)) = true) (by
   intro s hs
   refine Ev.succ ?_
   simp only [impl_FormulasMelody.l0]
   refine Ev.neg (by omega) (Ev.eqr (Ev.now _) ?_)
   simp [ext]) (by
   intro s i rest hs hi hdr ih
   obtain ⟨hs1, hs2⟩ := hs
   have hrd : rd D (i : Int) = D.getD i 0 := rfl
   have hd : inR (-20) 20 (D.getD i 0) = true := by
    refine List.all_eq_true.1 hall _ ?_
    rw [List.getD_eq_getElem?_getD, List.getElem?_eq_getElem hi]; exact List.getElem_mem hi
   refine Ev.succ ?_
   simp only [impl_FormulasMelody.l0]
   rw [hrd, w64 (x := (s.length : Int) - 1) (by omega) (by omega), w64 (x := (i : Int) + 1) (by omega) (by omega)]
   generalize D.getD i 0 = d at hd
   unfold inR at hd
   simp at hd
   refine Ev.pos (by omega) (Ev.pos (by omega) (Ev.pos (by omega) (Ev.pos (by omega) (Ev.pos (by omega) (Ev.bind (impl_ToneAbove_ev _ _ d false) ?_)))))
   have hlast : (rd_T29 s ((s.length : Int) - 1)).f0 = lastF s := rfl
   unfold tAbove
   simp only [ext, List.all_cons]
   rw [hlast]
   have hs3 : toneOk ⟨lastF s, (rd_T29 s ((s.length : Int) - 1)).f1⟩ = true := hs2
   by_cases h4 : toneOk ⟨wrap64 (lastF s + d), false⟩ = true
   ·
    rw [if_pos ⟨hs3, by omega, h4⟩]
    refine Ev.pos rfl (Ev.pos (by omega) ?_)
    have := ih (s ++ [⟨wrap64 (lastF s + d), false⟩]) ⟨by rw [List.length_append, List.length_singleton]; omega, by
     unfold rd_T29
     have e : (((s ++ [(⟨wrap64 (lastF s + d), false⟩ : S29)]).length : Int) - 1).toNat = s.length := by rw [List.length_append, List.length_singleton]; omega
     rw [e, List.getD_eq_getElem?_getD, List.getElem?_append_right (Nat.le_refl _)]
     simpa using h4⟩
    rw [lastF_snoc] at this
    refine Ev.eqr this ?_
    simp only [h4, Bool.true_and]
    rw [List.append_assoc]; rfl
   ·
    rw [if_neg (fun hh => h4 hh.2.2)]
    refine Ev.neg (by simp) (Ev.eqr (Ev.now _) ?_)
    rw [Bool.not_eq_true] at h4
    simp [h4]) 0 [⟨a, b⟩] (Nat.zero_le _) ⟨rfl, h1⟩
  refine Ev.eqr (by simpa using this) ?_
  have e : lastF [(⟨a, b⟩ : S29)] = a := rfl
  rw [e, melOk_cons, h1, List.length_cons, ext_len, decide_eq_true (by omega)]
  simp
 ·
  rw [Bool.not_eq_true] at h1
  rw [h1]
  refine Ev.eqr no ?_
  rw [melOk_cons, h1]; simp
theorem spec_FormulasMelody_ev (l : List S128) (r : List Int) (a : Int) (b : Bool) (hll : l.length ≤ 1000000000000) (hl : ∀ x ∈ l, x.f0.length ≤ 1000000000000) (hr : r.length ≤ 1000000000000) : Ev (fun k => spec_FormulasMelody.f k l r a b) (fmel l r a b) := by
 unfold spec_FormulasMelody.f
 refine Ev.bind (spec_FormulasBuild_ev l r hll hl hr) ?_
 have hlen := fbuild_len l r
 obtain ⟨⟨D, ok⟩, hD⟩ : ∃ D, D = fbuild l r := ⟨_, rfl⟩
 unfold fmel fmelT
 rw [← hD] at hlen ⊢
 simp only [] at hlen ⊢
 have := Ev.over (0 : Int) D (fun k (s : List S29) i => spec_FormulasMelody.l0 k D ok s i) (fun s rest => if ok = true ∧ melOk (s ++ ext (lastF s) rest) = true then (s ++ ext (lastF s) rest, true) else (([] : List S29), false)) (fun i s => s.length = i + 1) (by
  intro s hs
  refine Ev.succ ?_
  simp only [spec_FormulasMelody.l0, ext, List.append_nil]
  refine Ev.neg (by omega) ?_
  cases ok
  ·
   refine Ev.neg (by simp) (Ev.eqr (Ev.now _) ?_)
   rw [if_neg (fun h => by cases h.1)]
  ·
   refine Ev.pos rfl (Ev.bind (spec_MelodyValid_ev s (by omega)) ?_)
   cases melOk s
   ·
    exact Ev.neg (by simp) (Ev.eqr (Ev.now _) (by simp))
   ·
    exact Ev.pos rfl (Ev.eqr (Ev.now _) (by simp))) (by
  intro s i rest hs hi hdr ih
  have hrd : rd D (i : Int) = D.getD i 0 := rfl
  refine Ev.succ ?_
  simp only [spec_FormulasMelody.l0]
  have hlast : (rd_T29 s (i : Int)).f0 = lastF s := by
   unfold lastF
   have e : (s.length : Int) - 1 = (i : Int) := by omega
   rw [e]
  rw [hrd, hlast, w64 (x := (i : Int) + 1) (by omega) (by omega)]
  generalize D.getD i 0 = d
  refine Ev.pos (by omega) (Ev.pos (by omega) (Ev.pos (by omega) (Ev.pos (by omega) ?_)))
  have := ih (s ++ [⟨wrap64 (lastF s + d), false⟩]) (by rw [List.length_append, List.length_singleton]; omega)
  rw [lastF_snoc] at this
  refine Ev.eqr this ?_
  simp only [ext]
  rw [List.append_assoc]; rfl) 0 [⟨a, b⟩] (Nat.zero_le _) rfl
 refine Ev.eqr (by simpa using this) ?_
 have e : lastF [(⟨a, b⟩ : S29)] = a := rfl
 rw [e]

end Go.Proofs.YtpcohkffbjdmfaaDoor.Pure
namespace Go.Proofs.YtpcohkffbjdmfaaDoor.Pure
set_option linter.unusedVariables false
set_option linter.unusedSimpArgs false
open Go Go.RowKit Go.Proofs.YtpcohkffbjdmfaaDoor.PFnReadRead Go.Proofs.YtpcohkffbjdmfaaDoorW.PrintWords Go.Proofs.YtpcohkffbjdmfaaDoorW.PrintLast Go.Proofs.YtpcohkffbjdmfaaDoorW.PrintMore

theorem spec_l6fAt_ev (f : S128) (S : List Int) (i : Nat) (hi : i ≤ S.length) (hS : S.length ≤ 1000000) (hf : f.f0.length ≤ 1000000) : Ev (fun k => spec_l6fAt.f k f.f0 f.f1 S (i : Int)) (isPre f.f0 (S.drop i)) := by
 unfold spec_l6fAt.f isPre
 rw [w64 (by omega) (by omega)]
 by_cases h : (i : Int) + (f.f0.length : Int) ≤ (S.length : Int)
 ·
  rw [decide_eq_true (by rw [List.length_drop]; omega : f.f0.length ≤ (S.drop i).length), Bool.true_and]
  refine Ev.pos h (Ev.pos (by omega) (Ev.pos (by omega) ?_))
  have e : ((S.take ((i : Int) + (f.f0.length : Int)).toNat).drop (i : Int).toNat) = (S.drop i).take f.f0.length := by
   have e1 : ((i : Int) + (f.f0.length : Int)).toNat = i + f.f0.length := by omega
   rw [e1, Int.toNat_natCast, List.drop_take]
   congr 1; omega
  rw [e]
  exact Ev.bind (spec_l2Same_ev _ _ (by rw [List.length_take, List.length_drop]; omega)) (Ev.now _)
 ·
  rw [decide_eq_false (by rw [List.length_drop]; omega : ¬ f.f0.length ≤ (S.drop i).length)]
  exact Ev.neg h (Ev.now _)
theorem spec_l6fSteps_ev (S : List Int) (hS : S.length ≤ 1000000000000) : Ev (fun k => spec_l6fSteps.f k S) (decide (S.length ≤ 23) && S.all (inR (-20) 20)) := by
 unfold spec_l6fSteps.f
 have := Ev.over (0 : Int) S (fun k (_ : Unit) i => spec_l6fSteps.l0 k S i) (fun _ rest => rest.all (inR (-20) 20) && decide (S.length ≤ 23)) (fun _ _ => True) (by
  intro s _
  refine Ev.succ ?_
  simp only [spec_l6fSteps.l0]
  refine Ev.neg (by omega) (Ev.eqr (Ev.now _) ?_)
  simp only [List.all_nil, Bool.true_and]
  rw [Bool.eq_iff_iff]; simp; omega) (by
  intro s i rest _ hi _ ih
  refine Ev.succ ?_
  simp only [spec_l6fSteps.l0, List.all_cons]
  rw [w64 (by omega) (by omega)]
  refine Ev.pos (by omega) (Ev.pos (by omega) (Ev.conb (spec_l6In_eq _ _ _) ?_))
  have hrd : rd S (i : Int) = S.getD i 0 := rfl
  rw [hrd]
  show Ev _ ((decide (-20 ≤ S.getD i 0 ∧ S.getD i 0 ≤ 20) && _) && _)
  by_cases h : -20 ≤ S.getD i 0 ∧ S.getD i 0 ≤ 20
  ·
   rw [decide_eq_true h]
   exact Ev.pos rfl (ih () trivial)
  ·
   rw [decide_eq_false h]
   exact Ev.neg (by simp) (Ev.now _)) 0 () (Nat.zero_le _) trivial
 refine Ev.eqr (by simpa using this) ?_
 rw [Bool.and_comm]
theorem spec_l6fOk_ev (L : List S128) (S : List Int) (hll : L.length ≤ 1000000000000) (hl : ∀ x ∈ L, x.f0.length ≤ 1000000000000) (hS : S.length ≤ 1000000000000) : Ev (fun k => spec_l6fOk.f k L S) (okR L S) := by
 unfold spec_l6fOk.f okR
 refine Ev.bind (spec_FormulasValid_ev L hll hl) ?_
 cases fsOk L
 ·
  exact Ev.neg (by simp) (Ev.now _)
 ·
  refine Ev.pos rfl ?_
  rw [Bool.true_and]
  exact Ev.bind (spec_l6fSteps_ev S hS) (Ev.now _)

theorem getD_set_self {y : List Int} {i : Nat} (v : Int) (h : i < y.length) : (y.set i v).getD i 0 = v := by
 rw [List.getD_eq_getElem?_getD, List.getElem?_set_self h]; rfl
theorem getD_set_other {y : List Int} {i j : Nat} (v : Int) (h : i ≠ j) : (y.set i v).getD j 0 = y.getD j 0 := by
 rw [List.getD_eq_getElem?_getD, List.getElem?_set_ne h, ← List.getD_eq_getElem?_getD]
theorem ext_getD {a b : List Int} (h : a.length = b.length) (h' : ∀ j, j < a.length → a.getD j 0 = b.getD j 0) : a = b := by
 apply List.ext_getElem h
 intro j h1 h2
 have := h' j h1
 rw [List.getD_eq_getElem?_getD, List.getD_eq_getElem?_getD, List.getElem?_eq_getElem h1, List.getElem?_eq_getElem h2] at this
 exact this

theorem spec_l6fLeast_inner {L : List S128} {S : List Int} (hv : FsV L) (hS : S.length ≤ 23) (one : Bool) (i : Nat) (hi : i < S.length) (R : List Int) (c : S128 → Int) (hc : ∀ f ∈ L, c f = (if one = true then 1 else f.f1))
 (W : Nat → Int) (hWb : ∀ j, j ≤ S.length → -1 ≤ W j ∧ W j ≤ 9 * (S.length : Int)) (g : List Int → Int) (hg : ∀ j, W j = g (S.drop j)) (hWi : W i = lA c g (S.drop i) L (-1))
 (hnext : ∀ y : List Int, y.length = S.length + 1 → (∀ j, i ≤ j → j ≤ S.length → y.getD j 0 = W j) → Ev (fun k => spec_l6fLeast.l0 k L S one y ((i : Int) - 1)) R)
 (y : List Int) (hy : y.length = S.length + 1) (hy1 : ∀ j, i < j → j ≤ S.length → y.getD j 0 = W j) (hy2 : y.getD i 0 = -1) :
 Ev (fun k => spec_l6fLeast.l1 k L S one y (i : Int) 0) R := by
 have hll := hv.len
 have := Ev.over z128 L (fun k (y : List Int) q => spec_l6fLeast.l1 k L S one y (i : Int) q) (fun _ _ => R) (fun q y => y.length = S.length + 1 ∧ (∀ j, i < j → j ≤ S.length → y.getD j 0 = W j) ∧ lA c g (S.drop i) (L.drop q) (y.getD i 0) = W i) (by
  intro y ⟨h1, h2, h4⟩
  rw [List.drop_length] at h4
  simp only [lA] at h4
  refine Ev.succ ?_
  simp only [spec_l6fLeast.l1]
  refine Ev.neg (by omega) ?_
  rw [w64 (by omega) (by omega)]
  exact hnext y h1 (fun j hj hj' => by rcases Nat.lt_or_eq_of_le hj with h | h; exact h2 j h hj'; rw [← h]; exact h4)) (by
  intro y q rest ⟨h1, h2, h4⟩ hq hdr ih
  have hm : L.getD q z128 ∈ L := by
   rw [List.getD_eq_getElem?_getD, List.getElem?_eq_getElem hq]; exact List.getElem_mem hq
  have hf := hv.one _ hm
  have hw := hv.wt _ hm
  have hcf := hc _ hm
  have hrest : rest = L.drop (q + 1) := by
   rw [List.drop_eq_getElem_cons hq] at hdr
   exact ((List.cons.inj hdr).2).symm
  rw [hdr] at h4
  simp only [lA] at h4
  refine Ev.succ ?_
  simp only [spec_l6fLeast.l1]
  have hrd : rd_T128 L (q : Int) = L.getD q z128 := rfl
  rw [hrd]
  obtain ⟨f, hfe⟩ : ∃ f, f = L.getD q z128 := ⟨_, rfl⟩
  rw [← hfe] at hf h4 hw hcf hrd ⊢
  refine Ev.pos (by omega) (Ev.pos (by omega) (Ev.bind (spec_l6fAt_ev f S i (by omega) (by omega) (by omega)) ?_))
  cases hp : isPre f.f0 (S.drop i)
  ·
   rw [if_neg (by rw [hp]; simp)] at h4
   refine Ev.neg (by simp) (Ev.succ ?_)
   simp only [spec_l6fLeast.j2]
   rw [w64 (x := (q : Int) + 1) (by omega) (by omega)]
   refine Ev.pos trivial (ih y ⟨h1, h2, ?_⟩)
   rw [← hrest]; exact h4
  ·
   rw [if_pos hp] at h4
   have hl := isPre_len hp
   rw [List.length_drop] at hl
   have e2 : rd y ((i : Int) + (f.f0.length : Int)) = W (i + f.f0.length) := by
    have : ((i : Int) + (f.f0.length : Int)).toNat = i + f.f0.length := by omega
    unfold rd
    rw [this]; exact h2 _ (by omega) (by omega)
   have e1 : rd y (i : Int) = y.getD i 0 := rfl
   have hWb := hWb (i + f.f0.length) (by omega)
   rw [List.drop_drop, ← hg] at h4
   rw [w64 (x := (i : Int) + (f.f0.length : Int)) (by omega) (by omega), e2]
   refine Ev.pos rfl (Ev.pos (by omega) (Ev.pos (by omega) (Ev.succ ?_)))
   simp only [spec_l6fLeast.j2]
   rw [hrd, w64 (x := (i : Int) + (f.f0.length : Int)) (by omega) (by omega), e2, e1, w64 (x := (q : Int) + 1) (by omega) (by omega)]
   by_cases hneg : W (i + f.f0.length) < 0
   ·
    rw [if_pos hneg] at h4
    refine Ev.pos (decide_eq_true hneg) (ih y ⟨h1, h2, ?_⟩)
    rw [← hrest]; exact h4
   ·
    rw [if_neg hneg] at h4
    rw [w64 (x := W (i + f.f0.length) + 1) (by omega) (by omega), w64 (x := W (i + f.f0.length) + f.f1) (by omega) (by omega)]
    refine Ev.neg (by rw [decide_eq_false hneg]; simp) (Ev.pos (by omega) (Ev.pos (by omega) (Ev.pos (by omega) (Ev.pos (by omega) ?_))))
    have put : ∀ x : Int, x = W (i + f.f0.length) + c f → (y.getD i 0 < 0 ∨ x < y.getD i 0) → Ev (fun k => spec_l6fLeast.l1 k L S one (y.set i x) (i : Int) ((q : Int) + 1)) R := by
     intro x hx hlt
     subst hx
     rw [if_pos hlt] at h4
     refine ih _ ⟨by rw [List.length_set]; exact h1, fun j hj hj' => by rw [getD_set_other _ (by omega)]; exact h2 j hj hj', ?_⟩
     rw [getD_set_self _ (by omega), ← hrest]
     exact h4
    have keep : ∀ x : Int, x = W (i + f.f0.length) + c f → ¬ (y.getD i 0 < 0 ∨ x < y.getD i 0) → Ev (fun k => spec_l6fLeast.l1 k L S one y (i : Int) ((q : Int) + 1)) R := by
     intro x hx hlt
     subst hx
     rw [if_neg hlt] at h4
     exact ih y ⟨h1, h2, by rw [← hrest]; exact h4⟩
    cases one
    ·
     rw [if_neg (by simp)] at hcf
     refine Ev.neg (by simp) (Ev.pos (by omega) (Ev.pos (by omega) ?_))
     rw [Int.toNat_natCast]
     by_cases a1 : y.getD i 0 < 0
     ·
      exact Ev.pos a1 (put _ (by rw [hcf]) (.inl a1))
     ·
      refine Ev.neg a1 ?_
      by_cases a2 : W (i + f.f0.length) + f.f1 < y.getD i 0
      ·
       exact Ev.pos a2 (put _ (by rw [hcf]) (.inr a2))
      ·
       exact Ev.neg a2 (keep _ (by rw [hcf]) (by omega))
    ·
     rw [if_pos rfl] at hcf
     refine Ev.pos rfl (Ev.pos (by omega) (Ev.pos (by omega) ?_))
     rw [Int.toNat_natCast]
     by_cases a1 : y.getD i 0 < 0
     ·
      exact Ev.pos a1 (put _ (by rw [hcf]) (.inl a1))
     ·
      refine Ev.neg a1 ?_
      by_cases a2 : W (i + f.f0.length) + 1 < y.getD i 0
      ·
       exact Ev.pos a2 (put _ (by rw [hcf]) (.inr a2))
      ·
       exact Ev.neg a2 (keep _ (by rw [hcf]) (by omega))) 0 y (Nat.zero_le _) ⟨hy, hy1, by rw [hy2, List.drop_zero]; exact hWi.symm⟩
 simpa using this
def oL (one : Bool) (o : OutC) : Int := if one = true then oF o else oW o
def leastL (L : List S128) (S : List Int) (one : Bool) : List Int := (List.range (S.length + 1)).map (fun j => oL one (rdO L (S.drop j)))
theorem leastL_get {L : List S128} {S : List Int} {one : Bool} {j : Nat} (h : j ≤ S.length) : (leastL L S one).getD j 0 = oL one (rdO L (S.drop j)) := by
 unfold leastL
 rw [List.getD_eq_getElem?_getD, List.getElem?_map, List.getElem?_range (by omega)]; rfl
theorem leastL_len {L : List S128} {S : List Int} {one : Bool} : (leastL L S one).length = S.length + 1 := by unfold leastL; simp
theorem oL_bd {L : List S128} (hv : FsV L) {S : List Int} (hS : S.length ≤ 23) (one : Bool) (j : Nat) (_hj : j ≤ S.length) : -1 ≤ oL one (rdO L (S.drop j)) ∧ oL one (rdO L (S.drop j)) ≤ 9 * (S.length : Int) := by
 have h := rdO_bd hv (S.length - j) (S.drop j) (by rw [List.length_drop]) (by omega)
 have h1 := h.oW
 have h2 := h.oF
 unfold oL
 cases one
 ·
  rw [if_neg (by simp)]; omega
 ·
  rw [if_pos rfl]; omega
theorem oL_nil (L : List S128) (one : Bool) : oL one (rdO L []) = 0 := by rw [rdO_nil]; cases one <;> simp [oL, oF, oW]
theorem spec_l6fLeast_ev {L : List S128} {S : List Int} (hv : FsV L) (hS : S.length ≤ 23) (one : Bool) : Ev (fun k => spec_l6fLeast.f k L S one) (leastL L S one) := by
 have hlo : ∀ i, i < S.length → oL one (rdO L (S.drop i)) = lA (fun f => if one = true then 1 else f.f1) (fun t => oL one (rdO L t)) (S.drop i) L (-1) := by
  intro i hi
  have h := rdO_least hv (s := S.drop i) (by rw [List.length_drop]; omega) (by intro h; have := congrArg List.length h; rw [List.length_drop, List.length_nil] at this; omega)
  unfold oL
  cases one
  ·
   simp only [Bool.false_eq_true, if_false]; exact h.1
  ·
   simp only [if_true]; exact h.2
 have key : ∀ m, m ≤ S.length → ∀ y : List Int, y.length = S.length + 1 → (∀ j, m ≤ j → j ≤ S.length → y.getD j 0 = oL one (rdO L (S.drop j))) → Ev (fun k => spec_l6fLeast.l0 k L S one y ((m : Int) - 1)) (leastL L S one) := by
  intro m
  induction m with
  | zero =>
   intro _ y h1 h2
   refine Ev.succ ?_
   simp only [spec_l6fLeast.l0]
   refine Ev.neg (by omega) (Ev.eqr (Ev.now _) ?_)
   refine ext_getD (by rw [h1, leastL_len]) (fun j hj => ?_)
   rw [h2 j (Nat.zero_le _) (by omega), leastL_get (by omega)]
  | succ m ih =>
   intro hm y h1 h2
   refine Ev.succ ?_
   simp only [spec_l6fLeast.l0]
   have e : ((m + 1 : Nat) : Int) - 1 = (m : Int) := by omega
   rw [e, Int.toNat_natCast]
   refine Ev.pos (by omega) (Ev.pos (by omega) (Ev.pos (by omega) ?_))
   exact spec_l6fLeast_inner hv hS one m (by omega) _ (fun f => if one = true then 1 else f.f1) (fun _ _ => rfl) (fun j => oL one (rdO L (S.drop j))) (fun j hj => oL_bd hv hS one j hj) (fun t => oL one (rdO L t)) (fun _ => rfl) (hlo m (by omega)) (fun y h1 h2 => ih (by omega) y h1 h2) _ (by rw [List.length_set]; exact h1) (fun j hj hj' => by rw [getD_set_other _ (by omega)]; exact h2 j (by omega) hj') (by rw [getD_set_self _ (by omega)])
 unfold spec_l6fLeast.f
 rw [w64 (x := (S.length : Int) + 1) (by omega) (by omega), w64 (x := (S.length : Int) - 1) (by omega) (by omega)]
 have e : ((S.length : Int) + 1).toNat = S.length + 1 := by omega
 rw [e]
 refine Ev.pos (by omega) (Ev.pos (by omega) ?_)
 refine key S.length (Nat.le_refl _) _ (by simp) (fun j hj hj' => ?_)
 obtain rfl : j = S.length := by omega
 rw [List.drop_length, oL_nil, List.getD_eq_getElem?_getD, List.getElem?_replicate, if_pos (by omega)]; rfl

theorem rdC_has {rec : List Int → OutC} {s : List Int} {L : List S128} (k : Nat) (hk : k < L.length) (hp : isPre (rd_T128 L (k : Int)).f0 s = true) (hz : (rec (s.drop (rd_T128 L (k : Int)).f0.length)).f0 ≠ 0) : ∀ (d q : Nat), q + d = k → ((k : Int), rec (s.drop (rd_T128 L (k : Int)).f0.length)) ∈ rdC rec s (q : Int) (L.drop q)
 | d, q, e => by
  have hq : q < L.length := by omega
  have e1 : L.drop q = rd_T128 L (q : Int) :: L.drop (q + 1) := by
   rw [List.drop_eq_getElem_cons hq]
   unfold rd_T128
   rw [Int.toNat_natCast, List.getD_eq_getElem?_getD, List.getElem?_eq_getElem hq]; rfl
  rw [e1]
  simp only [rdC]
  have e2 : ((q : Int) + 1) = ((q + 1 : Nat) : Int) := by omega
  rw [e2]
  match d, e with
  | 0, e =>
   obtain rfl : q = k := e
   rw [if_pos hp, if_neg hz]
   exact List.mem_cons_self
  | d + 1, e =>
   have := rdC_has k hk hp hz d (q + 1) (by omega)
   split
   ·
    split
    ·
     exact this
    ·
     exact List.mem_cons_of_mem _ this
   ·
    exact this
def valF (L : List S128) (x : Int × OutC) : Int := wrap64 ((rd_T128 L x.1).f1 + x.2.f1)

theorem rdC_ge {rec : List Int → OutC} {s : List Int} : ∀ (l : List S128) (q : Int) (x : Int × OutC), x ∈ rdC rec s q l → q ≤ x.1
 | [], _, _, h => by cases h
 | f :: fs, q, x, h => by
  simp only [rdC] at h
  have tl : x ∈ rdC rec s (q + 1) fs → q ≤ x.1 := fun h => by have := rdC_ge fs (q + 1) x h; omega
  split at h
  ·
   split at h
   ·
    exact tl h
   ·
    rcases List.mem_cons.1 h with rfl | h
    ·
     exact Int.le_refl _
    ·
     exact tl h
  ·
   exact tl h
theorem rdC_pw {rec : List Int → OutC} {s : List Int} : ∀ (l : List S128) (q : Int), (rdC rec s q l).Pairwise (fun x y => x.1 < y.1)
 | [], _ => List.Pairwise.nil
 | f :: fs, q => by
  simp only [rdC]
  split
  ·
   split
   ·
    exact rdC_pw fs (q + 1)
   ·
    exact List.Pairwise.cons (fun y hy => by have := rdC_ge fs (q + 1) y hy; show q < y.1; omega) (rdC_pw fs (q + 1))
  ·
   exact rdC_pw fs (q + 1)
theorem bestF_first (L : List S128) : ∀ (h : List (Int × OutC)) (b a : Int), (∀ x ∈ h, 0 ≤ x.1) → h.Pairwise (fun x y => x.1 < y.1) → (0 ≤ b → ∀ x ∈ h, b < x.1) →
 (∀ x ∈ h, x.1 < (bestF L h (b, a)).1 → (bestF L h (b, a)).2 < valF L x) ∧ (0 ≤ b → (bestF L h (b, a)).2 ≤ a ∧ (b < (bestF L h (b, a)).1 → (bestF L h (b, a)).2 < a))
 | [], b, a, _, _, _ => ⟨fun x hx => (by cases hx), fun _ => ⟨Int.le_refl _, fun h => absurd h (Int.lt_irrefl _)⟩⟩
 | (i, o) :: r, b, a, h0, hp, hb => by
  obtain ⟨p1, p2⟩ := List.pairwise_cons.1 hp
  have hi : 0 ≤ i := h0 (i, o) List.mem_cons_self
  have hr := fun x hx => h0 x (List.mem_cons_of_mem _ hx)
  simp only [bestF]
  have hv : valF L (i, o) = wrap64 ((rd_T128 L i).f1 + o.f1) := rfl
  rw [← hv]
  by_cases hc : b < 0 ∨ valF L (i, o) < a
  ·
   rw [if_pos hc]
   obtain ⟨q1, q2⟩ := bestF_first L r i (valF L (i, o)) hr p2 (fun _ x hx => p1 x hx)
   obtain ⟨q3, q4⟩ := q2 hi
   refine ⟨fun x hx hlt => ?_, fun h => ⟨by omega, fun _ => by omega⟩⟩
   rcases List.mem_cons.1 hx with rfl | hx
   ·
    exact q4 hlt
   ·
    exact q1 x hx hlt
  ·
   rw [if_neg hc]
   have hb0 : 0 ≤ b := by omega
   have hbi := hb hb0
   obtain ⟨q1, q2⟩ := bestF_first L r b a hr p2 (fun _ x hx => hbi x (List.mem_cons_of_mem _ hx))
   obtain ⟨q3, q4⟩ := q2 hb0
   refine ⟨fun x hx hlt => ?_, fun _ => ⟨q3, q4⟩⟩
   rcases List.mem_cons.1 hx with rfl | hx
   ·
    have h1 := hbi (i, o) List.mem_cons_self
    have h1 : b < i := h1
    have hlt : i < _ := hlt
    have := q4 (by omega)
    omega
   ·
    exact q1 x hx hlt
theorem best_first {L : List S128} (hv : FsV L) {s : List Int} (hs : s.length ≤ 23) (hne : s ≠ []) (hm : (rdO L s).f0 ≠ 0) :
 ∃ b : Nat, (bestF L (rdCalls L s) (-1, 0)).1 = (b : Int) ∧ b < L.length ∧ isPre (rd_T128 L (b : Int)).f0 s = true ∧ 0 ≤ oW (rdO L (s.drop (rd_T128 L (b : Int)).f0.length)) ∧ oW (rdO L (s.drop (rd_T128 L (b : Int)).f0.length)) + (rd_T128 L (b : Int)).f1 = oW (rdO L s) ∧
  ∀ k : Nat, k < b → isPre (rd_T128 L (k : Int)).f0 s = true → 0 ≤ oW (rdO L (s.drop (rd_T128 L (k : Int)).f0.length)) → oW (rdO L s) < oW (rdO L (s.drop (rd_T128 L (k : Int)).f0.length)) + (rd_T128 L (k : Int)).f1 := by
 have hcl : rdCalls L s = rdC (rdO L) s ((0 : Nat) : Int) L := if_neg hne
 obtain ⟨h1, h2⟩ := bestF_lA hv hs L 0 rfl (-1) 0 (.inl (by show (-1 : Int) < 0; omega))
 have hf := bestF_first L (rdCalls L s) (-1) 0 (fun x hx => by rw [hcl] at hx; have := rdC_ge _ _ x hx; omega) (by rw [hcl]; exact rdC_pw _ _) (fun h => absurd h (by decide))
 rw [← hcl] at h1 h2
 have s0 : selA (-1, 0) = -1 := rfl
 rw [s0, ← (rdO_least hv hs hne).1] at h2
 have h0 : 0 ≤ oW (rdO L s) := by
  have := rdO_bd hv s.length s rfl hs
  unfold oW
  rw [if_neg hm]; exact this.w0 hm
 rcases h1 with h1 | ⟨a1, a2, a3, a4, a5, a6⟩
 ·
  have : selA (bestF L (rdCalls L s) (-1, 0)) = -1 := if_pos h1
  omega
 ·
  have hsel : selA (bestF L (rdCalls L s) (-1, 0)) = (bestF L (rdCalls L s) (-1, 0)).2 := if_neg (by omega)
  rw [hsel] at h2
  obtain ⟨b, hb⟩ := Int.eq_ofNat_of_zero_le a2
  rw [hb] at a3 a4 a5 a6
  have hlen := isPre_len a4
  have hmem : rd_T128 L (b : Int) ∈ L := rd_mem (by omega) (by omega)
  have hbd := rdO_bd hv (s.length - (rd_T128 L (b : Int)).f0.length) (s.drop (rd_T128 L (b : Int)).f0.length) (by rw [List.length_drop]) (by omega)
  refine ⟨b, hb, by omega, a4, by unfold oW; rw [if_neg a5]; exact hbd.w0 a5, by omega, fun k hk hp hg => ?_⟩
  have hzk := oW_nn hg
  have hkl := isPre_len hp
  have hmemk : rd_T128 L (k : Int) ∈ L := rd_mem (by omega) (by omega)
  have hwk := hv.wt _ hmemk
  have hbk := rdO_bd hv (s.length - (rd_T128 L (k : Int)).f0.length) (s.drop (rd_T128 L (k : Int)).f0.length) (by rw [List.length_drop]) (by omega)
  have hin := rdC_has (rec := rdO L) k (by omega) hp hzk k 0 (by omega)
  rw [List.drop_zero, ← hcl] at hin
  have hlt := hf.1 _ hin (by rw [hb]; show (k : Int) < _; omega)
  have e1 : oW (rdO L (s.drop (rd_T128 L (k : Int)).f0.length)) = (rdO L (s.drop (rd_T128 L (k : Int)).f0.length)).f1 := if_neg hzk
  have w0 := hbk.w0 hzk
  have w1 := hbk.w1 hzk
  have e2 : valF L ((k : Int), rdO L (s.drop (rd_T128 L (k : Int)).f0.length)) = (rd_T128 L (k : Int)).f1 + (rdO L (s.drop (rd_T128 L (k : Int)).f0.length)).f1 := by
   unfold valF
   exact w64 (by show _ ≤ (rd_T128 L (k : Int)).f1 + (rdO L _).f1; omega) (by show (rd_T128 L (k : Int)).f1 + (rdO L _).f1 ≤ _; omega)
  rw [e2] at hlt
  omega
theorem spec_FormulasBest_find {L : List S128} {S : List Int} (hv : FsV L) (hS : S.length ≤ 23) (out : List Int) (at_ : Nat) (hat : at_ < S.length) (b : Nat) (hb : b < L.length)
 (hbp : isPre (rd_T128 L (b : Int)).f0 (S.drop at_) = true) (hb0 : 0 ≤ oW (rdO L ((S.drop at_).drop (rd_T128 L (b : Int)).f0.length))) (hbe : oW (rdO L ((S.drop at_).drop (rd_T128 L (b : Int)).f0.length)) + (rd_T128 L (b : Int)).f1 = oW (rdO L (S.drop at_)))
 (hk : ∀ k : Nat, k < b → isPre (rd_T128 L (k : Int)).f0 (S.drop at_) = true → 0 ≤ oW (rdO L ((S.drop at_).drop (rd_T128 L (k : Int)).f0.length)) → oW (rdO L (S.drop at_)) < oW (rdO L ((S.drop at_).drop (rd_T128 L (k : Int)).f0.length)) + (rd_T128 L (k : Int)).f1)
 (hol : out.length ≤ 1000) {r : List Int × Bool} (nxt : Ev (fun k => spec_FormulasBest.l0 k L S (out ++ [(b : Int)]) (leastL L S false) ((at_ + (rd_T128 L (b : Int)).f0.length : Nat) : Int)) r) :
 ∀ (d q : Nat), q + d = b → Ev (fun k => spec_FormulasBest.l1 k L S out (leastL L S false) (at_ : Int) (q : Int)) r
 | d, q, e => by
  have hll := hv.len
  refine Ev.succ ?_
  simp only [spec_FormulasBest.l1]
  have hf := hv.one _ (rd_mem (l := L) (k := (q : Int)) (by omega) (by omega))
  have hw := hv.wt _ (rd_mem (l := L) (k := (q : Int)) (by omega) (by omega))
  rw [w64 (x := (q : Int) + 1) (by omega) (by omega), w64 (x := (at_ : Int) + ((rd_T128 L (q : Int)).f0.length : Int)) (by omega) (by omega)]
  refine Ev.pos (by omega) (Ev.pos (by omega) (Ev.bind (spec_l6fAt_ev _ S at_ (by omega) (by omega) (by omega)) ?_))
  have e3 : ((at_ : Int) + ((rd_T128 L (q : Int)).f0.length : Int)) = ((at_ + (rd_T128 L (q : Int)).f0.length : Nat) : Int) := by omega
  have rdl : ∀ j : Nat, j ≤ S.length → rd (leastL L S false) (j : Int) = oW (rdO L (S.drop j)) := by
   intro j hj
   unfold rd
   rw [Int.toNat_natCast, leastL_get hj]; rfl
  have e0 : rd (leastL L S false) (at_ : Int) = oW (rdO L (S.drop at_)) := rdl at_ (by omega)
  have step : q ≠ b → Ev (fun k => spec_FormulasBest.l1 k L S out (leastL L S false) (at_ : Int) ((q : Int) + 1)) r := by
   intro hne
   obtain ⟨d', rfl⟩ : ∃ d', d = d' + 1 := ⟨d - 1, by omega⟩
   have := spec_FormulasBest_find hv hS out at_ hat b hb hbp hb0 hbe hk hol nxt d' (q + 1) (by omega)
   have e4 : ((q + 1 : Nat) : Int) = (q : Int) + 1 := by omega
   rwa [e4] at this
  cases hp : isPre (rd_T128 L (q : Int)).f0 (S.drop at_)
  ·
   exact Ev.neg (by simp) (step (by rintro rfl; rw [hp] at hbp; cases hbp))
  ·
   have hlen := isPre_len hp
   rw [List.length_drop] at hlen
   have e5 : rd (leastL L S false) (((at_ + (rd_T128 L (q : Int)).f0.length : Nat) : Int)) = oW (rdO L ((S.drop at_).drop (rd_T128 L (q : Int)).f0.length)) := by
    rw [rdl _ (by omega), List.drop_drop]
   have hbd := (rdO_bd hv ((S.drop at_).length - (rd_T128 L (q : Int)).f0.length) ((S.drop at_).drop (rd_T128 L (q : Int)).f0.length) (by rw [List.length_drop]) (by rw [List.length_drop]; omega)).oW
   rw [List.length_drop] at hbd
   rw [e3, e5, e0]
   refine Ev.pos rfl (Ev.pos (by omega) (Ev.pos (by rw [leastL_len]; omega) ?_))
   by_cases hg : oW (rdO L ((S.drop at_).drop (rd_T128 L (q : Int)).f0.length)) < 0
   ·
    exact Ev.pos hg (step (by rintro rfl; omega))
   ·
    refine Ev.neg hg (Ev.pos (by omega) (Ev.pos (by rw [leastL_len]; omega) ?_))
    rw [w64 (by omega) (by omega)]
    rcases Nat.lt_or_ge q b with hlt | hge
    ·
     have := hk q hlt hp (by omega)
     exact Ev.neg (by omega) (step (by omega))
    ·
     obtain rfl : q = b := by omega
     exact Ev.pos hbe (Ev.pos (by omega) nxt)
theorem spec_FormulasBest_loop {L : List S128} {S : List Int} (hv : FsV L) (hS : S.length ≤ 23) : ∀ (n at_ : Nat) (out : List Int), at_ + n = S.length → (rdO L (S.drop at_)).f0 ≠ 0 → out.length ≤ at_ → ∀ m, n ≤ m → Ev (fun k => spec_FormulasBest.l0 k L S out (leastL L S false) (at_ : Int)) (out ++ bestGo L m (S.drop at_), true) := by
 intro n
 induction n using Nat.strongRecOn with
 | _ n IH =>
  intro at_ out e hm hol m hnm
  refine Ev.succ ?_
  simp only [spec_FormulasBest.l0]
  by_cases h0 : n = 0
  ·
   have hd : S.drop at_ = [] := List.drop_eq_nil_of_le (by omega)
   rw [hd]
   refine Ev.neg (by omega) (Ev.eqr (Ev.now _) ?_)
   cases m <;> simp [bestGo]
  ·
   have hne : S.drop at_ ≠ [] := fun h => by have := congrArg List.length h; rw [List.length_drop, List.length_nil] at this; omega
   obtain ⟨b, h1, h2, h3, h4, h5, h6⟩ := best_first hv (by rw [List.length_drop]; omega) hne hm
   have hf := hv.one _ (rd_mem (l := L) (k := (b : Int)) (by omega) (by omega))
   have hlen := isPre_len h3
   rw [List.length_drop] at hlen
   obtain ⟨m', rfl⟩ : ∃ m', m = m' + 1 := ⟨m - 1, by omega⟩
   refine Ev.pos (by omega) ?_
   have hz := oW_nn h4
   have nxt := IH (n - (rd_T128 L (b : Int)).f0.length) (by omega) (at_ + (rd_T128 L (b : Int)).f0.length) (out ++ [(b : Int)]) (by omega) (by rw [← List.drop_drop]; exact hz) (by rw [List.length_append, List.length_singleton]; omega) m' (by omega)
   have := spec_FormulasBest_find hv hS out at_ (by omega) b h2 h3 h4 h5 h6 (by omega) nxt b 0 (by omega)
   refine Ev.eqr this ?_
   simp only [bestGo]
   rw [if_neg hne, h1, List.append_assoc, List.singleton_append, List.drop_drop]
theorem spec_FormulasBest_ev (L : List S128) (S : List Int) (hll : L.length ≤ 1000000000000) (hl : ∀ x ∈ L, x.f0.length ≤ 1000000000000) (hS : S.length ≤ 1000000000000) : Ev (fun k => spec_FormulasBest.f k L S) (fBest L S) := by
 unfold spec_FormulasBest.f fBest
 refine Ev.someb (Ev.bind (spec_l6fOk_ev L S hll hl hS) ?_)
 cases hok : okR L S
 ·
  exact Ev.neg (by simp) (Ev.eqr (Ev.now _) (by simp))
 ·
  refine Ev.pos rfl ?_
  rw [if_pos rfl]
  have hv := FsV.of (okR_of hok).1
  have hS23 := (okR_of hok).2
  refine Ev.bind (spec_l6fLeast_ev hv hS23 false) (Ev.pos (by rw [leastL_len]; omega) ?_)
  have e0 : rd (leastL L S false) 0 = oW (rdO L S) := by
   show (leastL L S false).getD 0 0 = _
   rw [leastL_get (Nat.zero_le _), List.drop_zero]; rfl
  rw [e0]
  by_cases hz : (rdO L S).f0 = 0
  ·
   rw [if_pos hz]
   exact Ev.pos (by unfold oW; rw [if_pos hz]; decide) (Ev.now _)
  ·
   rw [if_neg hz]
   have hbd := rdO_bd hv S.length S rfl hS23
   have h0 : 0 ≤ oW (rdO L S) := by unfold oW; rw [if_neg hz]; exact hbd.w0 hz
   have := spec_FormulasBest_loop hv hS23 S.length 0 [] (by omega) (by rw [List.drop_zero]; exact hz) (by simp) S.length (Nat.le_refl _)
   rw [List.drop_zero, List.nil_append] at this
   exact Ev.neg (by omega) this

theorem fBest_len (L : List S128) (S : List Int) : (fBest L S).1.length ≤ 24 := by
 unfold fBest
 split
 ·
  rename_i h
  split
  ·
   exact Nat.zero_le _
  ·
   have := bestGo_len L S.length S
   have := (okR_of h).2
   show (bestGo L S.length S).length ≤ 24
   omega
 ·
  exact Nat.zero_le _

theorem spec_MelodySteps_ev (m : List S29) (hm : m.length ≤ 1000000000000) : Ev (fun k => spec_MelodySteps.f k m) (mdiffs stepD m) := by
 unfold spec_MelodySteps.f mdiffs
 cases m with
 | nil =>
  refine Ev.succ ?_
  simp only [spec_MelodySteps.l0]
  refine Ev.eqr (Ev.neg (by simp) (Ev.now _)) ?_
  split <;> rfl
 | cons x l =>
  cases hok : melOk (x :: l)
  ·
   refine Ev.succ ?_
   simp only [spec_MelodySteps.l0]
   by_cases h : (1 : Int) < ((x :: l).length : Int)
   ·
    refine Ev.pos h (Ev.bind (spec_MelodyValid_ev _ hm) ?_)
    rw [hok]
    exact Ev.neg (by simp) (Ev.eqr (Ev.now _) (by simp))
   ·
    exact Ev.neg h (Ev.eqr (Ev.now _) (by simp))
  ·
   have hl := melOk_len hok
   simp only [List.length_cons] at hl
   have := Ev.over z29 l (fun k (s : List Int × S29) q => spec_MelodySteps.l0 k (x :: l) s.1 (q + 1)) (fun s rest => s.1 ++ diffs stepD (s.2 :: rest)) (fun i s => s.1.length = i ∧ s.2 = (x :: l).getD i z29) (by
    rintro ⟨s, p⟩ ⟨h1, h2⟩
    refine Ev.succ ?_
    simp only [spec_MelodySteps.l0]
    refine Ev.neg (by simp) (Ev.eqr (Ev.now _) ?_)
    simp [diffs]) (by
    rintro ⟨s, p⟩ i rest ⟨h1, h2⟩ hi hdr ih
    have h1 : s.length = i := h1
    have h2 : p = (x :: l).getD i z29 := h2
    refine Ev.succ ?_
    simp only [spec_MelodySteps.l0]
    rw [w64 (x := (i : Int) + 1 - 1) (by omega) (by omega), w64 (x := (i : Int) + 1 + 1) (by omega) (by omega)]
    refine Ev.pos (by simp; omega) (Ev.bind (spec_MelodyValid_ev _ hm) ?_)
    rw [hok]
    refine Ev.pos rfl (Ev.pos (by omega) (Ev.pos (by omega) (Ev.pos (by simp; omega) (Ev.pos (by omega) ?_))))
    have e1 : rd_T29 (x :: l) ((i : Int) + 1) = l.getD i z29 := by
     unfold rd_T29
     rw [show ((i : Int) + 1).toNat = i + 1 by omega]; rfl
    have e2 : rd_T29 (x :: l) ((i : Int) + 1 - 1) = p := by
     unfold rd_T29
     rw [show ((i : Int) + 1 - 1).toNat = i by omega, h2]
    rw [e1, e2]
    refine Ev.eqr (ih (s ++ [wrap64 ((l.getD i z29).f0 - p.f0)], l.getD i z29) ⟨by simp [h1], rfl⟩) ?_
    simp [diffs, stepD]) 0 ([], x) (Nat.zero_le _) ⟨rfl, rfl⟩
   refine Ev.eqr (by simpa using this) (by simp)

theorem fread_len (l : List S128) (m : List S29) : (fread l m).1.length ≤ 24 := by
 unfold fread
 split
 ·
  exact fBest_len _ _
 ·
  exact Nat.zero_le _
theorem spec_FormulasRead_ev (l : List S128) (m : List S29) (hll : l.length ≤ 1000000000000) (hl : ∀ x ∈ l, x.f0.length ≤ 1000000000000) (hm : m.length ≤ 1000000000000) : Ev (fun k => spec_FormulasRead.f k l m) (fread l m) := by
 unfold spec_FormulasRead.f fread
 refine Ev.bind (spec_MelodyValid_ev m hm) ?_
 cases hok : melOk m
 ·
  exact Ev.neg (by simp) (Ev.eqr (Ev.now _) (by simp))
 ·
  refine Ev.pos rfl (Ev.bind (spec_MelodySteps_ev m hm) (Ev.bind (spec_FormulasBest_ev l _ hll hl (by have := mdiffs_len stepD m; omega)) (Ev.eqr (Ev.now _) (by simp))))

def MV (k s : Int) : List S29 → List S29 → Prop
 | [], [] => True
 | x :: xs, y :: ys => (y.f0 = x.f0 + k ∧ toneOk y = true ∧ hgt y - hgt x = s) ∧ MV k s xs ys
 | _, _ => False
theorem MV_len {k s : Int} : ∀ {m M : List S29}, MV k s m M → M.length = m.length
 | [], [], _ => rfl
 | x :: xs, y :: ys, h => by rw [List.length_cons, List.length_cons, MV_len h.2]
 | [], _ :: _, h => h.elim
 | _ :: _, [], h => h.elim
theorem MV_ok {k s : Int} : ∀ {m M : List S29}, MV k s m M → M.all toneOk = true
 | [], [], _ => rfl
 | x :: xs, y :: ys, h => by rw [List.all_cons, h.1.2.1, MV_ok h.2]; rfl
 | [], _ :: _, h => h.elim
 | _ :: _, [], h => h.elim
theorem MV_all {k s : Int} : ∀ {m M : List S29}, mvAll k s m = some M → MV k s m M
 | [], M, h => by cases h; trivial
 | x :: xs, M, h => by
  simp only [mvAll] at h
  have good : ∀ b, mvGood k s x b = true → (mvT x k b).f0 = x.f0 + k ∧ toneOk (mvT x k b) = true ∧ hgt (mvT x k b) - hgt x = s := by
   intro b hb
   unfold mvGood at hb
   rw [Bool.and_eq_true, decide_eq_true_eq] at hb
   exact ⟨rfl, hb.1, hb.2⟩
  split at h
  ·
   rename_i hg
   obtain ⟨l, h1, rfl⟩ := Option.map_eq_some_iff.1 h
   exact ⟨good _ hg, MV_all h1⟩
  ·
   split at h
   ·
    rename_i hg
    obtain ⟨l, h1, rfl⟩ := Option.map_eq_some_iff.1 h
    exact ⟨good _ hg, MV_all h1⟩
   ·
    cases h
theorem MV_diffs {k s : Int} (g : S29 → S29 → Int) (hg : ∀ x y x' y' : S29, x'.f0 = x.f0 + k → y'.f0 = y.f0 + k → hgt x' - hgt x = s → hgt y' - hgt y = s → g x y = g x' y') : ∀ {m M : List S29}, MV k s m M → diffs g m = diffs g M
 | [], [], _ => rfl
 | [x], [y], _ => rfl
 | x :: x2 :: xs, y :: y2 :: ys, h => by
  have ih := MV_diffs g hg (m := x2 :: xs) (M := y2 :: ys) h.2
  simp only [diffs]
  rw [ih, hg x x2 y y2 h.1.1 h.2.1.1 h.1.2.2 h.2.1.2.2]
 | [], _ :: _, h => h.elim
 | _ :: _, [], h => h.elim
 | [_], _ :: _ :: _, h => h.2.elim
 | _ :: _ :: _, [_], h => h.2.elim
theorem mmove_spec {m M : List S29} {k : Int} (h : mmove m k = (M, true)) : melOk m = true ∧ ((m = [] ∧ M = []) ∨ (m ≠ [] ∧ (-20 ≤ k ∧ k ≤ 20) ∧ ∃ s, MV k s m M)) := by
 unfold mmove at h
 split at h
 ·
  rename_i hok
  refine ⟨hok, ?_⟩
  split at h
  ·
   rename_i h0
   cases h
   exact .inl ⟨List.eq_nil_of_length_eq_zero h0, rfl⟩
  ·
   rename_i h0
   refine .inr ⟨fun e => h0 (by rw [e]; rfl), ?_⟩
   split at h
   ·
    rename_i hk
    refine ⟨hk, ?_⟩
    have go : ∀ b, mmTry m k b = true → mmOf m k b = M → ∃ s, MV k s m M := by
     intro b ht ho
     unfold mmTry at ht
     rw [Bool.and_eq_true] at ht
     unfold mmOf at ho
     unfold movedP at ht ho
     obtain ⟨s, hs⟩ : ∃ s, s = hgt (mvT (rd_T29 m 0) k b) - hgt (rd_T29 m 0) := ⟨_, rfl⟩
     rw [← hs] at ht ho
     cases hl : mvAll k s m with
     | none => rw [hl] at ht; exact absurd ht.2 (by simp)
     | some l =>
      rw [hl] at ho
      have ho : l = M := ho
      subst ho
      exact ⟨s, MV_all hl⟩
    split at h
    ·
     rename_i ht
     exact go _ ht (congrArg Prod.fst h)
    ·
     split at h
     ·
      rename_i ht
      exact go _ ht (congrArg Prod.fst h)
     ·
      cases h
   ·
    cases h
 ·
  cases h
theorem fread_inv {L : List S128} {m : List S29} (h : (fread L m).2 = true) : fsOk L = true ∧ melOk m = true ∧ okIx L (fread L m).1 ∧ flatR L (fread L m).1 = diffs stepD m ∧ (diffs stepD m).length ≤ 23 := by
 unfold fread at h ⊢
 by_cases hm : melOk m = true
 ·
  rw [if_pos hm] at h ⊢
  have hd : mdiffs stepD m = diffs stepD m := by unfold mdiffs; rw [if_pos hm]
  rw [hd] at h ⊢
  unfold fBest at h ⊢
  by_cases ho : okR L (diffs stepD m) = true
  ·
   rw [if_pos ho] at h ⊢
   obtain ⟨h1, h2⟩ := okR_of ho
   by_cases hz : (rdO L (diffs stepD m)).f0 = 0
   ·
    rw [if_pos hz] at h; cases h
   ·
    rw [if_neg hz]
    obtain ⟨g1, g2, _⟩ := bestGo_reads (FsV.of h1) _ _ (Nat.le_refl _) h2 hz
    exact ⟨h1, hm, g1, g2, h2⟩
  ·
   rw [if_neg ho] at h; cases h
 ·
  rw [if_neg hm] at h; cases h
theorem ext_diffs : ∀ (m : List S29) (x : S29), (x :: m).all toneOk = true → (∀ t ∈ m, t.f1 = false) → ext x.f0 (diffs stepD (x :: m)) = m
 | [], x, _, _ => rfl
 | y :: m, x, h, hs => by
  rw [List.all_cons, List.all_cons, Bool.and_eq_true, Bool.and_eq_true] at h
  have b1 := toneOk_bd h.1
  have b2 := toneOk_bd h.2.1
  have e : stepD x y = y.f0 - x.f0 := by unfold stepD; exact w64 (by omega) (by omega)
  have e2 : wrap64 (x.f0 + (y.f0 - x.f0)) = y.f0 := by rw [w64 (by omega) (by omega)]; omega
  have hy : (⟨y.f0, false⟩ : S29) = y := by have := hs y List.mem_cons_self; obtain ⟨a, b⟩ := y; cases this; rfl
  have ih := ext_diffs m y (by rw [List.all_cons, h.2.1, h.2.2]; rfl) (fun t ht => hs t (List.mem_cons_of_mem _ ht))
  simp only [diffs, ext]
  rw [e, e2, ih, hy]
theorem ext_ok : ∀ (m : List S29) (x : S29), (x :: m).all toneOk = true → (ext x.f0 (diffs stepD (x :: m))).all toneOk = true
 | [], x, _ => rfl
 | y :: m, x, h => by
  rw [List.all_cons, List.all_cons, Bool.and_eq_true, Bool.and_eq_true] at h
  have b1 := toneOk_bd h.1
  have b2 := toneOk_bd h.2.1
  have e : stepD x y = y.f0 - x.f0 := by unfold stepD; exact w64 (by omega) (by omega)
  have e2 : wrap64 (x.f0 + (y.f0 - x.f0)) = y.f0 := by rw [w64 (by omega) (by omega)]; omega
  have ih := ext_ok m y (by rw [List.all_cons, h.2.1, h.2.2]; rfl)
  have hy : toneOk ⟨y.f0, false⟩ = true := by
   have := h.2.1
   unfold toneOk at this ⊢
   simp at this ⊢
   exact this.1
  simp only [diffs, ext, List.all_cons]
  rw [e, e2, ih, hy]; rfl
theorem fmel_read {L : List S128} {m : List S29} {x : S29} (h : (fread L (x :: m)).2 = true) : (fmel L (fread L (x :: m)).1 x.f0 x.f1).2 = true ∧ ((∀ t ∈ m, t.f1 = false) → (fmel L (fread L (x :: m)).1 x.f0 x.f1).1 = x :: m) := by
 obtain ⟨h1, h2, h3, h4, h5⟩ := fread_inv h
 have hall := melOk_all h2
 have hfb := fbuild_of h1 h3 (by rw [h4]; exact h5)
 rw [h4] at hfb
 have hT : fmelT L (fread L (x :: m)).1 x.f0 x.f1 = x :: ext x.f0 (diffs stepD (x :: m)) := by unfold fmelT; rw [hfb]
 have hx : toneOk x = true := by rw [List.all_cons, Bool.and_eq_true] at hall; exact hall.1
 have hok : melOk (fmelT L (fread L (x :: m)).1 x.f0 x.f1) = true := by
  rw [hT, melOk_cons, ext_ok m x hall, hx, List.length_cons, ext_len, decide_eq_true (by omega)]; rfl
 unfold fmel
 rw [if_pos ⟨by rw [hfb], hok⟩, hT]
 exact ⟨rfl, fun hs => by show x :: _ = _; rw [ext_diffs m x hall hs]⟩
theorem fread_moved {L : List S128} {m M : List S29} {k : Int} (h : mmove m k = (M, true)) : fread L M = fread L m := by
 obtain ⟨hok, ⟨rfl, rfl⟩ | ⟨_, _, s, hmv⟩⟩ := mmove_spec h
 ·
  rfl
 have hM : melOk M = true := by
  have := melOk_len hok
  unfold melOk
  rw [MV_ok hmv, decide_eq_true (by rw [MV_len hmv]; exact this)]; rfl
 unfold fread mdiffs
 rw [if_pos hok, if_pos hM, if_pos hok, if_pos hM, MV_diffs stepD (fun x y x' y' h1 h2 h3 h4 => by unfold stepD; congr 1; omega) hmv]

end Go.Proofs.YtpcohkffbjdmfaaDoor.Pure
namespace Go.Proofs.YtpcohkffbjdmfaaDoor.Pure
set_option linter.unusedVariables false
set_option linter.unusedSimpArgs false
open Go Go.RowKit Go.Proofs.YtpcohkffbjdmfaaDoor.PFnReadRead Go.Proofs.YtpcohkffbjdmfaaDoorW.PrintWords Go.Proofs.YtpcohkffbjdmfaaDoorW.PrintLast Go.Proofs.YtpcohkffbjdmfaaDoorW.PrintMore

theorem laws_sameInts_ev (a b : List Int) (hl : a.length ≤ 1000000000000) : Ev (fun k => laws_sameInts.f k a b) (a == b) := by
 unfold laws_sameInts.f
 by_cases hlen : (a.length : Int) = (b.length : Int)
 ·
  refine Ev.pos hlen ?_
  have := Ev.over (0 : Int) a (fun k (_ : Unit) i => laws_sameInts.l0 k a b i) (fun _ rest => rest == b.drop (a.length - rest.length)) (fun _ _ => True) (by
   intro s _
   refine Ev.succ ?_
   simp only [laws_sameInts.l0]
   refine Ev.eqr (Ev.neg (by omega) (Ev.now _)) ?_
   have : b.drop a.length = [] := List.drop_eq_nil_of_le (by omega)
   simp [this]) (by
   intro s i rest _ hi hdr ih
   have hrl : rest.length + 1 + i = a.length := by
    have := congrArg List.length hdr
    simp at this; omega
   refine Ev.succ ?_
   simp only [laws_sameInts.l0]
   rw [w64 (by omega) (by omega)]
   refine Ev.pos (by omega) (Ev.pos (by omega) (Ev.pos (by omega) ?_))
   have hra : rd a (i : Int) = a.getD i 0 := rfl
   have hrb : rd b (i : Int) = b.getD i 0 := rfl
   rw [hra, hrb]
   have e2 : a.length - (a.getD i 0 :: rest).length = i := by simp; omega
   have e1 : a.length - rest.length = i + 1 := by omega
   have e3 : b.drop i = b.getD i 0 :: b.drop (i + 1) := by
    rw [List.drop_eq_getElem_cons (by omega), List.getD_eq_getElem?_getD, List.getElem?_eq_getElem (by omega)]; rfl
   rw [e2, e3]
   have ih := ih () trivial
   rw [e1] at ih
   by_cases h : a.getD i 0 = b.getD i 0
   ·
    refine Ev.pos h (Ev.eqr ih ?_)
    rw [h, Bool.eq_iff_iff]; simp
   ·
    refine Ev.neg h (Ev.eqr (Ev.now _) ?_)
    symm; rw [beq_eq_false_iff_ne]; intro hc; exact h (List.cons.inj hc).1) 0 () (Nat.zero_le _) trivial
  simpa using this
 ·
  refine Ev.neg hlen (Ev.eqr (Ev.now _) ?_)
  symm; rw [beq_eq_false_iff_ne]; rintro rfl; exact hlen rfl

theorem sameTones_ev (l : List S29) (hl : l.length ≤ 1000000000000) : Ev (fun k => laws_sameTones.f k l l) true := by
 unfold laws_sameTones.f
 refine Ev.pos rfl ?_
 have := Ev.over z29 l (fun k (_ : Unit) i => laws_sameTones.l0 k l l i) (fun _ _ => true) (fun _ _ => True) (by
  intro s _
  refine Ev.succ ?_
  simp only [laws_sameTones.l0]
  exact Ev.neg (by omega) (Ev.now _)) (by
  intro s i rest _ hi _ ih
  refine Ev.succ ?_
  simp only [laws_sameTones.l0]
  refine Ev.pos (by omega) (Ev.pos (by omega) (Ev.pos (by omega) (Ev.neg (by simp) ?_)))
  rw [w64 (by omega) (by omega)]
  exact ih () trivial) 0 () (Nat.zero_le _) trivial
 simpa using this

theorem drawRR_ev (l0 : List Int) (hw : ∀ x ∈ l0, (Lit.int .u8 x).wf = true) : Evx (fun k => spec_DrawFormulasRead.f k l0) (fun r => DrF r.1 ∧ r.2.length ≤ 600) := by
 obtain ⟨s, h1, hc⟩ := open_ev l0 hw
 unfold spec_DrawFormulasRead.f
 refine Evx.conb h1 (Evx.bind (drawFormulas_ev hc 0 (by omega) (by omega)) ?_)
 rintro ⟨L, q⟩ ⟨hD, hq, hq'⟩
 have hD : DrF L := hD
 have hq : 0 ≤ q := hq
 have hq' : q ≤ 0 + 53 := hq'
 refine Evx.bind (drawReading_ev hc q L.length (by omega) hq (by omega)) ?_
 rintro ⟨R, q1⟩ ⟨hR, hq1, hq1'⟩
 have hR : R.length ≤ 5 := hR
 have hq1 : 0 ≤ q1 := hq1
 have hq1' : q1 ≤ q + 11 := hq1'
 have hll : L.length ≤ 1000000000000 := by have := hD.1; omega
 have hl : ∀ x ∈ L, x.f0.length ≤ 1000000000000 := fun x hx => by have := hD.2 x hx; omega
 have hfl := fmel_len L R 8 false
 refine Evx.bind1 (spec_FormulasMelody_ev L R 8 false hll hl (by omega)) ?_
 have mel : ∀ p : Int, 0 ≤ p → p ≤ 1000 → Evx (fun k => (spec_l91Melody.f k s p 6).bind fun bt => some (L, bt.1)) (fun r => DrF r.1 ∧ r.2.length ≤ 600) := by
  intro p hp hp'
  refine Evx.bind (drawMelody_ev hc p 6 hp (by omega) (by omega) (by omega)) ?_
  rintro ⟨m, q⟩ ⟨h1, _⟩
  have h1 : (m.length : Int) ≤ 6 := h1
  exact Evx.now ⟨hD, by show m.length ≤ 600; omega⟩
 refine Evx.ite (fun _ => ?_) (fun _ => mel q1 hq1 (by omega))
 refine Evx.bind (pick_ev hc q1 4 hq1 (by omega)) ?_
 rintro ⟨u, q2⟩ ⟨_, _, hq2⟩
 have hq2 : q2 = q1 + 1 := hq2
 subst hq2
 exact Evx.ite (fun _ => Evx.now ⟨hD, by show (fmel L R 8 false).1.length ≤ 600; omega⟩) (fun _ => mel (q1 + 1) (by omega) (by omega))
theorem FnReadRead_core (l0 : List Int) (hm0 : l0.length ≤ maxLen) (hw : ∀ x ∈ l0, (Lit.int .u8 x).wf = true) : ∃ k, laws_FnReadRead.f k l0 = some true := by
 unfold maxLen at hm0
 have key : Ev (fun k => laws_FnReadRead.f k l0) true := by
  unfold laws_FnReadRead.f
  by_cases hb : (l0.length : Int) > 1048576
  ·
   exact Ev.pos hb (Ev.now _)
  refine Ev.neg hb ?_
  obtain ⟨⟨L, m⟩, hd, hD, hm⟩ := drawRR_ev l0 hw
  have hD : DrF L := hD
  have hm : m.length ≤ 600 := hm
  have hl : ∀ x ∈ L, x.f0.length ≤ 1000000000000 := fun x hx => by have := hD.2 x hx; omega
  have hll : L.length ≤ 1000000000000 := by have := hD.1; omega
  have hfl := fread_len L m
  have rd : ∀ M : List S29, M.length ≤ 1000 → impl_FormulasRead.f L M = some (fread L M) := by
   intro M hM
   unfold impl_FormulasRead.f
   rw [if_pos ⟨hl, by omega⟩]
  refine Ev.bind hd (Ev.conb (rd m (by omega)) (Ev.bind (spec_FormulasRead_ev L m hll hl (by omega)) ?_))
  refine Ev.neg (by simp) (Ev.bind (laws_sameInts_ev _ _ (by omega)) (Ev.pos (by simp) (Ev.succ ?_)))
  simp only [laws_FnReadRead.j0]
  cases hok : (fread L m).2
  ·
   exact Ev.pos (by simp) (Ev.pos (by simp) (Ev.bind (laws_sameInts_ev _ _ (by omega)) (Ev.eqr (Ev.now _) (by simp))))
  refine Ev.neg (by simp) ?_
  match m, hm, hfl, hok with
  | [], hm, hfl, hok =>
   refine Ev.pos rfl (Ev.eqr (Ev.now _) ?_)
   obtain ⟨h1, _, h3, h4, _⟩ := fread_inv hok
   have hv := FsV.of h1
   cases hr : (fread L []).1 with
   | nil => rfl
   | cons i t =>
    rw [hr] at h3 h4
    have hi := h3 i List.mem_cons_self
    have := (hv.one _ (rd_mem hi.1 hi.2)).1
    have := congrArg List.length h4
    simp only [flatR, List.length_append, diffs, List.length_nil] at this
    omega
  | x :: m, hm, hfl, hok =>
   refine Ev.neg (by rw [List.length_cons]; omega) (Ev.pos (by rw [List.length_cons]; omega) ?_)
   have hm' : m.length ≤ 600 := by rw [List.length_cons] at hm; omega
   obtain ⟨f1, f2⟩ := fmel_read hok
   have hx0 : rd_T29 (x :: m) 0 = x := rfl
   rw [hx0]
   have hfm := fmel_len L (fread L (x :: m)).1 x.f0 x.f1
   refine Ev.bind (impl_FormulasMelody_ev L (fread L (x :: m)).1 x.f0 x.f1 hl (by omega)) ?_
   rw [f1]
   obtain ⟨X, hX⟩ : ∃ X, X = (fmel L (fread L (x :: m)).1 x.f0 x.f1).1 := ⟨_, rfl⟩
   rw [← hX] at f2 hfm ⊢
   obtain ⟨out, hout⟩ : ∃ o, o = (fread L (x :: m)).1 := ⟨_, rfl⟩
   rw [← hout] at hfl ⊢
   -- behind the loop
   have fin : ∀ soft : Bool, ((∀ t ∈ m, t.f1 = false) ∨ soft = true) → ∀ i : Int, ¬ i < ((x :: m).length : Int) → Ev (fun k => laws_FnReadRead.l0 k L (x :: m) out X true soft i) true := by
    intro soft hs i hi
    refine Ev.succ ?_
    simp only [laws_FnReadRead.l0]
    refine Ev.neg hi ?_
    obtain ⟨⟨M, ok⟩, hM⟩ : ∃ R, R = mmove (x :: m) 7 := ⟨_, rfl⟩
    have hml := mmove_len (x :: m) 7
    have hmv : impl_MelodyMove.f (x :: m) 7 = some (M, ok) := by
     unfold impl_MelodyMove.f
     rw [if_pos (by omega), hM]
    rw [← hM] at hml
    have hml : M.length ≤ 24 := hml
    refine Ev.conb hmv (Ev.conb (rd M (by omega)) (Ev.pos (by simp) ?_))
    have moved : Ev (fun k => if ok = true then (if (fread L M).2 = true then ((laws_sameInts.f k (fread L M).1 out).bind fun t => (some t)) else (some false)) else (some true)) true := by
     cases ok
     ·
      exact Ev.neg (by simp) (Ev.now _)
     ·
      have he := fread_moved (L := L) hM.symm
      rw [he, hok, ← hout]
      exact Ev.pos rfl (Ev.pos rfl (Ev.bind (laws_sameInts_ev _ _ (by omega)) (Ev.eqr (Ev.now _) (by simp))))
    cases soft
    ·
     refine Ev.neg (by simp) ?_
     have hXm : X = x :: m := f2 (hs.resolve_right (by simp))
     rw [hXm]
     exact Ev.bind (sameTones_ev (x :: m) (by omega)) (Ev.pos rfl moved)
    ·
     exact Ev.pos rfl moved
   have lp : ∀ (d i : Nat) (soft : Bool), m.length - i = d → i ≤ m.length → ((∀ t ∈ m.take i, t.f1 = false) ∨ soft = true) → Ev (fun k => laws_FnReadRead.l0 k L (x :: m) out X true soft ((i : Int) + 1)) true := by
    intro d
    induction d with
    | zero =>
     intro i soft h1 h2 h3
     have hi : i = m.length := by omega
     rw [hi, List.take_length] at h3
     exact fin soft h3 _ (by rw [List.length_cons]; omega)
    | succ d ih =>
     intro i soft h1 h2 h3
     refine Ev.succ ?_
     simp only [laws_FnReadRead.l0]
     rw [w64 (x := (i : Int) + 1 + 1) (by omega) (by omega)]
     have hlt : i < m.length := by omega
     refine Ev.pos (by rw [List.length_cons]; omega) ?_
     have next : ∀ soft' : Bool, ((∀ t ∈ m.take (i + 1), t.f1 = false) ∨ soft' = true) → Ev (fun k => laws_FnReadRead.l0 k L (x :: m) out X true soft' ((i : Int) + 1 + 1)) true := by
      intro soft' hs
      have := ih (i + 1) soft' (by omega) (by omega) hs
      rwa [Int.natCast_add, Int.natCast_one] at this
     cases soft
     ·
      refine Ev.neg (by simp) (Ev.pos (by omega) (next _ ?_))
      have hg : rd_T29 (x :: m) ((i : Int) + 1) = m[i] := by
       unfold rd_T29
       have e : ((i : Int) + 1).toNat = i + 1 := by omega
       rw [e, List.getD_cons_succ, List.getD_eq_getElem?_getD, List.getElem?_eq_getElem hlt]; rfl
      rw [hg]
      cases hs : m[i].f1
      ·
       left
       intro t ht
       rw [List.take_succ_eq_append_getElem hlt] at ht
       rcases List.mem_append.1 ht with ht | ht
       ·
        exact h3.resolve_right (by simp) t ht
       ·
        obtain rfl := List.mem_singleton.1 ht
        exact hs
      ·
       exact .inr rfl
     ·
      exact Ev.pos rfl (next true (.inr rfl))
   exact lp m.length 0 false rfl (Nat.zero_le _) (.inl (by simp))
 exact Ev.rounds key
theorem FnReadRead_walk (l0 : List Int) (A0 : Option Addr) (c0 : Nat) (w : World) (ht : HTab w) (hr0 : Kd.C (Kd.int .u8) w A0 l0.length l0) (hc0 : l0.length ≤ c0) (hw0 : ∀ x ∈ l0, (Lit.int .u8 x).wf = true) (hm0 : l0.length ≤ maxLen) :
 Calls Tryd.prog 5 #[.slice A0 l0.length c0] w fun e w' => e = .returned (.bool true) ∧ Below w.heap.size w w' := by
 obtain ⟨k, h⟩ := FnReadRead_core l0 hm0 hw0
 exact laws_FnReadRead.calls k A0 c0 l0 true w ht hr0 hc0 rfl h

def Opn {α : Type} (P : Program) (t : TypeId) (d : Kd α) (ok : α → Prop) : Prop :=
 P.cellsOf t = d.sz ∧ ∀ {H : Type} (enc : TypeId × Value → H) (w : World) (base : Nat) (held : Bool) (fuel : Nat) (cs : List Value) (x : DataW H × List MemPlace), DataW.trod enc P w base (fun _ => true) held fuel t cs = some x → ∃ p, d.K w p cs ∧ ok p
theorem opn_int {P : Program} {t : TypeId} (k : IntKind) (ht : P.underlying t = some (.int k)) (hc : P.cellsOf t = 1) : Opn P t (Kd.int k) (fun n => (Lit.int k n).wf = true) :=
 ⟨hc, fun enc w base held fuel cs x h => by obtain ⟨n, rfl, _, hw⟩ := DataW.trod_int ht h; exact ⟨n, rfl, hw⟩⟩
theorem opn_slice {α : Type} {P : Program} {t e : TypeId} {d : Kd α} {ok : α → Prop} (ht : P.underlying t = some (.slice e)) (hc : P.cellsOf t = 1) (he : Opn P e d ok) : Opn P t (Kd.slice e d) (fun l => (∀ x ∈ l, ok x) ∧ l.length ≤ maxLen) := by
 refine ⟨hc, fun enc w base held fuel cs x h => ?_⟩
 rcases Go.Deep.open_slice ht h with ⟨rfl, _⟩ | ⟨a, len, cap, m, n, D, Pl, rfl, _, hl, hm, hmm, _, hi⟩
 ·
  exact ⟨[], ⟨none, 0, rfl, Nat.le_refl _, rfl, by simp, fun h => by simp at h⟩, by simp, by simp⟩
 ·
  have hmc : m = cap := by simpa using hmm
  clear hmm
  have key : ∀ k, k ≤ len → ∃ l : List α, l.length = k ∧ (∀ x ∈ l, ok x) ∧ ∀ j p, l[j]? = some p → ∃ c, c.length = d.sz ∧ d.K w p c ∧ ∀ i u, c[i]? = some u → w.cell? (a.add (j * d.sz + i)) = some u := by
   intro k
   induction k with
   | zero => intro _; exact ⟨[], rfl, by simp, by simp⟩
   | succ k ih =>
    intro hk
    obtain ⟨l, hll, hlo, hlc⟩ := ih (by omega)
    obtain ⟨cs', hcs, ht'⟩ := hi k (by omega)
    rw [he.1] at hcs
    obtain ⟨p, hp, hop⟩ := he.2 enc w base held n cs' _ ht'
    obtain ⟨_, hcl, hat⟩ := World.cells?_some hcs
    refine ⟨l ++ [p], by simp [hll], ?_, ?_⟩
    ·
     intro x hx
     rcases List.mem_append.1 hx with hx | hx
     ·
      exact hlo x hx
     ·
      rw [List.mem_singleton.1 hx]; exact hop
    ·
     intro j q hq
     by_cases hj : j < l.length
     ·
      rw [List.getElem?_append_left hj] at hq
      exact hlc j q hq
     ·
      have hj2 : j = l.length := by
       have := (List.getElem?_eq_some_iff.1 hq).1
       simp at this; omega
      subst hj2
      rw [List.getElem?_append_right (Nat.le_refl _)] at hq
      simp at hq
      subst hq
      refine ⟨cs', hcl, hp, fun i u hu => ?_⟩
      have hil : i < d.sz := by rw [← hcl]; exact (List.getElem?_eq_some_iff.1 hu).1
      rw [hll, ← Go.Deep.add_add, hat i hil, hu]
  obtain ⟨l, hll, hlo, hlc⟩ := key len (Nat.le_refl _)
  subst hll
  exact ⟨l, ⟨some a, cap, rfl, hl, rfl, by unfold maxLen at hm; omega, fun _ => ⟨a, rfl, hlc⟩⟩, hlo, by omega⟩
/-- A slice argument. -/
theorem opn_arg {α : Type} {P : Program} {t e : TypeId} {d : Kd α} {ok : List α → Prop} (h : Opn P t (Kd.slice e d) ok) {H : Type} {enc : TypeId × Value → H} {w : World} {base : Nat} {held : Bool} {a : Option Addr} {len cap : Nat} {x : DataW H} {p : List MemPlace} (hr : DataW.Trod enc P w base (fun _ => true) held t (.slice a len cap) x p) :
 ∃ l : List α, len = l.length ∧ l.length ≤ cap ∧ d.C w a l.length l ∧ ok l := by
 obtain ⟨fuel, hf⟩ := hr
 obtain ⟨l, ⟨A, c, he, hc, hC⟩, ho⟩ := h.2 enc w base held fuel _ _ hf
 simp [Value.cells] at he
 obtain ⟨rfl, rfl, rfl⟩ := he
 exact ⟨l, rfl, hc, hC, ho⟩

end Go.Proofs.YtpcohkffbjdmfaaDoor.Pure
