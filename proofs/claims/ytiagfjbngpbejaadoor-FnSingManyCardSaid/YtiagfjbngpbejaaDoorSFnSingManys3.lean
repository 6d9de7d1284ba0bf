/- Lemmas for the law FnSingMany. -/
import Derived.Test.YtiagfjbngpbejaaDoorSFnSingManys2
namespace Go.Proofs.YtiagfjbngpbejaaDoor.PFnSingMany
open Go.RowKit Go.Proofs.YtiagfjbngpbejaaDoorW.PrintWords Go.Proofs.YtiagfjbngpbejaaDoorW.PrintLast Go.Proofs.YtiagfjbngpbejaaDoorW.PrintMore Go.Proofs.YtiagfjbngpbejaaDoor.Pure
attribute [local go_sem] max2_int min2_int max_two min_two max_three min_three max_four min_four   -- for this text's walks alone
set_option linter.unusedVariables false
set_option linter.unusedSimpArgs false

mutual
def laws_FnSingMany.j0 : Nat → List (S29) → Int → Int → Bool → Option (Bool)
 | 0, _, _, _, _ => none
 | k + 1, x3, x4, x5, x25 => if x25 = true then (some (x4 == x5)) else (laws_FnSingMany.l0 k x3 x4 1 0)
def laws_FnSingMany.l0 : Nat → List (S29) → Int → Int → Int → Option (Bool)
 | 0, _, _, _, _ => none
 | k + 1, x3, x4, x6, x7 => if x7 < (x3.length : Int) then (if 0 ≤ x7 then ((impl_HexAll.f ((rd_T29 x3 x7).f0) ((rd_T29 x3 x7).f1)).bind fun t234 => (laws_FnSingMany.l0 k x3 x4 (wrap64 (x6 * (t234.length : Int))) (wrap64 (x7 + 1)))) else (none)) else ((impl_SingBest.f x3).bind fun bt237 => (if x6 = x4 then (if ((decide (x4 > 0)) == bt237.2) = true then ((impl_SingMany.f k (([] : List (S29)))).bind fun t244 => (some (t244 == 1))) else (some false)) else (some false)))
end
def laws_FnSingMany.f (k : Nat) (l0 : List Int) : Option (Bool) := if (l0.length : Int) > 1048576 then (some true) else ((spec_DrawSingMany.f k l0).bind fun t228 => ((impl_SingMany.f k t228).bind fun t231 => ((spec_SingMany.f k t228).bind fun t232 => (if t231 = t232 then (laws_FnSingMany.j0 k t228 t231 t232 (decide (t231 < 0))) else (laws_FnSingMany.j0 k t228 t231 t232 true)))))
set_option maxHeartbeats 8000000 in
set_option maxRecDepth 100000 in
theorem laws_FnSingMany.calls (k : Nat) (A0 : Option Addr) (c0 : Nat) (l0 : List Int) (r : Bool) (w : World) (ht : NTab w) (hr0 : Kd.C (Kd.int .u8) w A0 l0.length l0) (hc0 : l0.length ≤ c0) (h : laws_FnSingMany.f k l0 = some r) :
 Calls Tryd.prog 3 #[.slice A0 l0.length c0] w fun e w' => e = .returned (.bool r) ∧ Below w.heap.size w w' := by
 have HT := Aside0.mk ht; clear ht; have hu29 := Tryd.underlying29; have HR0 := Aside0.mk hr0; have HC0 := Aside0.mk hc0; clear hr0 hc0; have HB := Aside0.mk (Below.refl w.heap.size w); have H : (if (l0.length : Int) > 1048576 then (some true) else ((spec_DrawSingMany.f k l0).bind fun t228 => ((impl_SingMany.f k t228).bind fun t231 => ((spec_SingMany.f k t228).bind fun t232 => (if t231 = t232 then (laws_FnSingMany.j0 k t228 t231 t232 (decide (t231 < 0))) else (laws_FnSingMany.j0 k t228 t231 t232 true)))))) = some r := h; clear h; by_cases c2 : (l0.length : Int) > 1048576
 ·
  rw [if_pos c2] at H; have c2b0 : decide (1048576 < (l0.length : Int)) = true := decide_eq_true c2; have c2b1 : decide (1048576 < l0.length) = true := decide_eq_true (by omega); clear c2; obtain rfl := Option.some.inj H; go_enter Tryd.func3, Tryd.ntmps3
  go_wp2; go_ret
  exact ⟨by first | rfl | (simp [errW_none, errW_some] <;> rfl) | (simp [*, errW_none, errW_some] <;> rfl), by repeat (first | (with_reducible first | exact HB.out | apply below_alloc | apply pw_below_drewN | apply below_drew1) | exact HB.out)⟩
 ·
  rw [if_neg c2] at H; have c2b0 : decide (1048576 < (l0.length : Int)) = false := decide_eq_false c2; have c2b1 : decide (1048576 < l0.length) = false := decide_eq_false (by omega); clear c2; replace H := Option.bind_eq_some_iff.mp H; obtain ⟨t228, A30, H⟩ := H; replace H : ((impl_SingMany.f k t228).bind fun t231 => ((spec_SingMany.f k t228).bind fun t232 => (if t231 = t232 then (laws_FnSingMany.j0 k t228 t231 t232 (decide (t231 < 0))) else (laws_FnSingMany.j0 k t228 t231 t232 true)))) = some r := H; have A3 := Aside0.mk A30; clear A30; replace H := Option.bind_eq_some_iff.mp H; obtain ⟨t231, A40, H⟩ := H; replace H : ((spec_SingMany.f k t228).bind fun t232 => (if t231 = t232 then (laws_FnSingMany.j0 k t228 t231 t232 (decide (t231 < 0))) else (laws_FnSingMany.j0 k t228 t231 t232 true))) = some r := H; have A4 := Aside0.mk A40; clear A40; replace H := Option.bind_eq_some_iff.mp H; obtain ⟨t232, A50, H⟩ := H; replace H : (if t231 = t232 then (laws_FnSingMany.j0 k t228 t231 t232 (decide (t231 < 0))) else (laws_FnSingMany.j0 k t228 t231 t232 true)) = some r := H; have A5 := Aside0.mk A50; clear A50; have HC6 := Aside0.mk H; clear H; go_enter Tryd.func3, Tryd.ntmps3
  go_upto_region 6 with (first | ((with_reducible refine gate_callee (f := 5) rfl ?_); refine goesL_ (some 14) rfl rfl Tryd.func5 (by kernel_rfl) rfl #[.slice A0 l0.length c0] rfl (by (try simp only [List.map_toArray, List.map_cons, List.map_nil]); first | done | rfl | (simp only [List.length_drop, List.length_take]; rfl)) ?_; (with_reducible refine (spec_DrawSingMany.calls k _ _ l0 t228 _ ?side1 ?side2 A3.out).mono ?_); (case side1 => repeat (first | exact HR0.out | (with_reducible refine Kd.C_alloc ?_ _) | (with_reducible refine Kd.C_drewN ?_ _) | (with_reducible refine Kd.C_drew ?_))); (case side2 => exact HC0.out); rintro e w7 ⟨v229, rfl, ho0, hb⟩; refine ⟨_, rfl, ?_⟩; have n0_ := Aside0.mk (Kd.R_lower ho0 (below_size (by repeat (first | (with_reducible first | exact HB.out | apply below_alloc | apply pw_below_drewN | apply below_drew1) | exact HB.out)))); have n1_ := Aside0.mk (below_step (by repeat (first | (with_reducible first | exact HB.out | apply below_alloc | apply pw_below_drewN | apply below_drew1) | exact HB.out)) hb); clear HB; have HO230 := n0_; have HB := n1_; clear n0_ n1_; (try clear hb); (try clear hb2); (try clear hk); (try clear hi); (try clear ho0); obtain ⟨Ao8, co8, eo8⟩ := Kd.R_slice HO230.out; subst eo8) | ((with_reducible refine gate_callee (f := 6) rfl ?_); refine goesL_ (some 16) rfl rfl Tryd.func6 (by kernel_rfl) rfl #[.slice Ao8 t228.length co8] rfl (by (try simp only [List.map_toArray, List.map_cons, List.map_nil]); first | done | rfl | (simp only [List.length_drop, List.length_take]; rfl)) ?_; (with_reducible refine (impl_SingMany.calls k _ _ t228 t231 _ ?side1 ?side2 A4.out (ht := HT.out.below (by repeat (first | (with_reducible first | exact HB.out | apply below_alloc | apply pw_below_drewN | apply below_drew1) | exact HB.out)))).mono ?_); (case side1 => repeat (first | exact (Kd.R_reads' HO230.out).2.2 | (with_reducible refine Kd.C_alloc ?_ _) | (with_reducible refine Kd.C_drewN ?_ _) | (with_reducible refine Kd.C_drew ?_))); (case side2 => exact (Kd.R_reads' HO230.out).2.1); rintro e w9 ⟨rfl, hb⟩; refine ⟨_, rfl, ?_⟩; have n0_ := Aside0.mk (Kd.R_below (by (with_reducible repeat (first | apply Kd.R_alloc | apply Kd.R_drewN | apply Kd.R_drew)); exact HO230.out) hb); have n1_ := Aside0.mk (below_step (by repeat (first | (with_reducible first | exact HB.out | apply below_alloc | apply pw_below_drewN | apply below_drew1) | exact HB.out)) hb); clear HO230; clear HB; have HO230 := n0_; have HB := n1_; clear n0_ n1_; (try clear hb); (try clear hb2); (try clear hk); (try clear hi)) | ((with_reducible refine gate_callee (f := 7) rfl ?_); refine goesL_ (some 18) rfl rfl Tryd.func7 (by kernel_rfl) rfl #[.slice Ao8 t228.length co8] rfl (by (try simp only [List.map_toArray, List.map_cons, List.map_nil]); first | done | rfl | (simp only [List.length_drop, List.length_take]; rfl)) ?_; (with_reducible refine (spec_SingMany.calls k _ _ t228 t232 _ ?side1 ?side2 A5.out).mono ?_); (case side1 => repeat (first | exact (Kd.R_reads' HO230.out).2.2 | (with_reducible refine Kd.C_alloc ?_ _) | (with_reducible refine Kd.C_drewN ?_ _) | (with_reducible refine Kd.C_drew ?_))); (case side2 => exact (Kd.R_reads' HO230.out).2.1); rintro e w10 ⟨rfl, hb⟩; refine ⟨_, rfl, ?_⟩; have n0_ := Aside0.mk (Kd.R_below (by (with_reducible repeat (first | apply Kd.R_alloc | apply Kd.R_drewN | apply Kd.R_drew)); exact HO230.out) hb); have n1_ := Aside0.mk (below_step (by repeat (first | (with_reducible first | exact HB.out | apply below_alloc | apply pw_below_drewN | apply below_drew1) | exact HB.out)) hb); clear HO230; clear HB; have HO230 := n0_; have HB := n1_; clear n0_ n1_; (try clear hb); (try clear hb2); (try clear hk); (try clear hi)))
  (try simp only [Act.put, List.setIfInBounds_toArray, List.set_cons_zero, List.set_cons_succ])
  go_cut [25] (fun v25 wc => ∃ (kq : Nat) (x25_5 : Bool), v25 = .bool x25_5 ∧ Aside0 (laws_FnSingMany.j0 kq t228 t231 t232 x25_5 = some r) ∧ Aside0 (kq ≤ k) ∧ Aside0 (Kd.R k29 29 wc w.heap.size (fun _ => True) (.slice Ao8 t228.length co8) t228) ∧ Aside0 (Below w.heap.size w wc))
  case first =>
   have H := HC6.out; clear HC6; by_cases c11 : t231 = t232
   ·
    rw [if_pos c11] at H; have c11b0 : (t231 == t232) = true := beq_iff_eq.mpr c11; have c11b1 : (t231 != t232) = false := bne_eq_false_iff_eq.mpr c11; clear c11; (first | rw [c11b0] | (simp only [i64_w, i32_w]; rw [c11b0]) | skip)
    have H' := Aside0.mk H; clear H; go_wp2; go_meet
    case rel => exact ⟨_, (decide (t231 < 0)), (by first | rfl | (simp; done) | (simp [*]; done)), H', ⟨by first | omega | exact Nat.le_refl _⟩, ⟨by (with_reducible repeat (first | apply Kd.R_alloc | apply Kd.R_drewN | apply Kd.R_drew)); exact HO230.out⟩, ⟨by repeat (first | (with_reducible first | exact HB.out | apply below_alloc | apply pw_below_drewN | apply below_drew1) | exact HB.out)⟩⟩
   ·
    rw [if_neg c11] at H; have c11b0 : (t231 == t232) = false := beq_eq_false_iff_ne.mpr c11; have c11b1 : (t231 != t232) = true := bne_iff_ne.mpr c11; (first | rw [c11b0] | (simp only [i64_w, i32_w]; rw [c11b0]) | skip)
    have H' := Aside0.mk H; clear H; go_wp2; go_meet
    case rel => exact ⟨_, (true), (by first | rfl | (simp; done) | (simp [*]; done)), H', ⟨by first | omega | exact Nat.le_refl _⟩, ⟨by (with_reducible repeat (first | apply Kd.R_alloc | apply Kd.R_drewN | apply Kd.R_drew)); exact HO230.out⟩, ⟨by repeat (first | (with_reducible first | exact HB.out | apply below_alloc | apply pw_below_drewN | apply below_drew1) | exact HB.out)⟩⟩
  case rest =>
   clear HC6; try clear c1
   try clear c2
   try clear c2b0
   try clear c2b1
   try clear p2
   try clear c3
   try clear c5
   try clear c6
   try clear c7
   try clear c11
   try clear c11b0
   try clear c11b1
   obtain ⟨kq, x25_5, rfl, HA, HJ5, HO_3, HB⟩ := hcut; cases kq with
   | zero => exact absurd HA.out (by simp [laws_FnSingMany.j0])
   | succ kj5 =>
    have H := HA.out; clear HA; simp only [laws_FnSingMany.j0] at H; by_cases c12 : x25_5 = true
    ·
     subst c12; have H1 : (some (t231 == t232)) = some r := by rw [if_pos rfl] at H; exact H
     clear H; have H := H1; clear H1; obtain rfl := Option.some.inj H; go_wp2; go_ret
     exact ⟨by first | rfl | (simp [errW_none, errW_some] <;> rfl) | (simp [*, errW_none, errW_some] <;> rfl), by repeat (first | (with_reducible first | exact HB.out | apply below_alloc | apply pw_below_drewN | apply below_drew1) | exact HB.out)⟩
    ·
     replace c12 := Bool.eq_false_iff.mpr c12; subst c12; have H1 : (laws_FnSingMany.l0 kj5 t228 t231 1 0) = some r := by rw [if_neg (show ¬ (false = true) by decide)] at H; exact H
     clear H; have H := H1; clear H1; have H' := Aside0.mk H; clear H; go_wp2; go_loopg [6, 7] kj5 (fun kq v6 v7 w' => ∃ (x6_2 : Int) (x7_2 : Int), v6 = .int .i64 x6_2 ∧ v7 = .int .i64 x7_2 ∧ Aside0 (laws_FnSingMany.l0 kq t228 t231 x6_2 x7_2 = some r) ∧ Aside0 (kq ≤ kj5) ∧ Aside0 (Kd.R k29 29 w' w.heap.size (fun _ => True) (.slice Ao8 t228.length co8) t228) ∧ Aside0 (Below w.heap.size w w'))
     case atStart => exact ⟨(1), (0), (by first | rfl | (simp; done) | (simp [*]; done)), (by first | rfl | (simp; done) | (simp [*]; done)), H', ⟨Nat.le_refl _⟩, ⟨by (with_reducible repeat (first | apply Kd.R_alloc | apply Kd.R_drewN | apply Kd.R_drew)); exact HO_3.out⟩, ⟨by repeat (first | (with_reducible first | exact HB.out | apply below_alloc | apply pw_below_drewN | apply below_drew1) | exact HB.out)⟩⟩
     case round =>
      clear H'; try clear c1
      try clear c2
      try clear c2b0
      try clear c2b1
      try clear p2
      try clear c3
      try clear c5
      try clear c6
      try clear c7
      try clear c11
      try clear c11b0
      try clear c11b1
      try clear c12
      try clear p2
      obtain ⟨x6_2, x7_2, rfl, rfl, HA, HK2, HO_3, HB⟩ := hrel; cases gk with
      | zero => exact absurd HA.out (by simp [laws_FnSingMany.l0])
      | succ k2 =>
       have H := HA.out; clear HA; simp only [laws_FnSingMany.l0] at H; by_cases c13 : x7_2 < (t228.length : Int)
       ·
        rw [if_pos c13] at H; have c13b0 : decide (x7_2 < (t228.length : Int)) = true := decide_eq_true c13; clear c13; by_cases c14 : 0 ≤ x7_2
        ·
         rw [if_pos c14] at H; have c14b0 : decide (0 ≤ x7_2) = true := decide_eq_true c14; clear c14; replace H := Option.bind_eq_some_iff.mp H; obtain ⟨t234, A150, H⟩ := H; replace H : (laws_FnSingMany.l0 k2 t228 t231 (wrap64 (x6_2 * (t234.length : Int))) (wrap64 (x7_2 + 1))) = some r := H; have A15 := Aside0.mk A150; clear A150; have H' := Aside0.mk H; clear H; have p233 : 0 ≤ (x7_2 : Int) := of_decide_eq_true (by first | (with_reducible assumption) | assumption); have q233 : x7_2 < (t228.length : Int) := of_decide_eq_true (by first | (with_reducible assumption) | assumption); obtain ⟨ad233, e233, hx233_0, hx233_1⟩ := at_T29 (Kd.R_reads' HO_3.out).2.2 x7_2 p233 q233; cases e233; replace p233 := eq_true p233; replace q233 := eq_true q233; go_wp2_with (first | ((with_reducible refine gate_callee (f := 8) rfl ?_); refine goesL_ (some 40) rfl rfl Tryd.func8 (by kernel_rfl) rfl #[.agg #[.int .i64 ((rd_T29 t228 x7_2).f0), .bool ((rd_T29 t228 x7_2).f1)]] rfl (by (try simp only [List.map_toArray, List.map_cons, List.map_nil]); first | done | rfl | (simp only [List.length_drop, List.length_take]; rfl)) ?_; (with_reducible refine (impl_HexAll.calls ((rd_T29 t228 x7_2).f0) ((rd_T29 t228 x7_2).f1) t234 _ A15.out (ht := HT.out.below (by repeat (first | (with_reducible first | exact HB.out | apply below_alloc | apply pw_below_drewN | apply below_drew1) | exact HB.out)))).mono ?_); rintro e w16 ⟨v235, rfl, ho0, hb⟩; refine ⟨_, rfl, ?_⟩; have n0_ := Aside0.mk (Kd.R_below (by (with_reducible repeat (first | apply Kd.R_alloc | apply Kd.R_drewN | apply Kd.R_drew)); exact HO_3.out) hb); have n1_ := Aside0.mk (Kd.R_lower ho0 (below_size (by repeat (first | (with_reducible first | exact HB.out | apply below_alloc | apply pw_below_drewN | apply below_drew1) | exact HB.out)))); have n2_ := Aside0.mk (below_step (by repeat (first | (with_reducible first | exact HB.out | apply below_alloc | apply pw_below_drewN | apply below_drew1) | exact HB.out)) hb); clear HO_3; clear HB; have HO_3 := n0_; have HO236 := n1_; have HB := n2_; clear n0_ n1_ n2_; (try clear hb); (try clear hb2); (try clear hk); (try clear hi); (try clear ho0); obtain ⟨Ao17, co17, eo17⟩ := Kd.R_slice HO236.out; subst eo17))
         go_roundg k2
         case measure => have := HJ5.out; have := HK2.out; omega
         case rel => exact ⟨(wrap64 (x6_2 * (t234.length : Int))), (wrap64 (x7_2 + 1)), (by first | rfl | (simp; done) | (simp [*]; done)), (by first | rfl | (simp; done) | (simp [*]; done)), H', ⟨by have := HJ5.out; have := HK2.out; omega⟩, ⟨by (with_reducible repeat (first | apply Kd.R_alloc | apply Kd.R_drewN | apply Kd.R_drew)); exact HO_3.out⟩, ⟨by repeat (first | (with_reducible first | exact HB.out | apply below_alloc | apply pw_below_drewN | apply below_drew1) | exact HB.out)⟩⟩
        ·
         rw [if_neg c14] at H; exact absurd H (by simp)
       ·
        rw [if_neg c13] at H; have c13b0 : decide (x7_2 < (t228.length : Int)) = false := decide_eq_false c13; clear c13; replace H := Option.bind_eq_some_iff.mp H; obtain ⟨⟨t237, t238⟩, A180, H⟩ := H; replace H : (if x6_2 = t231 then (if ((decide (t231 > 0)) == t238) = true then ((impl_SingMany.f k2 (([] : List (S29)))).bind fun t244 => (some (t244 == 1))) else (some false)) else (some false)) = some r := H; have A18 := Aside0.mk A180; clear A180; by_cases c19 : x6_2 = t231
        ·
         rw [if_pos c19] at H; have c19b0 : (x6_2 == t231) = true := beq_iff_eq.mpr c19; have c19b1 : (x6_2 != t231) = false := bne_eq_false_iff_eq.mpr c19; clear c19; by_cases c20 : ((decide (t231 > 0)) == t238) = true
         ·
          rw [if_pos c20] at H; have c20b0 : ((decide (t231 > 0)) == t238) = true := c20; (try (have c20b1 : decide ((decide (t231 > 0)) = t238) = true := by simpa using c20))
          (try (have c20b2 : ((decide (t231 > 0)) == t238) = true := by simpa using c20))
          clear c20; obtain ⟨y241, hy241⟩ : ∃ y_ : List (S29), y_ = (([] : List (S29))) := ⟨_, rfl⟩
          replace H : ((impl_SingMany.f k2 y241).bind fun t244 => (some (t244 == 1))) = some r := by first | (rw [hy241]; with_reducible exact H) | (have H2_ := (Option.bind_some _ _).symm.trans H; rw [hy241]; with_reducible exact H2_) | (have H2_ := (Option.bind_some _ _).symm.trans H; with_reducible exact H2_) | with_reducible exact H | (rw [hy241]; exact H) | exact H
          have Ny241 := Aside0.mk hy241; clear hy241; replace H := Option.bind_eq_some_iff.mp H; obtain ⟨t244, A210, H⟩ := H; replace H : (some (t244 == 1)) = some r := H; have A21 := Aside0.mk A210; clear A210; obtain rfl := Option.some.inj H; go_wp2_with (first | ((with_reducible refine gate_callee (f := 9) rfl ?_); refine goesL_ (some 45) rfl rfl Tryd.func9 (by kernel_rfl) rfl #[.slice Ao8 t228.length co8] rfl (by (try simp only [List.map_toArray, List.map_cons, List.map_nil]); first | done | rfl | (simp only [List.length_drop, List.length_take]; rfl)) ?_; (with_reducible refine (impl_SingBest.calls _ _ t228 t237 t238 _ ?side1 ?side2 A18.out (ht := HT.out.below (by repeat (first | (with_reducible first | exact HB.out | apply below_alloc | apply pw_below_drewN | apply below_drew1) | exact HB.out)))).mono ?_); (case side1 => repeat (first | exact (Kd.R_reads' HO_3.out).2.2 | (with_reducible refine Kd.C_alloc ?_ _) | (with_reducible refine Kd.C_drewN ?_ _) | (with_reducible refine Kd.C_drew ?_))); (case side2 => exact (Kd.R_reads' HO_3.out).2.1); rintro e w22 ⟨v239, rfl, ho0, hb⟩; refine ⟨_, rfl, ?_⟩; have n0_ := Aside0.mk (Kd.R_below (by (with_reducible repeat (first | apply Kd.R_alloc | apply Kd.R_drewN | apply Kd.R_drew)); exact HO_3.out) hb); have n1_ := Aside0.mk (Kd.R_lower ho0 (below_size (by repeat (first | (with_reducible first | exact HB.out | apply below_alloc | apply pw_below_drewN | apply below_drew1) | exact HB.out)))); have n2_ := Aside0.mk (below_step (by repeat (first | (with_reducible first | exact HB.out | apply below_alloc | apply pw_below_drewN | apply below_drew1) | exact HB.out)) hb); clear HO_3; clear HB; have HO_3 := n0_; have HO240 := n1_; have HB := n2_; clear n0_ n1_ n2_; (try clear hb); (try clear hb2); (try clear hk); (try clear hi); (try clear ho0)) | ((with_reducible refine gate_dst (N := 58) rfl ?_); (try (refine gate_guard (by rfl) ?_; dsimp only)); refine Kd.R_lit k29 _ 29 ?hg (N := 58) ?hd (xs := ([] : List (S29))) (inner := []) (ok := fun _ => True) (okp := fun _ => True) ?hr ?hp (fun _ hk => hk) trivial (Below.refl _ _) (Nat.le_refl _) (by simp) ?_; (case hd => rfl); (case hg => rfl); (case hr => first | (go_simp; done) | (go_simp; rfl)); (case hp => exact (Reps.none _ _)); intro v242 w23 ho24 hb hg_ hnew_; clear hg_ hnew_; (first | rw [← Ny241.out] at ho24 | (simp only [Int.reduceToNat] at ho24; rw [← Ny241.out] at ho24)); have n0_ := Aside0.mk (Kd.R_elder' (by (with_reducible repeat (first | apply Kd.R_alloc | apply Kd.R_drewN | apply Kd.R_drew)); exact HO_3.out) (Kd.R_base ho24) hb); have n1_ := Aside0.mk (Kd.R_below (by (with_reducible repeat (first | apply Kd.R_alloc | apply Kd.R_drewN | apply Kd.R_drew)); exact HO240.out) hb); have n2_ := Aside0.mk (Kd.R_lower (Kd.R_new' ho24 (Kd.R_lt (by (with_reducible repeat (first | apply Kd.R_alloc | apply Kd.R_drewN | apply Kd.R_drew)); exact HO_3.out))) (below_size (by repeat (first | (with_reducible first | exact HB.out | apply below_alloc | apply pw_below_drewN | apply below_drew1) | exact HB.out)))); have n3_ := Aside0.mk (below_step (by repeat (first | (with_reducible first | exact HB.out | apply below_alloc | apply pw_below_drewN | apply below_drew1) | exact HB.out)) hb); clear HO_3; clear HO240; clear HB; have HO_3 := n0_; have HO240 := n1_; have HO243 := n2_; have HB := n3_; clear n0_ n1_ n2_ n3_; clear hb ho24; obtain ⟨Ao25, co25, eo25⟩ := Kd.R_slice HO243.out; subst eo25) | (go_at_call 6; (with_reducible refine (impl_SingMany.calls k2 _ _ y241 t244 _ ?side1 ?side2 A21.out (ht := HT.out.below (by repeat (first | (with_reducible first | exact HB.out | apply below_alloc | apply pw_below_drewN | apply below_drew1) | exact HB.out)))).mono ?_); (case side1 => repeat (first | exact (Kd.R_reads' HO243.out).2.2 | (with_reducible refine Kd.C_alloc ?_ _) | (with_reducible refine Kd.C_drewN ?_ _) | (with_reducible refine Kd.C_drew ?_))); (case side2 => exact (Kd.R_reads' HO243.out).2.1); rintro e w26 ⟨rfl, hb⟩; have n0_ := Aside0.mk (Kd.R_below (by (with_reducible repeat (first | apply Kd.R_alloc | apply Kd.R_drewN | apply Kd.R_drew)); exact HO_3.out) hb); have n1_ := Aside0.mk (Kd.R_below (by (with_reducible repeat (first | apply Kd.R_alloc | apply Kd.R_drewN | apply Kd.R_drew)); exact HO240.out) hb); have n2_ := Aside0.mk (Kd.R_below (by (with_reducible repeat (first | apply Kd.R_alloc | apply Kd.R_drewN | apply Kd.R_drew)); exact HO243.out) hb); have n3_ := Aside0.mk (below_step (by repeat (first | (with_reducible first | exact HB.out | apply below_alloc | apply pw_below_drewN | apply below_drew1) | exact HB.out)) hb); clear HO_3; clear HO240; clear HO243; clear HB; have HO_3 := n0_; have HO240 := n1_; have HO243 := n2_; have HB := n3_; clear n0_ n1_ n2_ n3_; (try clear hb); (try clear hb2); (try clear hk); (try clear hi)))
          go_ret
          exact ⟨by first | rfl | (simp [errW_none, errW_some] <;> rfl) | (simp [*, errW_none, errW_some] <;> rfl), by repeat (first | (with_reducible first | exact HB.out | apply below_alloc | apply pw_below_drewN | apply below_drew1) | exact HB.out)⟩
         ·
          rw [if_neg c20] at H; have c20b0 : ((decide (t231 > 0)) == t238) = false := by simpa using c20
          (try (have c20b1 : decide ((decide (t231 > 0)) = t238) = false := by simpa using c20))
          (try (have c20b2 : ((decide (t231 > 0)) == t238) = false := by simpa using c20))
          (try (have c20b3 : ¬ ((decide (t231 > 0)) = t238) := by simpa using c20))
          clear c20; obtain rfl := Option.some.inj H; go_wp2_with (first | ((with_reducible refine gate_callee (f := 9) rfl ?_); refine goesL_ (some 45) rfl rfl Tryd.func9 (by kernel_rfl) rfl #[.slice Ao8 t228.length co8] rfl (by (try simp only [List.map_toArray, List.map_cons, List.map_nil]); first | done | rfl | (simp only [List.length_drop, List.length_take]; rfl)) ?_; (with_reducible refine (impl_SingBest.calls _ _ t228 t237 t238 _ ?side1 ?side2 A18.out (ht := HT.out.below (by repeat (first | (with_reducible first | exact HB.out | apply below_alloc | apply pw_below_drewN | apply below_drew1) | exact HB.out)))).mono ?_); (case side1 => repeat (first | exact (Kd.R_reads' HO_3.out).2.2 | (with_reducible refine Kd.C_alloc ?_ _) | (with_reducible refine Kd.C_drewN ?_ _) | (with_reducible refine Kd.C_drew ?_))); (case side2 => exact (Kd.R_reads' HO_3.out).2.1); rintro e w27 ⟨v239, rfl, ho0, hb⟩; refine ⟨_, rfl, ?_⟩; have n0_ := Aside0.mk (Kd.R_below (by (with_reducible repeat (first | apply Kd.R_alloc | apply Kd.R_drewN | apply Kd.R_drew)); exact HO_3.out) hb); have n1_ := Aside0.mk (Kd.R_lower ho0 (below_size (by repeat (first | (with_reducible first | exact HB.out | apply below_alloc | apply pw_below_drewN | apply below_drew1) | exact HB.out)))); have n2_ := Aside0.mk (below_step (by repeat (first | (with_reducible first | exact HB.out | apply below_alloc | apply pw_below_drewN | apply below_drew1) | exact HB.out)) hb); clear HO_3; clear HB; have HO_3 := n0_; have HO240 := n1_; have HB := n2_; clear n0_ n1_ n2_; (try clear hb); (try clear hb2); (try clear hk); (try clear hi); (try clear ho0)))
          go_ret
          exact ⟨by first | rfl | (simp [errW_none, errW_some] <;> rfl) | (simp [*, errW_none, errW_some] <;> rfl), by repeat (first | (with_reducible first | exact HB.out | apply below_alloc | apply pw_below_drewN | apply below_drew1) | exact HB.out)⟩
        ·
         rw [if_neg c19] at H; have c19b0 : (x6_2 == t231) = false := beq_eq_false_iff_ne.mpr c19; have c19b1 : (x6_2 != t231) = true := bne_iff_ne.mpr c19; obtain rfl := Option.some.inj H; go_wp2_with (first | ((with_reducible refine gate_callee (f := 9) rfl ?_); refine goesL_ (some 45) rfl rfl Tryd.func9 (by kernel_rfl) rfl #[.slice Ao8 t228.length co8] rfl (by (try simp only [List.map_toArray, List.map_cons, List.map_nil]); first | done | rfl | (simp only [List.length_drop, List.length_take]; rfl)) ?_; (with_reducible refine (impl_SingBest.calls _ _ t228 t237 t238 _ ?side1 ?side2 A18.out (ht := HT.out.below (by repeat (first | (with_reducible first | exact HB.out | apply below_alloc | apply pw_below_drewN | apply below_drew1) | exact HB.out)))).mono ?_); (case side1 => repeat (first | exact (Kd.R_reads' HO_3.out).2.2 | (with_reducible refine Kd.C_alloc ?_ _) | (with_reducible refine Kd.C_drewN ?_ _) | (with_reducible refine Kd.C_drew ?_))); (case side2 => exact (Kd.R_reads' HO_3.out).2.1); rintro e w28 ⟨v239, rfl, ho0, hb⟩; refine ⟨_, rfl, ?_⟩; have n0_ := Aside0.mk (Kd.R_below (by (with_reducible repeat (first | apply Kd.R_alloc | apply Kd.R_drewN | apply Kd.R_drew)); exact HO_3.out) hb); have n1_ := Aside0.mk (Kd.R_lower ho0 (below_size (by repeat (first | (with_reducible first | exact HB.out | apply below_alloc | apply pw_below_drewN | apply below_drew1) | exact HB.out)))); have n2_ := Aside0.mk (below_step (by repeat (first | (with_reducible first | exact HB.out | apply below_alloc | apply pw_below_drewN | apply below_drew1) | exact HB.out)) hb); clear HO_3; clear HB; have HO_3 := n0_; have HO240 := n1_; have HB := n2_; clear n0_ n1_ n2_; (try clear hb); (try clear hb2); (try clear hk); (try clear hi); (try clear ho0)))
         go_ret
         exact ⟨by first | rfl | (simp [errW_none, errW_some] <;> rfl) | (simp [*, errW_none, errW_some] <;> rfl), by repeat (first | (with_reducible first | exact HB.out | apply below_alloc | apply pw_below_drewN | apply below_drew1) | exact HB.out)⟩

end Go.Proofs.YtiagfjbngpbejaaDoor.PFnSingMany
namespace Go.Proofs.YtiagfjbngpbejaaDoor.Pure
set_option linter.unusedVariables false
set_option linter.unusedSimpArgs false
open Go Go.RowKit Go.Proofs.YtiagfjbngpbejaaDoor.PFnSingMany Go.Proofs.YtiagfjbngpbejaaDoorW.PrintWords Go.Proofs.YtiagfjbngpbejaaDoorW.PrintLast Go.Proofs.YtiagfjbngpbejaaDoorW.PrintMore

theorem spec_l6In_eq (a b c : Int) : spec_l6In.f a b c = some (decide (b ≤ a ∧ a ≤ c)) := by
 unfold spec_l6In.f
 by_cases h : a ≥ b
 ·
  rw [if_pos h]; simp [show b ≤ a from h]
 ·
  rw [if_neg h]; simp [show ¬ b ≤ a from h]

theorem spec_ToneValid_eq (a : Int) (b : Bool) : spec_ToneValid.f a b = some (toneOk ⟨a, b⟩) := by
 unfold spec_ToneValid.f toneOk
 rw [spec_l6In_eq]
 by_cases h : 0 ≤ a ∧ a ≤ 20
 ·
  cases b <;> simp [h, spec_l1Letter.f]
 ·
  simp [h]
theorem spec_MelodyValid_ev (m : List S29) (hm : m.length ≤ 1000000000000) : Ev (fun k => spec_MelodyValid.f k m) (melOk m) := by
 unfold spec_MelodyValid.f
 have := Ev.over z29 m (fun k (_ : Unit) i => spec_MelodyValid.l0 k m i) (fun _ l => l.all toneOk && decide (m.length ≤ 24)) (fun _ _ => True) (by
  intro s _
  refine Ev.succ ?_
  simp only [spec_MelodyValid.l0]
  refine Ev.eqr (Ev.neg (by omega) (Ev.now _)) ?_
  simp; omega) (by
  intro s i rest _ hi _ ih
  refine Ev.succ ?_
  simp only [spec_MelodyValid.l0]
  refine Ev.pos (by omega) (Ev.pos (by omega) (Ev.conb (spec_ToneValid_eq _ _) ?_))
  show Ev _ (toneOk (rd_T29 m i) && _ && _)
  cases ht : toneOk (rd_T29 m i)
  ·
   exact Ev.neg (by simp [ht]) (Ev.now _)
  ·
   refine Ev.pos (by simp [ht]) ?_
   rw [w64 (by omega) (by omega)]
   simpa using ih () trivial) 0 () (Nat.zero_le _) trivial
 refine Ev.eqr (by simpa using this) ?_
 unfold melOk
 rw [Bool.and_comm]

def hexBrute (p : S29 → Bool) : Bool := (List.range 21).all fun i => p ⟨i, false⟩ && p ⟨i, true⟩
theorem hexBrute_ok {p : S29 → Bool} (h : hexBrute p = true) {a : S29} (ha : toneOk a = true) : p a = true := by
 have b1 : 0 ≤ a.f0 ∧ a.f0 ≤ 20 := by
  unfold toneOk at ha
  simp only [Bool.and_eq_true, decide_eq_true_eq] at ha
  exact ha.1
 obtain ⟨x, s⟩ := a
 obtain ⟨i, rfl⟩ := Int.eq_ofNat_of_zero_le b1.1
 have b1 : (0 : Int) ≤ (i : Int) ∧ (i : Int) ≤ 20 := b1
 unfold hexBrute at h
 have h1 := List.all_eq_true.1 h i (List.mem_range.2 (by omega))
 simp only [Bool.and_eq_true] at h1
 cases s
 ·
  exact h1.1
 ·
  exact h1.2
def hexP1 (t : S29) : Bool := !(toneOk t) || (decide (spec_HexAll.f 40 t.f0 t.f1 = some (hexAll t)) && decide ((hexAll t).length ≤ 3))
theorem hexP1_holds : hexBrute hexP1 = true := by kernel_rfl
theorem hexP1_at {t : S29} (ht : toneOk t = true) : spec_HexAll.f 40 t.f0 t.f1 = some (hexAll t) ∧ (hexAll t).length ≤ 3 := by
 have h := hexBrute_ok hexP1_holds ht
 unfold hexP1 at h
 rw [ht] at h
 simp only [Bool.not_true, Bool.false_or, Bool.and_eq_true, decide_eq_true_eq] at h
 exact h
theorem spec_HexAll_ev (t : S29) (ht : toneOk t = true) : Ev (fun k => spec_HexAll.f k t.f0 t.f1) (hexAll t) := Ev.of (spec_HexAll.mono _ _) (hexP1_at ht).1

structure Code (s : List Int) : Prop where
 b : ∀ x ∈ s, 0 ≤ x ∧ x ≤ 255
 l : s.length ≤ 2000
theorem open_ev (l0 : List Int) (hw : ∀ x ∈ l0, (Lit.int .u8 x).wf = true) : ∃ s, spec_l6Open.f l0 = some (s, 0) ∧ Code s := by
 have hb : ∀ x ∈ l0, 0 ≤ x ∧ x ≤ 255 := by
  intro x hx
  have := hw x hx
  have e1 : IntKind.u8.min = 0 := by decide
  have e2 : IntKind.u8.max = 255 := by decide
  simp only [Lit.wf, e1, e2] at this
  simpa using this
 unfold spec_l6Open.f
 by_cases h : (l0.length : Int) > 2000
 ·
  refine ⟨l0.take 2000, by rw [if_pos h, if_pos (by omega)], ⟨fun x hx => hb x (List.mem_of_mem_take hx), by rw [List.length_take]; omega⟩⟩
 ·
  exact ⟨l0, by rw [if_neg h], ⟨hb, by omega⟩⟩
theorem pick_ev {s : List Int} (hc : Code s) (p n : Int) (hp : 0 ≤ p) (hp' : p ≤ 1000000000) :
 Evx (fun k => spec_l6Rd_pick.f k s p n) (fun r => 0 ≤ r.1 ∧ (r.1 < n ∨ r.1 = 0) ∧ r.2 = p + 1) := by
 have hw : wrap64 (p + 1) = p + 1 := w64 (by omega) (by omega)
 have hw' : wrap64 (p + 1 - 1) = p := by rw [w64 (by omega) (by omega)]; omega
 have hl := hc.l
 unfold spec_l6Rd_pick.f
 rw [hw]
 by_cases hn : n < 1
 ·
  refine Evx.pos hn (Evx.succ ?_)
  simp only [spec_l6Rd_pick.j0, if_true]
  exact Evx.now ⟨by simp, by simp, rfl⟩
 ·
  refine Evx.neg hn (Evx.succ ?_)
  have tm : ∀ x : Int, 0 ≤ x → 0 ≤ Int.tmod x n ∧ Int.tmod x n < n := fun x hx => ⟨Int.tmod_nonneg n hx, Int.tmod_lt_of_pos x (by omega)⟩
  by_cases h0 : s.length = 0
  ·
   have e : ((s.length : Int) == 0) = true := by simp [h0]
   simp only [spec_l6Rd_pick.j0, e, if_true]
   exact Evx.now ⟨by simp, by simp, rfl⟩
  ·
   have e : ((s.length : Int) == 0) = false := by rw [beq_eq_false_iff_ne]; omega
   simp only [spec_l6Rd_pick.j0, e, hw']
   refine Evx.neg (by simp) ?_
   by_cases hlt : p < (s.length : Int)
   ·
    refine Evx.pos hlt (Evx.pos hp (Evx.neg (by omega) (Evx.now ?_)))
    have hb := rd_bd hc.b p
    rw [w64 (x := rd s p) (by omega) (by omega)]
    have := tm (rd s p) hb.1
    exact ⟨this.1, .inl this.2, rfl⟩
   ·
    refine Evx.neg hlt (Evx.neg (by omega) ?_)
    have t1 : 0 ≤ Int.tmod p s.length := Int.tmod_nonneg _ hp
    have t1' : Int.tmod p s.length < s.length := Int.tmod_lt_of_pos p (by omega)
    rw [w64 (x := p * 7) (by omega) (by omega), w64 (x := p * 7 + 3) (by omega) (by omega)]
    have t2 : 0 ≤ Int.tmod (p * 7 + 3) s.length := Int.tmod_nonneg _ (by omega)
    have t2' : Int.tmod (p * 7 + 3) s.length < s.length := Int.tmod_lt_of_pos _ (by omega)
    refine Evx.pos t1 (Evx.pos t1' (Evx.pos t2 (Evx.pos t2' (Evx.neg (by omega) (Evx.now ?_)))))
    have hb1 := rd_bd hc.b (Int.tmod p s.length)
    have hb2 := rd_bd hc.b (Int.tmod (p * 7 + 3) s.length)
    have hd : 0 ≤ Int.tdiv p s.length ∧ Int.tdiv p s.length ≤ p := by
     rw [Int.tdiv_eq_ediv_of_nonneg hp]
     exact ⟨Int.ediv_nonneg hp (by omega), Int.ediv_le_self _ hp⟩
    generalize rd s (Int.tmod p s.length) = a at *
    generalize rd s (Int.tmod (p * 7 + 3) s.length) = b at *
    generalize Int.tdiv p s.length = c at *
    obtain ⟨X, hX, hX0, hX1⟩ : ∃ X : Int, wrap64 (wrap64 (wrap64 (wrap64 (wrap64 a * 131) + wrap64 (wrap64 b * 1117)) + wrap64 (p * 29)) + wrap64 (wrap64 c * 53)) = X ∧ 0 ≤ X ∧ X < 1000000000000 := by
     refine ⟨a * 131 + b * 1117 + p * 29 + c * 53, ?_, by omega, by omega⟩
     rw [w64 (x := a) (by omega) (by omega), w64 (x := b) (by omega) (by omega), w64 (x := c) (by omega) (by omega), w64 (x := a * 131) (by omega) (by omega), w64 (x := b * 1117) (by omega) (by omega), w64 (x := p * 29) (by omega) (by omega), w64 (x := c * 53) (by omega) (by omega), w64 (x := a * 131 + b * 1117) (by omega) (by omega), w64 (x := a * 131 + b * 1117 + p * 29) (by omega) (by omega), w64 (by omega) (by omega)]
    rw [hX]
    have hq : 0 ≤ Int.tdiv X 64 ∧ Int.tdiv X 64 ≤ X := by
     rw [Int.tdiv_eq_ediv_of_nonneg hX0]; omega
    rw [w64 (x := Int.tdiv X 64) (by omega) (by omega)]
    have := tm _ (xor_bd X (Int.tdiv X 64) hX0 (by omega) hq.1 (by omega))
    exact ⟨this.1, .inl this.2, rfl⟩

theorem drawMelody_loop {s : List Int} (hc : Code s) (n : Int) (hn : n ≤ 1000) (d : Nat) : ∀ (acc : List S29) (step p : Int), (acc.length : Int) + d = n → (∀ t ∈ acc, -1 ≤ t.f0 ∧ t.f0 ≤ 21) → 1 ≤ step → step ≤ 15 → 0 ≤ p → p + 2 * d ≤ 100000000 →
 Evx (fun k => spec_l91Melody.l0 k acc n step acc.length s p) (fun r => (r.1.length : Int) = n ∧ p ≤ r.2 ∧ r.2 ≤ p + 2 * d + 2 ∧ ∀ t ∈ r.1, -1 ≤ t.f0 ∧ t.f0 ≤ 21) := by
 induction d with
 | zero =>
  intro acc step p hl ha h1 h2 hp hp'
  refine Evx.succ ?_
  simp only [spec_l91Melody.l0]
  refine Evx.neg (by omega) (Evx.ite (fun hpos => ?_) (fun _ => Evx.now ⟨(by (try simp only [List.length_set, List.length_drop, List.length_take, List.length_append, List.length_cons, List.length_nil, Int.natCast_add, Int.natCast_one, Int.natCast_zero] at *); omega), (by (try simp only [List.length_set, List.length_drop, List.length_take, List.length_append, List.length_cons, List.length_nil, Int.natCast_add, Int.natCast_one, Int.natCast_zero] at *); omega), (by (try simp only [List.length_set, List.length_drop, List.length_take, List.length_append, List.length_cons, List.length_nil, Int.natCast_add, Int.natCast_one, Int.natCast_zero] at *); omega), ha⟩))
  refine Evx.bind (pick_ev hc p 50 hp (by omega)) ?_
  rintro ⟨r, q⟩ ⟨hr0, hr1, rfl⟩
  refine Evx.ite (fun e => ?_) (fun e => Evx.ite (fun e1 => ?_) (fun _ => Evx.now ⟨(by (try simp only [List.length_set, List.length_drop, List.length_take, List.length_append, List.length_cons, List.length_nil, Int.natCast_add, Int.natCast_one, Int.natCast_zero] at *); omega), (by (try simp only [List.length_set, List.length_drop, List.length_take, List.length_append, List.length_cons, List.length_nil, Int.natCast_add, Int.natCast_one, Int.natCast_zero] at *); omega), (by (try simp only [List.length_set, List.length_drop, List.length_take, List.length_append, List.length_cons, List.length_nil, Int.natCast_add, Int.natCast_one, Int.natCast_zero] at *); omega), ha⟩))
  ·
   refine Evx.someb (Evx.bind (pick_ev hc (p + 1) 3 (by omega) (by omega)) ?_)
   rintro ⟨u, q⟩ ⟨hu0, hu1, rfl⟩
   have hu0 : 0 ≤ u := hu0
   have hu1 : u < 3 ∨ u = 0 := hu1
   refine Evx.pos hu0 (Evx.pos (by (try simp only [List.length_set, List.length_drop, List.length_take, List.length_append, List.length_cons, List.length_nil, Int.natCast_add, Int.natCast_one, Int.natCast_zero] at *); omega) (Evx.pos (by omega) (Evx.now ⟨(by (try simp only [List.length_set, List.length_drop, List.length_take, List.length_append, List.length_cons, List.length_nil, Int.natCast_add, Int.natCast_one, Int.natCast_zero] at *); omega), (by (try simp only [List.length_set, List.length_drop, List.length_take, List.length_append, List.length_cons, List.length_nil, Int.natCast_add, Int.natCast_one, Int.natCast_zero] at *); omega), (by (try simp only [List.length_set, List.length_drop, List.length_take, List.length_append, List.length_cons, List.length_nil, Int.natCast_add, Int.natCast_one, Int.natCast_zero] at *); omega), ?_⟩)))
   refine mem_set_of ha _ _ ?_
   have : u = 0 ∨ u = 1 ∨ u = 2 := by omega
   rcases this with rfl | rfl | rfl <;> simp [rd]
  ·
   rw [w64 (by omega) (by omega)]
   refine Evx.pos (by omega) (Evx.pos (by omega) (Evx.now ⟨(by (try simp only [List.length_set, List.length_drop, List.length_take, List.length_append, List.length_cons, List.length_nil, Int.natCast_add, Int.natCast_one, Int.natCast_zero] at *); omega), (by (try simp only [List.length_set, List.length_drop, List.length_take, List.length_append, List.length_cons, List.length_nil, Int.natCast_add, Int.natCast_one, Int.natCast_zero] at *); omega), (by (try simp only [List.length_set, List.length_drop, List.length_take, List.length_append, List.length_cons, List.length_nil, Int.natCast_add, Int.natCast_one, Int.natCast_zero] at *); omega), ?_⟩))
   refine mem_set_of ha _ _ ?_
   have hlt : (n - 1).toNat < acc.length := by omega
   show -1 ≤ (rd_T29 acc (n - 1)).f0 ∧ (rd_T29 acc (n - 1)).f0 ≤ 21
   unfold rd_T29
   rw [List.getD_eq_getElem?_getD, List.getElem?_eq_getElem hlt]
   exact ha _ (List.getElem_mem hlt)
 | succ d ih =>
  intro acc step p hl ha h1 h2 hp hp'
  refine Evx.succ ?_
  simp only [spec_l91Melody.l0]
  have wl : wrap64 ((acc.length : Int) + 1) = (acc.length : Int) + 1 := w64 (by omega) (by omega)
  have stepok : ∀ u : Int, 0 ≤ u → u < 5 ∨ u = 0 → 1 ≤ mx 1 (mn 15 (wrap64 (wrap64 (step + u) - 2))) ∧ mx 1 (mn 15 (wrap64 (wrap64 (step + u) - 2))) ≤ 15 := by
   intro u hu hu'
   rw [w64 (x := step + u) (by omega) (by omega), w64 (by omega) (by omega)]
   have a := mn_le 15 (step + u - 2)
   have b := mx_le 1 (mn 15 (step + u - 2))
   omega
  refine Evx.pos (by omega) (Evx.someb (Evx.ite (fun _ => ?_) (fun _ => ?_)))
  ·
   refine Evx.bind (pick_ev hc p 3 hp (by omega)) ?_
   rintro ⟨r, q⟩ ⟨hr0, hr1, rfl⟩
   refine Evx.pos (by omega) (Evx.bind (pick_ev hc (p + 1) 5 (by omega) (by omega)) ?_)
   rintro ⟨u, q⟩ ⟨hu0, hu1, rfl⟩
   have so := stepok u hu0 hu1
   have := ih (acc ++ [⟨step, r == 0⟩]) _ (p + 1 + 1) (by (try simp only [List.length_set, List.length_drop, List.length_take, List.length_append, List.length_cons, List.length_nil, Int.natCast_add, Int.natCast_one, Int.natCast_zero] at *); omega) (by
    intro t ht
    rcases List.mem_append.1 ht with ht | ht
    ·
     exact ha t ht
    ·
     obtain rfl := List.mem_singleton.1 ht; exact ⟨(by (try simp only [List.length_set, List.length_drop, List.length_take, List.length_append, List.length_cons, List.length_nil, Int.natCast_add, Int.natCast_one, Int.natCast_zero] at *); omega), (by (try simp only [List.length_set, List.length_drop, List.length_take, List.length_append, List.length_cons, List.length_nil, Int.natCast_add, Int.natCast_one, Int.natCast_zero] at *); omega)⟩) so.1 so.2 (by omega) (by omega)
   simp only [List.length_append, List.length_singleton, Int.natCast_add, Int.natCast_one] at this
   rw [wl]
   exact this.mono (by rintro ⟨m, q⟩ ⟨e1, e2, e3, e4⟩; exact ⟨e1, (by (try simp only [List.length_set, List.length_drop, List.length_take, List.length_append, List.length_cons, List.length_nil, Int.natCast_add, Int.natCast_one, Int.natCast_zero] at *); omega), (by (try simp only [List.length_set, List.length_drop, List.length_take, List.length_append, List.length_cons, List.length_nil, Int.natCast_add, Int.natCast_one, Int.natCast_zero] at *); omega), e4⟩)
  ·
   refine Evx.pos (by omega) (Evx.bind (pick_ev hc p 5 (by omega) (by omega)) ?_)
   rintro ⟨u, q⟩ ⟨hu0, hu1, rfl⟩
   have so := stepok u hu0 hu1
   have := ih (acc ++ [⟨step, false⟩]) _ (p + 1) (by (try simp only [List.length_set, List.length_drop, List.length_take, List.length_append, List.length_cons, List.length_nil, Int.natCast_add, Int.natCast_one, Int.natCast_zero] at *); omega) (by
    intro t ht
    rcases List.mem_append.1 ht with ht | ht
    ·
     exact ha t ht
    ·
     obtain rfl := List.mem_singleton.1 ht; exact ⟨(by (try simp only [List.length_set, List.length_drop, List.length_take, List.length_append, List.length_cons, List.length_nil, Int.natCast_add, Int.natCast_one, Int.natCast_zero] at *); omega), (by (try simp only [List.length_set, List.length_drop, List.length_take, List.length_append, List.length_cons, List.length_nil, Int.natCast_add, Int.natCast_one, Int.natCast_zero] at *); omega)⟩) so.1 so.2 (by omega) (by omega)
   simp only [List.length_append, List.length_singleton, Int.natCast_add, Int.natCast_one] at this
   rw [wl]
   exact this.mono (by rintro ⟨m, q⟩ ⟨e1, e2, e3, e4⟩; exact ⟨e1, (by (try simp only [List.length_set, List.length_drop, List.length_take, List.length_append, List.length_cons, List.length_nil, Int.natCast_add, Int.natCast_one, Int.natCast_zero] at *); omega), (by (try simp only [List.length_set, List.length_drop, List.length_take, List.length_append, List.length_cons, List.length_nil, Int.natCast_add, Int.natCast_one, Int.natCast_zero] at *); omega), e4⟩)
theorem drawMelody_ev {s : List Int} (hc : Code s) (p top : Int) (hp : 0 ≤ p) (hp' : p ≤ 1000000) (hm : 0 ≤ top) (hm' : top ≤ 500) :
 Evx (fun k => spec_l91Melody.f k s p top) (fun r => (r.1.length : Int) ≤ top ∧ p ≤ r.2 ∧ r.2 ≤ p + 2000 ∧ ∀ t ∈ r.1, -1 ≤ t.f0 ∧ t.f0 ≤ 21) := by
 unfold spec_l91Melody.f
 rw [w64 (x := top + 1) (by omega) (by omega)]
 refine Evx.bind (pick_ev hc p (top + 1) hp (by omega)) ?_
 rintro ⟨n, q⟩ ⟨hn0, hn1, rfl⟩
 have hn0 : 0 ≤ n := hn0
 have hn1 : n < top + 1 ∨ n = 0 := hn1
 refine Evx.bind (pick_ev hc (p + 1) 5 (by omega) (by omega)) ?_
 rintro ⟨u, q⟩ ⟨hu0, hu1, rfl⟩
 have hu0 : 0 ≤ u := hu0
 have hu1 : u < 5 ∨ u = 0 := hu1
 have := drawMelody_loop hc n (by omega) n.toNat [] (wrap64 (4 + u)) (p + 1 + 1) (by (try simp only [List.length_set, List.length_drop, List.length_take, List.length_append, List.length_cons, List.length_nil, Int.natCast_add, Int.natCast_one, Int.natCast_zero] at *); omega) (by simp) (by rw [w64 (by omega) (by omega)]; omega) (by rw [w64 (by omega) (by omega)]; omega) (by omega) (by omega)
 exact this.mono (by rintro ⟨m, q⟩ ⟨e1, e2, e3, e4⟩; exact ⟨(by (try simp only [List.length_set, List.length_drop, List.length_take, List.length_append, List.length_cons, List.length_nil, Int.natCast_add, Int.natCast_one, Int.natCast_zero] at *); omega), (by (try simp only [List.length_set, List.length_drop, List.length_take, List.length_append, List.length_cons, List.length_nil, Int.natCast_add, Int.natCast_one, Int.natCast_zero] at *); omega), (by (try simp only [List.length_set, List.length_drop, List.length_take, List.length_append, List.length_cons, List.length_nil, Int.natCast_add, Int.natCast_one, Int.natCast_zero] at *); omega), e4⟩)

end Go.Proofs.YtiagfjbngpbejaaDoor.Pure
namespace Go.Proofs.YtiagfjbngpbejaaDoor.Pure
set_option linter.unusedVariables false
set_option linter.unusedSimpArgs false
open Go Go.RowKit Go.Proofs.YtiagfjbngpbejaaDoor.PFnSingMany Go.Proofs.YtiagfjbngpbejaaDoorW.PrintWords Go.Proofs.YtiagfjbngpbejaaDoorW.PrintLast Go.Proofs.YtiagfjbngpbejaaDoorW.PrintMore

theorem spec_SingMany_ev (m : List S29) (hm : m.length ≤ 1000000000000) : Ev (fun k => spec_SingMany.f k m) (sMany m) := by
 unfold spec_SingMany.f sMany
 refine Ev.bind (spec_MelodyValid_ev m hm) ?_
 by_cases hok : melOk m = true
 ·
  have hall : ∀ t ∈ m, toneOk t = true := by
   unfold melOk at hok
   rw [Bool.and_eq_true] at hok
   exact List.all_eq_true.1 hok.2
  rw [if_pos hok]
  refine Ev.pos hok ?_
  have := Ev.over z29 m (fun k (x : Int) i => spec_SingMany.l0 k m x i) (fun x rest => sProd x rest) (fun _ _ => True) (by
   intro x _
   refine Ev.succ ?_
   simp only [spec_SingMany.l0]
   exact Ev.neg (by omega) (Ev.now _)) (by
   rintro x i rest _ hi hdr ih
   refine Ev.succ ?_
   simp only [spec_SingMany.l0]
   rw [w64 (x := (i : Int) + 1) (by omega) (by omega)]
   have hmem : rd_T29 m (i : Int) ∈ m := by
    unfold rd_T29
    rw [Int.toNat_natCast, List.getD_eq_getElem?_getD, List.getElem?_eq_getElem hi]
    exact List.getElem_mem _
   refine Ev.pos (by omega) (Ev.pos (by omega) (Ev.bind (spec_HexAll_ev _ (hall _ hmem)) ?_))
   exact ih _ trivial) 0 1 (Nat.zero_le _) trivial
  simpa using this
 ·
  rw [if_neg hok]
  exact Ev.neg hok (Ev.now _)
theorem drawSingMany_ev (l0 : List Int) (hw : ∀ x ∈ l0, (Lit.int .u8 x).wf = true) : ∃ m : List S29, Ev (fun n => spec_DrawSingMany.f n l0) m ∧ m.length ≤ 600 := by
 obtain ⟨s, ho, hc⟩ := open_ev l0 hw
 suffices h : Evx (fun n => spec_DrawSingMany.f n l0) (fun r => r.length ≤ 600) by
  obtain ⟨m, h1, h2⟩ := h
  exact ⟨m, h1, h2⟩
 unfold spec_DrawSingMany.f
 refine Evx.conb ho ?_
 refine Evx.bind (drawMelody_ev hc 0 10 (by omega) (by omega) (by omega) (by omega)) ?_
 rintro ⟨m, q⟩ ⟨h1, _, _, _⟩
 have h1 : (m.length : Int) ≤ 10 := h1
 exact Evx.now (by show m.length ≤ 600; omega)
theorem FnSingMany_core (l0 : List Int) (hm0 : l0.length ≤ maxLen) (hw : ∀ x ∈ l0, (Lit.int .u8 x).wf = true) : ∃ k, laws_FnSingMany.f k l0 = some true := by
 unfold maxLen at hm0
 have key : Ev (fun k => laws_FnSingMany.f k l0) true := by
  unfold laws_FnSingMany.f
  by_cases hb : (l0.length : Int) > 1048576
  ·
   exact Ev.pos hb (Ev.now _)
  refine Ev.neg hb ?_
  obtain ⟨m, hd, hm⟩ := drawSingMany_ev l0 hw
  refine Ev.bind hd (Ev.bind (impl_SingMany_ev m) (Ev.bind (spec_SingMany_ev m (by omega)) (Ev.pos rfl (Ev.succ ?_))))
  simp only [laws_FnSingMany.j0]
  by_cases h0 : sMany m < 0
  ·
   exact Ev.pos (by simpa using h0) (Ev.eqr (Ev.now _) (by simp))
  refine Ev.neg (by simpa using h0) ?_
  have hp : sMany m = sProd 1 m := by
   unfold sMany at h0 ⊢
   split
   ·
    rfl
   ·
    rename_i h1
    rw [if_neg h1] at h0
    exact absurd (by decide) h0
  have := Ev.over z29 m (fun k (x : Int) i => laws_FnSingMany.l0 k m (sMany m) x i) (fun _ _ => true) (fun i x => sProd x (m.drop i) = sMany m) (by
   intro x hx
   rw [List.drop_length] at hx
   have hx : x = sMany m := hx
   refine Ev.succ ?_
   simp only [laws_FnSingMany.l0]
   refine Ev.neg (by omega) (Ev.conb (show impl_SingBest.f m = some (sBest m) from rfl) (Ev.pos hx (Ev.pos ?_ ?_)))
   ·
    unfold sBest
    by_cases h : 0 < sMany m
    ·
     rw [if_pos h, decide_eq_true (show sMany m > 0 from h)]
     rfl
    ·
     rw [if_neg h, decide_eq_false (show ¬ sMany m > 0 from h)]
     rfl
   ·
    exact Ev.bind (impl_SingMany_ev []) (Ev.eqr (Ev.now _) rfl)) (by
   rintro x i rest hx hi hdr ih
   refine Ev.succ ?_
   simp only [laws_FnSingMany.l0]
   rw [w64 (x := (i : Int) + 1) (by omega) (by omega)]
   refine Ev.pos (by omega) (Ev.pos (by omega) (Ev.conb rfl ?_))
   refine ih _ ?_
   rw [hdr] at hx
   have hr : rest = m.drop (i + 1) := by
    have h2 := List.drop_eq_getElem_cons hi
    rw [hdr] at h2
    injection h2
   rw [← hr]
   exact hx) 0 1 (Nat.zero_le _) (by rw [List.drop_zero]; exact hp.symm)
  simpa using this
 exact Ev.rounds key
theorem FnSingMany_walk (l0 : List Int) (A0 : Option Addr) (c0 : Nat) (w : World) (ht : NTab w) (hr0 : Kd.C (Kd.int .u8) w A0 l0.length l0) (hc0 : l0.length ≤ c0) (hw0 : ∀ x ∈ l0, (Lit.int .u8 x).wf = true) (hm0 : l0.length ≤ maxLen) :
 Calls Tryd.prog 3 #[.slice A0 l0.length c0] w fun e w' => e = .returned (.bool true) ∧ Below w.heap.size w w' := by
 obtain ⟨k, h⟩ := FnSingMany_core l0 hm0 hw0
 exact laws_FnSingMany.calls k A0 c0 l0 true w ht hr0 hc0 h

def Opn {α : Type} (P : Program) (t : TypeId) (d : Kd α) (ok : α → Prop) : Prop :=
 P.cellsOf t = d.sz ∧ ∀ {H : Type} (enc : TypeId × Value → H) (w : World) (base : Nat) (held : Bool) (fuel : Nat) (cs : List Value) (x : DataW H × List MemPlace), DataW.trod enc P w base (fun _ => true) held fuel t cs = some x → ∃ p, d.K w p cs ∧ ok p
theorem opn_int {P : Program} {t : TypeId} (k : IntKind) (ht : P.underlying t = some (.int k)) (hc : P.cellsOf t = 1) : Opn P t (Kd.int k) (fun n => (Lit.int k n).wf = true) :=
 ⟨hc, fun enc w base held fuel cs x h => by obtain ⟨n, rfl, _, hw⟩ := DataW.trod_int ht h; exact ⟨n, rfl, hw⟩⟩
theorem opn_slice {α : Type} {P : Program} {t e : TypeId} {d : Kd α} {ok : α → Prop} (ht : P.underlying t = some (.slice e)) (hc : P.cellsOf t = 1) (he : Opn P e d ok) : Opn P t (Kd.slice e d) (fun l => (∀ x ∈ l, ok x) ∧ l.length ≤ maxLen) := by
 refine ⟨hc, fun enc w base held fuel cs x h => ?_⟩
 rcases Go.Deep.open_slice ht h with ⟨rfl, _⟩ | ⟨a, len, cap, m, n, D, Pl, rfl, _, hl, hm, hmm, _, hi⟩
 ·
  exact ⟨[], ⟨none, 0, rfl, Nat.le_refl _, rfl, by simp, fun h => by simp at h⟩, by simp, by simp⟩
 ·
  have hmc : m = cap := by simpa using hmm
  clear hmm
  have key : ∀ k, k ≤ len → ∃ l : List α, l.length = k ∧ (∀ x ∈ l, ok x) ∧ ∀ j p, l[j]? = some p → ∃ c, c.length = d.sz ∧ d.K w p c ∧ ∀ i u, c[i]? = some u → w.cell? (a.add (j * d.sz + i)) = some u := by
   intro k
   induction k with
   | zero => intro _; exact ⟨[], rfl, by simp, by simp⟩
   | succ k ih =>
    intro hk
    obtain ⟨l, hll, hlo, hlc⟩ := ih (by omega)
    obtain ⟨cs', hcs, ht'⟩ := hi k (by omega)
    rw [he.1] at hcs
    obtain ⟨p, hp, hop⟩ := he.2 enc w base held n cs' _ ht'
    obtain ⟨_, hcl, hat⟩ := World.cells?_some hcs
    refine ⟨l ++ [p], by simp [hll], ?_, ?_⟩
    ·
     intro x hx
     rcases List.mem_append.1 hx with hx | hx
     ·
      exact hlo x hx
     ·
      rw [List.mem_singleton.1 hx]; exact hop
    ·
     intro j q hq
     by_cases hj : j < l.length
     ·
      rw [List.getElem?_append_left hj] at hq
      exact hlc j q hq
     ·
      have hj2 : j = l.length := by
       have := (List.getElem?_eq_some_iff.1 hq).1
       simp at this; omega
      subst hj2
      rw [List.getElem?_append_right (Nat.le_refl _)] at hq
      simp at hq
      subst hq
      refine ⟨cs', hcl, hp, fun i u hu => ?_⟩
      have hil : i < d.sz := by rw [← hcl]; exact (List.getElem?_eq_some_iff.1 hu).1
      rw [hll, ← Go.Deep.add_add, hat i hil, hu]
  obtain ⟨l, hll, hlo, hlc⟩ := key len (Nat.le_refl _)
  subst hll
  exact ⟨l, ⟨some a, cap, rfl, hl, rfl, by unfold maxLen at hm; omega, fun _ => ⟨a, rfl, hlc⟩⟩, hlo, by omega⟩
/-- A slice argument. -/
theorem opn_arg {α : Type} {P : Program} {t e : TypeId} {d : Kd α} {ok : List α → Prop} (h : Opn P t (Kd.slice e d) ok) {H : Type} {enc : TypeId × Value → H} {w : World} {base : Nat} {held : Bool} {a : Option Addr} {len cap : Nat} {x : DataW H} {p : List MemPlace} (hr : DataW.Trod enc P w base (fun _ => true) held t (.slice a len cap) x p) :
 ∃ l : List α, len = l.length ∧ l.length ≤ cap ∧ d.C w a l.length l ∧ ok l := by
 obtain ⟨fuel, hf⟩ := hr
 obtain ⟨l, ⟨A, c, he, hc, hC⟩, ho⟩ := h.2 enc w base held fuel _ _ hf
 simp [Value.cells] at he
 obtain ⟨rfl, rfl, rfl⟩ := he
 exact ⟨l, rfl, hc, hC, ho⟩

end Go.Proofs.YtiagfjbngpbejaaDoor.Pure
