/- Functions that the law FnMelodyMove reaches: written by a program of this claim (the kit's print over stand-ins for some functions). -/
import Derived.Test.YtclpnaaagajhiaaDoorGFnMelodyMoveg0
import Derived.Test.YtclpnaaagajhiaaDoorGFnMelodyMoveg16
import Derived.Test.YtclpnaaagajhiaaDoorGFnMelodyMoveg17
import Derived.Test.YtclpnaaagajhiaaDoorGFnMelodyMoveg18
namespace Go.Proofs.YtclpnaaagajhiaaDoor.PFnMelodyMove
open Go.RowKit Go.Proofs.YtclpnaaagajhiaaDoorW.PrintWords Go.Proofs.YtclpnaaagajhiaaDoorW.PrintLast Go.Proofs.YtclpnaaagajhiaaDoorW.PrintMore
attribute [local go_sem] max2_int min2_int max_two min_two max_three min_three max_four min_four   -- for this text's walks alone
set_option linter.unusedVariables false
set_option linter.unusedSimpArgs false

/-! ### spec_DrawMelodyMove: function 30 -/
def spec_DrawMelodyMove.f (k : Nat) (l0 : List Int) : Option ((List (S29)) × Int) := (spec_l6Open.f l0).bind fun bt203 => ((spec_l91Melody.f k bt203.1 bt203.2 5).bind fun bt206 => ((spec_l6Rd_pick.f k bt203.1 bt206.2 20).bind fun bt210 => (if bt210.1 = 0 then ((some (([9223372036854775807, (-9223372036854775808), 0] : List Int) : List Int)).bind fun y212 => ((spec_l6Rd_pick.f k bt203.1 bt210.2 3).bind fun bt215 => (if 0 ≤ bt215.1 then (if bt215.1 < (y212.length : Int) then (some (bt206.1, rd y212 bt215.1)) else (none)) else (none)))) else ((some (([(-7), (-4), (-3), 0, 3, 4, 7, 1, (-1), 2] : List Int) : List Int)).bind fun y218 => ((spec_l6Rd_pick.f k bt203.1 bt210.2 10).bind fun bt221 => (if 0 ≤ bt221.1 then (if bt221.1 < (y218.length : Int) then (some (bt206.1, rd y218 bt221.1)) else (none)) else (none)))))))
theorem spec_DrawMelodyMove.mono : ∀ a0 k, LeO (spec_DrawMelodyMove.f k a0) (spec_DrawMelodyMove.f (k + 1) a0) := by
  intro a0 k
  unfold spec_DrawMelodyMove.f
  repeat' first
      | (with_reducible exact spec_l6Rd_pick.mono _ _ _ _)
      | (with_reducible exact spec_l91Melody.mono _ _ _ _)
      | (with_reducible exact LeO.refl _)
      | (with_reducible exact LeO.none _)
      | (with_reducible refine LeO.ite ?_ ?_)
      | (with_reducible refine LeO.bind ?_ (fun _ => ?_))
      | exact spec_l6Rd_pick.mono _ _ _ _
      | exact spec_l91Melody.mono _ _ _ _
      | exact LeO.none _
      | refine LeO.ite ?_ ?_
      | refine LeO.bind ?_ (fun _ => ?_)
def spec_DrawMelodyMove.T4 : Bool × List (List Nat × List Nat) := (true, [([], []), ([], []), ([], []), ([2], [2]), ([1, 3], [1, 3]), ([4], [4]), ([0, 3, 0], [0]), ([5, 6, 0, 1, 2, 3, 4, 5, 6], [5])])
def spec_DrawMelodyMove.B4 : List Nat := [0, 0, 0, 4, 14, 30, 13, 127]
theorem spec_DrawMelodyMove.tab4 : rtab .any (opsOf Tryd.f30 4) = spec_DrawMelodyMove.T4 := by kernel_rfl
theorem spec_DrawMelodyMove.bits4 : waitsOk spec_DrawMelodyMove.T4.2 spec_DrawMelodyMove.B4 = true := by kernel_rfl
def spec_DrawMelodyMove.T5 : Bool × List (List Nat × List Nat) := (true, [([], []), ([], []), ([], []), ([2], [2]), ([1, 3], [1, 3]), ([4], [4]), ([0, 3, 0], [0]), ([5, 6, 0, 1, 2, 3, 4, 5, 6], [5])])
def spec_DrawMelodyMove.B5 : List Nat := [0, 0, 0, 4, 14, 30, 13, 127]
theorem spec_DrawMelodyMove.tab5 : rtab .any (opsOf Tryd.f30 5) = spec_DrawMelodyMove.T5 := by kernel_rfl
theorem spec_DrawMelodyMove.bits5 : waitsOk spec_DrawMelodyMove.T5.2 spec_DrawMelodyMove.B5 = true := by kernel_rfl
set_option maxHeartbeats 8000000 in
set_option maxRecDepth 100000 in
theorem spec_DrawMelodyMove.calls (k : Nat) (A0 : Option Addr) (c0 : Nat) (l0 : List Int) (r1 : List (S29)) (r2 : Int) (w : World) (hr0 : Kd.C (Kd.int .u8) w A0 l0.length l0) (hc0 : l0.length ≤ c0) (h : spec_DrawMelodyMove.f k l0 = some (r1, r2)) :
    Calls Tryd.prog 30 #[.slice A0 l0.length c0] w fun e w' => ∃ v0_ : Value, e = .returned (.tuple #[v0_, .int .i64 r2]) ∧ Kd.R k29 29 w' w.heap.size (fun _ => True) v0_ r1 ∧ Below w.heap.size w w' := by
  have HR0 := Aside0.mk hr0
  have HC0 := Aside0.mk hc0
  clear hr0 hc0
  have HB := Aside0.mk (Below.refl w.heap.size w)
  have H : ((spec_l6Open.f l0).bind fun bt203 => ((spec_l91Melody.f k bt203.1 bt203.2 5).bind fun bt206 => ((spec_l6Rd_pick.f k bt203.1 bt206.2 20).bind fun bt210 => (if bt210.1 = 0 then ((some (([9223372036854775807, (-9223372036854775808), 0] : List Int) : List Int)).bind fun y212 => ((spec_l6Rd_pick.f k bt203.1 bt210.2 3).bind fun bt215 => (if 0 ≤ bt215.1 then (if bt215.1 < (y212.length : Int) then (some (bt206.1, rd y212 bt215.1)) else (none)) else (none)))) else ((some (([(-7), (-4), (-3), 0, 3, 4, 7, 1, (-1), 2] : List Int) : List Int)).bind fun y218 => ((spec_l6Rd_pick.f k bt203.1 bt210.2 10).bind fun bt221 => (if 0 ≤ bt221.1 then (if bt221.1 < (y218.length : Int) then (some (bt206.1, rd y218 bt221.1)) else (none)) else (none)))))))) = some (r1, r2) := h
  clear h
  replace H := Option.bind_eq_some_iff.mp H
  obtain ⟨⟨t203, t204⟩, A20, H⟩ := H
  replace H : ((spec_l91Melody.f k t203 t204 5).bind fun bt206 => ((spec_l6Rd_pick.f k t203 bt206.2 20).bind fun bt210 => (if bt210.1 = 0 then ((some (([9223372036854775807, (-9223372036854775808), 0] : List Int) : List Int)).bind fun y212 => ((spec_l6Rd_pick.f k t203 bt210.2 3).bind fun bt215 => (if 0 ≤ bt215.1 then (if bt215.1 < (y212.length : Int) then (some (bt206.1, rd y212 bt215.1)) else (none)) else (none)))) else ((some (([(-7), (-4), (-3), 0, 3, 4, 7, 1, (-1), 2] : List Int) : List Int)).bind fun y218 => ((spec_l6Rd_pick.f k t203 bt210.2 10).bind fun bt221 => (if 0 ≤ bt221.1 then (if bt221.1 < (y218.length : Int) then (some (bt206.1, rd y218 bt221.1)) else (none)) else (none))))))) = some (r1, r2) := H
  have A2 := Aside0.mk A20
  clear A20
  replace H := Option.bind_eq_some_iff.mp H
  obtain ⟨⟨t206, t209⟩, A30, H⟩ := H
  replace H : ((spec_l6Rd_pick.f k t203 t209 20).bind fun bt210 => (if bt210.1 = 0 then ((some (([9223372036854775807, (-9223372036854775808), 0] : List Int) : List Int)).bind fun y212 => ((spec_l6Rd_pick.f k t203 bt210.2 3).bind fun bt215 => (if 0 ≤ bt215.1 then (if bt215.1 < (y212.length : Int) then (some (t206, rd y212 bt215.1)) else (none)) else (none)))) else ((some (([(-7), (-4), (-3), 0, 3, 4, 7, 1, (-1), 2] : List Int) : List Int)).bind fun y218 => ((spec_l6Rd_pick.f k t203 bt210.2 10).bind fun bt221 => (if 0 ≤ bt221.1 then (if bt221.1 < (y218.length : Int) then (some (t206, rd y218 bt221.1)) else (none)) else (none)))))) = some (r1, r2) := H
  have A3 := Aside0.mk A30
  clear A30
  replace H := Option.bind_eq_some_iff.mp H
  obtain ⟨⟨t210, t211⟩, A40, H⟩ := H
  replace H : (if t210 = 0 then ((some (([9223372036854775807, (-9223372036854775808), 0] : List Int) : List Int)).bind fun y212 => ((spec_l6Rd_pick.f k t203 t211 3).bind fun bt215 => (if 0 ≤ bt215.1 then (if bt215.1 < (y212.length : Int) then (some (t206, rd y212 bt215.1)) else (none)) else (none)))) else ((some (([(-7), (-4), (-3), 0, 3, 4, 7, 1, (-1), 2] : List Int) : List Int)).bind fun y218 => ((spec_l6Rd_pick.f k t203 t211 10).bind fun bt221 => (if 0 ≤ bt221.1 then (if bt221.1 < (y218.length : Int) then (some (t206, rd y218 bt221.1)) else (none)) else (none))))) = some (r1, r2) := H
  have A4 := Aside0.mk A40
  clear A40
  by_cases c5 : t210 = 0
  · rw [if_pos c5] at H
    have c5b0 : (t210 == 0) = true := beq_iff_eq.mpr c5
    have c5b1 : (t210 != 0) = false := bne_eq_false_iff_eq.mpr c5
    clear c5
    obtain ⟨y212, hy212⟩ : ∃ y_ : List Int, y_ = (([9223372036854775807, (-9223372036854775808), 0] : List Int)) := ⟨_, rfl⟩
    replace H : ((spec_l6Rd_pick.f k t203 t211 3).bind fun bt215 => (if 0 ≤ bt215.1 then (if bt215.1 < (y212.length : Int) then (some (t206, rd y212 bt215.1)) else (none)) else (none))) = some (r1, r2) := by first | (rw [hy212]; with_reducible exact H) | (have H2_ := (Option.bind_some _ _).symm.trans H; rw [hy212]; with_reducible exact H2_) | (have H2_ := (Option.bind_some _ _).symm.trans H; with_reducible exact H2_) | with_reducible exact H | (rw [hy212]; exact H) | exact H
    have Ny212 := Aside0.mk hy212
    clear hy212
    replace H := Option.bind_eq_some_iff.mp H
    obtain ⟨⟨t215, t216⟩, A60, H⟩ := H
    replace H : (if 0 ≤ t215 then (if t215 < (y212.length : Int) then (some (t206, rd y212 t215)) else (none)) else (none)) = some (r1, r2) := H
    have A6 := Aside0.mk A60
    clear A60
    by_cases c7 : 0 ≤ t215
    · rw [if_pos c7] at H
      have c7b0 : decide (0 ≤ t215) = true := decide_eq_true c7
      clear c7
      by_cases c8 : t215 < (y212.length : Int)
      · rw [if_pos c8] at H
        have c8b0 : decide (t215 < (y212.length : Int)) = true := decide_eq_true c8
        clear c8
        simp only [Option.some.injEq, Prod.mk.injEq] at H
        obtain ⟨rfl, rfl⟩ := H
        go_enter Tryd.func30, Tryd.ntmps30
        try go_wp2_with (first | ((with_reducible refine gate_callee (f := 56) rfl ?_); refine goesL_ (some 7) rfl rfl Tryd.func56 (by kernel_rfl) rfl #[.slice A0 l0.length c0] rfl (by (try simp only [List.map_toArray, List.map_cons, List.map_nil]); first | done | rfl | (simp only [List.length_drop, List.length_take]; rfl)) ?_; (with_reducible refine (spec_l6Open.calls _ _ l0 t203 t204 w _ ?side1 ?side2 ?side3 A2.out).mono ?_); (case side1 => repeat (first | (with_reducible first | exact HB.out | apply below_alloc | apply pw_below_drewN | apply below_drew1) | exact HB.out)); (case side2 => exact HR0.out); (case side3 => exact HC0.out); rintro e w9 ⟨g205, rfl, hi, hb, hb2⟩; refine ⟨_, rfl, ?_⟩; have n0_ := Aside0.mk (hb); have n1_ := Aside0.mk (hi); clear HB; have HB := n0_; have HI205 := n1_; clear n0_ n1_; (try clear hb); (try clear hb2); (try clear hk); (try clear hi)) | ((with_reducible refine gate_callee (f := 78) rfl ?_); refine goesL_ (some 9) rfl rfl Tryd.func78 (by kernel_rfl) rfl #[.pointer (some ⟨g205, 0, none⟩), .int .i64 5] rfl (by (try simp only [List.map_toArray, List.map_cons, List.map_nil]); first | done | rfl | (simp only [List.length_drop, List.length_take]; rfl)) ?_; (with_reducible refine (spec_l91Melody.calls k g205 t203 t204 5 t206 t209 w _ ?side1 ?side2 A3.out).mono ?_); (case side1 => repeat (first | (with_reducible first | exact HI205.out | apply IsS98.alloc | apply IsS98.drewN | apply IsS98.drew | apply IsS98.set_1) | exact HI205.out)); (case side2 => repeat (first | (with_reducible first | exact HB.out | apply below_alloc | apply pw_below_drewN | apply below_drew1 | refine below_set ?_ (IsS98.ge HI205.out)) | exact HB.out)); rintro e w10 ⟨v207, rfl, ho0, hi, hb, hk⟩; refine ⟨_, rfl, ?_⟩; have n0_ := Aside0.mk (Kd.R_lower ho0 (below_size (by repeat (first | (with_reducible first | exact HB.out | apply below_alloc | apply pw_below_drewN | apply below_drew1 | refine below_set ?_ (IsS98.ge HI205.out)) | exact HB.out)))); have n1_ := Aside0.mk (hb); have n2_ := Aside0.mk (hi); clear HB; clear HI205; have HO208 := n0_; have HB := n1_; have HI205 := n2_; clear n0_ n1_ n2_; (try clear hb); (try clear hb2); (try clear hk); (try clear hi); (try clear ho0)) | ((with_reducible refine gate_callee (f := 59) rfl ?_); refine goesL_ (some 11) rfl rfl Tryd.func59 (by kernel_rfl) rfl #[.pointer (some ⟨g205, 0, none⟩), .int .i64 20] rfl (by (try simp only [List.map_toArray, List.map_cons, List.map_nil]); first | done | rfl | (simp only [List.length_drop, List.length_take]; rfl)) ?_; (with_reducible refine (spec_l6Rd_pick.calls k g205 t203 t209 20 t210 t211 w _ ?side1 ?side2 A4.out).mono ?_); (case side1 => repeat (first | (with_reducible first | exact HI205.out | apply IsS98.alloc | apply IsS98.drewN | apply IsS98.drew | apply IsS98.set_1) | exact HI205.out)); (case side2 => repeat (first | (with_reducible first | exact HB.out | apply below_alloc | apply pw_below_drewN | apply below_drew1 | refine below_set ?_ (IsS98.ge HI205.out)) | exact HB.out)); rintro e w11 ⟨rfl, hi, hb, hk⟩; refine ⟨_, rfl, ?_⟩; have n0_ := Aside0.mk (Kd.R_mono (Kd.R_keep (IsS98.apart (show IsS98 w _ g205 t203 t209 from by repeat (first | (with_reducible first | exact HI205.out | apply IsS98.alloc | apply IsS98.drewN | apply IsS98.drew | apply IsS98.set_1) | exact HI205.out)) (by (with_reducible repeat (first | apply Kd.R_alloc | apply Kd.R_drewN | apply Kd.R_drew)); exact HO208.out) (by decide)) hk (fun _ h => h.2)) (fun _ h => h.1)); have n1_ := Aside0.mk (hb); have n2_ := Aside0.mk (hi); clear HO208; clear HB; clear HI205; have HO208 := n0_; have HB := n1_; have HI205 := n2_; clear n0_ n1_ n2_; (try clear hb); (try clear hb2); (try clear hk); (try clear hi)))
        have pi217 : (0 ≤ (t215 : Int)) = True := eq_true (of_decide_eq_true (by first | (with_reducible assumption) | assumption))
        have qi217 : (t215 < (y212.length : Int)) = True := eq_true (of_decide_eq_true (by first | (with_reducible assumption) | assumption))
        have n0_ := Aside0.mk (Kd.R_drew HO208.out)
        have n1_ := Aside0.mk (IsS98.drew HI205.out)
        have n2_ := Aside0.mk (below_drew1 HB.out)
        clear HO208
        clear HI205
        clear HB
        have HO208 := n0_
        have HI205 := n1_
        have HB := n2_
        clear n0_ n1_ n2_
        refine start_ (n := 8) (S := fun w' => True) (ds := []) #[false, false, false, false, false, false, false, false] (by kernel_rfl) rfl rfl trivial (fun hHeld => ?_); refine with_tabW spec_DrawMelodyMove.tab4 spec_DrawMelodyMove.bits4 (fun HT_ HW_ => ?_)
        generalize w11.drew = w12 at HO208 HI205 HB hHeld ⊢
        refine pure_ (i := 0) (N := some 13) (v := ?_) (a' := ?_) #[true, false, false, false, false, false, false, false] rfl rfl (any_of HT_.out (by kernel_rfl)) (fun _ _ _ h => h) (Or.inl ⟨by rfl, ?_⟩) ?_ ?_
        rotate_left
        · intro w'
          go_simp
          with_reducible rfl
        rotate_left
        · simp only [Act.put, List.setIfInBounds_toArray, List.set_cons_zero, List.set_cons_succ, i64_w, i32_w]
          rfl
        refine pure_ (i := 2) (N := some 15) (v := ?_) (a' := ?_) #[true, false, true, false, false, false, false, false] rfl rfl (any_of HT_.out (by kernel_rfl)) (fun _ _ _ h => h) (Or.inl ⟨by rfl, ?_⟩) ?_ ?_
        rotate_left
        · intro w'
          go_simp
          with_reducible rfl
        rotate_left
        · simp only [Act.put, List.setIfInBounds_toArray, List.set_cons_zero, List.set_cons_succ, i64_w, i32_w]
          rfl
        refine inv_at [1, 3, 4, 5, 6, 7] (fun a0_ b a w' => ∃ (v213 : Value) (adz_v213 : Addr) (m4_ : Value), a = putSel a0_ b [(1, 14, v213), (3, 16, .int .i64 t215), (4, 17, m4_), (5, 18, .int .i64 (rd y212 t215)), (6, 2, v207), (7, 3, .int .i64 (rd y212 t215))] ∧ (Kd.R k29 29 w' w.heap.size (fun _ => True) v207 t206) ∧ (b 3 = false → IsS98 w w' g205 t203 t211) ∧ (Below w.heap.size w w') ∧ (b 1 = true → Kd.R (Kd.int .i64) 3 w' w.heap.size (fun _ => True) v213 y212) ∧ (b 1 = true → ∃ c_, (v213 : Value) = .slice (some adz_v213) y212.length c_) ∧ (b 3 = true → IsS98 w w' g205 t203 t216) ∧ (b 4 = true → (m4_ : Value) = .pointer (some (adz_v213.add (t215).toNat)))) HT_.out HW_.out (by kernel_rfl) (by kernel_rfl) ?_ ?_ ?_
        · exact ⟨.bool false, ⟨0, 0, none⟩, .bool false, by simp only [putSel, Bool.false_eq_true, if_false], HO208.out, fun _ => HI205.out, HB.out, fun h_ => absurd h_ (by decide), fun h_ => absurd h_ (by decide), fun h_ => absurd h_ (by decide), fun h_ => absurd h_ (by decide)⟩
        · skip
          clear HB HI205 HO208
          refine steps_cons ?_ ?_
          · rintro b a w' ⟨v213, adz_v213, m4_, ha, Q_HO208, Q_HI205, Q_HB, Q_HO214, Q_HA_HO214, Q_HI205_e3, Q_X4_⟩ hb_ hon hoff
            refine ⟨_, rfl, fun K hK => ?_⟩
            replace ha := Aside0.mk ha
            have HO208 := Aside0.mk Q_HO208
            have HB := Aside0.mk Q_HB
            refine Kd.R_lit_step (Kd.int .i64) _ 3 ?hg (N := 14) ?hd (xs := ([9223372036854775807, (-9223372036854775808), 0] : List Int)) (inner := [.int .i64 9223372036854775807, .int .i64 (-9223372036854775808), .int .i64 0]) (ok := fun _ => True) (okp := fun _ => True) ?hr ?hp (fun _ hk => hk) trivial (Below.refl _ _) (Nat.le_refl _) (by simp) ?_; (case hd => rfl); (case hg => rfl); (case hr => first | (go_simp; done) | (go_simp; rfl)); (case hp => exact (Reps.one (show Kd.M (Kd.int .i64) _ _ _ 9223372036854775807 [.int .i64 9223372036854775807] from rfl) (Reps.one (show Kd.M (Kd.int .i64) _ _ _ (-9223372036854775808) [.int .i64 (-9223372036854775808)] from rfl) (Reps.one (show Kd.M (Kd.int .i64) _ _ _ 0 [.int .i64 0] from rfl) (Reps.none _ _)))))
            intro v213 w13 ho14 hb hg_ hnew_
            clear hg_ hnew_
            (first | rw [← Ny212.out] at ho14 | (simp only [Int.reduceToNat] at ho14; rw [← Ny212.out] at ho14))
            have n0_ := Aside0.mk (Kd.R_below (by (with_reducible repeat (first | apply Kd.R_alloc | apply Kd.R_drewN | apply Kd.R_drew)); exact HO208.out) hb)
            have n1_ := Aside0.mk (Kd.R_lower ho14 (below_size (by repeat (first | (with_reducible first | exact HB.out | apply below_alloc | apply pw_below_drewN | apply below_drew1) | exact HB.out))))
            have n3_ := Aside0.mk (below_step (by repeat (first | (with_reducible first | exact HB.out | apply below_alloc | apply pw_below_drewN | apply below_drew1) | exact HB.out)) hb)
            have z_HI205 := fun (h0_ : b 3 = false) => (show IsS98 w w13 g205 t203 t211 from by first | exact (IsS98.below (by repeat (first | (with_reducible first | exact (Q_HI205 h0_) | apply IsS98.alloc | apply IsS98.drewN | apply IsS98.drew | apply IsS98.set_1) | exact (Q_HI205 h0_))) hb))
            have z_HI205_e3 := fun (h0_ : b 3 = true) => (show IsS98 w w13 g205 t203 t216 from by first | exact (IsS98.below (by repeat (first | (with_reducible first | exact (Q_HI205_e3 h0_) | apply IsS98.alloc | apply IsS98.drewN | apply IsS98.drew | apply IsS98.set_1) | exact (Q_HI205_e3 h0_))) hb))
            clear HO208
            clear HB
            have HO208 := n0_
            have HO214 := n1_
            have HB := n3_
            clear n0_ n1_ n3_
            clear hb ho14
            obtain ⟨Ao15, co15, eo15⟩ := Kd.R_slice HO214.out
            subst eo15
            obtain ⟨ado15, fo15, _⟩ := Kd.at_int (Kd.R_reads' HO214.out).2.2 0 (by decide) (by rw [Ny212.out]; simp)
            cases fo15
            refine hK.out _ _ ⟨.slice (some ado15) y212.length co15, ado15, m4_, (by rw [ha.out]; exact putSel_upk 0 hb_ rfl rfl rfl), (by (with_reducible repeat (first | apply Kd.R_alloc | apply Kd.R_drewN | apply Kd.R_drew)); exact HO208.out), z_HI205, (by repeat (first | (with_reducible first | exact HB.out | apply below_alloc | apply pw_below_drewN | apply below_drew1) | exact HB.out)), fun _ => (by (with_reducible repeat (first | apply Kd.R_alloc | apply Kd.R_drewN | apply Kd.R_drew)); exact HO214.out), fun _ => ⟨_, rfl⟩, z_HI205_e3, fun h0_ => absurd ((hoff 4 (by kernel_rfl)).symm.trans h0_) (by decide)⟩
          refine steps_cons ?_ ?_
          · rintro b a w' ⟨v213, adz_v213, m4_, ha, Q_HO208, Q_HI205, Q_HB, Q_HO214, Q_HA_HO214, Q_HI205_e3, Q_X4_⟩ hb_ hon hoff
            refine ⟨_, rfl, fun K hK => ?_⟩
            have e15 : a.tmps[15]? = some (.pointer (some ⟨g205, 0, none⟩)) := by rw [ha]; exact (putSel_off rfl).trans rfl
            replace ha := Aside0.mk ha
            have HO208 := Aside0.mk Q_HO208
            have HI205 := Aside0.mk (Q_HI205 hb_)
            have HB := Aside0.mk Q_HB
            refine goes_ Tryd.func59 (by kernel_rfl) rfl #[.pointer (some ⟨g205, 0, none⟩), .int .i64 3] (by rfl) rfl rfl (by first | (simp only [List.map_toArray, List.map_cons, List.map_nil, Act.eval, Array.getD_eq_getD_getElem?, Option.getD_some, e15]; done) | (simp only [List.map_toArray, List.map_cons, List.map_nil, Act.eval, Array.getD_eq_getD_getElem?, Option.getD_some, e15]; rfl)) ?_
            with_reducible refine (spec_l6Rd_pick.calls k g205 t203 t211 3 t215 t216 w _ ?side1 ?side2 A6.out).mono ?_
            (case side1 => repeat (first | (with_reducible first | exact HI205.out | apply IsS98.alloc | apply IsS98.drewN | apply IsS98.drew | apply IsS98.set_1) | exact HI205.out))
            (case side2 => repeat (first | (with_reducible first | exact HB.out | apply below_alloc | apply pw_below_drewN | apply below_drew1 | refine below_set ?_ (IsS98.ge HI205.out)) | exact HB.out))
            rintro e w13 ⟨rfl, hi, hb, hk⟩
            refine ⟨_, rfl, ?_⟩
            have n0_ := Aside0.mk (Kd.R_mono (Kd.R_keep (IsS98.apart (show IsS98 w _ g205 t203 t211 from by repeat (first | (with_reducible first | exact HI205.out | apply IsS98.alloc | apply IsS98.drewN | apply IsS98.drew | apply IsS98.set_1) | exact HI205.out)) (by (with_reducible repeat (first | apply Kd.R_alloc | apply Kd.R_drewN | apply Kd.R_drew)); exact HO208.out) (by decide)) hk (fun _ h => h.2)) (fun _ h => h.1))
            have n1_ := Aside0.mk (hb)
            have n2_ := Aside0.mk (hi)
            have z_HO214 := fun (h0_ : b 1 = true) => (show Kd.R (Kd.int .i64) 3 w13 w.heap.size (fun _ => True) v213 y212 from by first | exact (Kd.R_mono (Kd.R_keep (IsS98.apart (show IsS98 w _ g205 t203 t211 from by repeat (first | (with_reducible first | exact HI205.out | apply IsS98.alloc | apply IsS98.drewN | apply IsS98.drew | apply IsS98.set_1) | exact HI205.out)) (by (with_reducible repeat (first | apply Kd.R_alloc | apply Kd.R_drewN | apply Kd.R_drew)); exact (Q_HO214 h0_)) (by decide)) hk (fun _ h => h.2)) (fun _ h => h.1)) | exact Kd.R_mono (Kd.R_mono (Kd.R_keep (IsS98.apart (show IsS98 w _ g205 t203 t211 from by repeat (first | (with_reducible first | exact HI205.out | apply IsS98.alloc | apply IsS98.drewN | apply IsS98.drew | apply IsS98.set_1) | exact HI205.out)) (by (with_reducible repeat (first | apply Kd.R_alloc | apply Kd.R_drewN | apply Kd.R_drew)); exact (Q_HO214 h0_)) (by decide)) hk (fun _ h => h.2)) (fun _ h => h.1)) (fun _ h_ => by first | trivial | exact h_ | exact h_.1))
            clear HO208
            clear HB
            clear HI205
            have HO208 := n0_
            have HB := n1_
            have HI205 := n2_
            clear n0_ n1_ n2_
            (try clear hb)
            (try clear hb2)
            (try clear hk)
            (try clear hi)
            refine hK.out _ _ ⟨v213, adz_v213, m4_, (by rw [ha.out]; exact putSel_upk 1 hb_ rfl rfl rfl), (by (with_reducible repeat (first | apply Kd.R_alloc | apply Kd.R_drewN | apply Kd.R_drew)); exact HO208.out), fun h0_ => absurd ((up_self b 3).symm.trans h0_) (by decide), (by repeat (first | (with_reducible first | exact HB.out | apply below_alloc | apply pw_below_drewN | apply below_drew1 | refine below_set ?_ (IsS98.ge HI205.out)) | exact HB.out)), z_HO214, Q_HA_HO214, fun _ => (by repeat (first | (with_reducible first | exact HI205.out | apply IsS98.alloc | apply IsS98.drewN | apply IsS98.drew | apply IsS98.set_1) | exact HI205.out)), fun h0_ => absurd ((hoff 4 (by kernel_rfl)).symm.trans h0_) (by decide)⟩
          refine steps_cons ?_ ?_
          · rintro b a w' ⟨v213, adz_v213, m4_, ha, Q_HO208, Q_HI205, Q_HB, Q_HO214, Q_HA_HO214, Q_HI205_e3, Q_X4_⟩ hb_ hon hoff
            refine ⟨_, rfl, fun K hK => ?_⟩
            have e14 : a.tmps[14]? = some (v213) := by rw [ha]; exact putSel_on (e := (1, 14, v213)) 0 rfl rfl (hon 1 (by kernel_rfl)) rfl
            have e16 : a.tmps[16]? = some (.int .i64 t215) := by rw [ha]; exact putSel_on (e := (3, 16, .int .i64 t215)) 1 rfl rfl (hon 3 (by kernel_rfl)) rfl
            replace ha := Aside0.mk ha
            have HO208 := Aside0.mk Q_HO208
            have HB := Aside0.mk Q_HB
            have HO214 := Aside0.mk (Q_HO214 (hon 1 (by kernel_rfl)))
            have HA_HO214 := Aside0.mk (Q_HA_HO214 (hon 1 (by kernel_rfl)))
            have HI205 := Aside0.mk (Q_HI205_e3 (hon 3 (by kernel_rfl)))
            obtain ⟨c_, hv_⟩ := HA_HO214.out
            rw [hv_] at e14
            refine value_ (w1 := w') (v := .pointer (some (adz_v213.add (t215).toNat))) (by rfl) rfl ?_ ?_
            · go_simp
              (try simp only [i64_w])
              try rfl
            refine hK.out _ _ ⟨v213, adz_v213, (.pointer (some (adz_v213.add (t215).toNat))), (by rw [ha.out]; exact putSel_upk 2 hb_ rfl rfl rfl), Q_HO208, fun h0_ => absurd ((hon 3 (by kernel_rfl)).symm.trans h0_) (by decide), Q_HB, Q_HO214, Q_HA_HO214, Q_HI205_e3, fun _ => rfl⟩
          refine steps_cons ?_ ?_
          · rintro b a w' ⟨v213, adz_v213, m4_, ha, Q_HO208, Q_HI205, Q_HB, Q_HO214, Q_HA_HO214, Q_HI205_e3, Q_X4_⟩ hb_ hon hoff
            refine ⟨_, rfl, fun K hK => ?_⟩
            have e17 : a.tmps[17]? = some (m4_) := by rw [ha]; exact putSel_on (e := (4, 17, m4_)) 2 rfl rfl (hon 4 (by kernel_rfl)) rfl
            rw [Q_X4_ (hon 4 (by kernel_rfl))] at e17
            replace ha := Aside0.mk ha
            have HO208 := Aside0.mk Q_HO208
            have HB := Aside0.mk Q_HB
            have HO214 := Aside0.mk (Q_HO214 (hon 1 (by kernel_rfl)))
            have HA_HO214 := Aside0.mk (Q_HA_HO214 (hon 1 (by kernel_rfl)))
            have HI205 := Aside0.mk (Q_HI205_e3 (hon 3 (by kernel_rfl)))
            obtain ⟨c_, hv_⟩ := HA_HO214.out
            have hF_ := HO214.out
            rw [hv_] at hF_
            obtain ⟨ad_, ea_, hx_⟩ := Kd.at_int (Kd.R_reads' hF_).2.2 t215 (of_eq_true pi217) (of_eq_true qi217)
            cases ea_
            refine value_ (w1 := w') (v := .int .i64 (rd y212 t215)) (by rfl) rfl ?_ ?_
            · go_simp
              (try simp only [i64_w])
              try rfl
            refine hK.out _ _ ⟨v213, adz_v213, m4_, (by rw [ha.out]; exact putSel_upk 3 hb_ rfl rfl rfl), Q_HO208, fun h0_ => absurd ((hon 3 (by kernel_rfl)).symm.trans h0_) (by decide), Q_HB, Q_HO214, Q_HA_HO214, Q_HI205_e3, Q_X4_⟩
          refine steps_cons ?_ ?_
          · rintro b a w' ⟨v213, adz_v213, m4_, ha, Q_HO208, Q_HI205, Q_HB, Q_HO214, Q_HA_HO214, Q_HI205_e3, Q_X4_⟩ hb_ hon hoff
            refine ⟨_, rfl, fun K hK => ?_⟩
            have e13 : a.tmps[13]? = some (v207) := by rw [ha]; exact (putSel_off rfl).trans rfl
            replace ha := Aside0.mk ha
            have HO208 := Aside0.mk Q_HO208
            have HB := Aside0.mk Q_HB
            have HI205 := Aside0.mk (Q_HI205_e3 (hon 3 (by kernel_rfl)))
            refine value_ (w1 := w') (v := v207) (by rfl) rfl ?_ ?_
            · go_simp
              (try simp only [i64_w])
              try rfl
            refine hK.out _ _ ⟨v213, adz_v213, m4_, (by rw [ha.out]; exact putSel_upk 4 hb_ rfl rfl rfl), Q_HO208, fun h0_ => absurd ((hon 3 (by kernel_rfl)).symm.trans h0_) (by decide), Q_HB, Q_HO214, Q_HA_HO214, Q_HI205_e3, Q_X4_⟩
          refine steps_cons ?_ ?_
          · rintro b a w' ⟨v213, adz_v213, m4_, ha, Q_HO208, Q_HI205, Q_HB, Q_HO214, Q_HA_HO214, Q_HI205_e3, Q_X4_⟩ hb_ hon hoff
            refine ⟨_, rfl, fun K hK => ?_⟩
            have e18 : a.tmps[18]? = some (.int .i64 (rd y212 t215)) := by rw [ha]; exact putSel_on (e := (5, 18, .int .i64 (rd y212 t215))) 3 rfl rfl (hon 5 (by kernel_rfl)) rfl
            replace ha := Aside0.mk ha
            have HO208 := Aside0.mk Q_HO208
            have HB := Aside0.mk Q_HB
            have HO214 := Aside0.mk (Q_HO214 (hon 1 (by kernel_rfl)))
            have HA_HO214 := Aside0.mk (Q_HA_HO214 (hon 1 (by kernel_rfl)))
            have HI205 := Aside0.mk (Q_HI205_e3 (hon 3 (by kernel_rfl)))
            refine value_ (w1 := w') (v := .int .i64 (rd y212 t215)) (by rfl) rfl ?_ ?_
            · go_simp
              (try simp only [i64_w])
              try rfl
            refine hK.out _ _ ⟨v213, adz_v213, m4_, (by rw [ha.out]; exact putSel_upk 5 hb_ rfl rfl rfl), Q_HO208, fun h0_ => absurd ((hon 3 (by kernel_rfl)).symm.trans h0_) (by decide), Q_HB, Q_HO214, Q_HA_HO214, Q_HI205_e3, Q_X4_⟩
          exact steps_nil
        rintro b a w17 hall ⟨v213, adz_v213, m4_, ha, Q_HO208, Q_HI205, Q_HB, Q_HO214, Q_HA_HO214, Q_HI205_e3, Q_X4_⟩
        clear HB HI205 HO208
        have hb1_ := hall 1 (by kernel_rfl)
        have hb3_ := hall 3 (by kernel_rfl)
        have hb4_ := hall 4 (by kernel_rfl)
        have hb5_ := hall 5 (by kernel_rfl)
        have hb6_ := hall 6 (by kernel_rfl)
        have hb7_ := hall 7 (by kernel_rfl)
        subst ha
        obtain rfl := Q_X4_ hb4_
        simp only [putSel, hb1_, hb3_, hb4_, hb5_, hb6_, hb7_, if_true, Act.put, List.setIfInBounds_toArray, List.set_cons_zero, List.set_cons_succ]
        have HO208 := Aside0.mk Q_HO208
        clear Q_HO208
        clear Q_HI205
        have HB := Aside0.mk Q_HB
        clear Q_HB
        have HO214 := Aside0.mk (Q_HO214 hb1_)
        clear Q_HO214
        have HA_HO214 := Aside0.mk (Q_HA_HO214 hb1_)
        clear Q_HA_HO214
        have HI205 := Aside0.mk (Q_HI205_e3 hb3_)
        clear Q_HI205_e3
        clear hall hb1_ hb3_ hb4_ hb5_ hb6_ hb7_
        obtain ⟨co18, eo18⟩ := HA_HO214.out
        clear HA_HO214
        subst eo18
        try go_wp2
        go_ret2
        exact ⟨_, by first | rfl | (simp [errW_none, errW_some] <;> rfl) | (simp [*, errW_none, errW_some] <;> rfl), by (with_reducible repeat (first | apply Kd.R_alloc | apply Kd.R_drewN | apply Kd.R_drew)); exact HO208.out, by repeat (first | (with_reducible first | exact HB.out | apply below_alloc | apply pw_below_drewN | apply below_drew1 | refine below_set ?_ (IsS98.ge HI205.out)) | exact HB.out)⟩
      · rw [if_neg c8] at H
        exact absurd H (by simp)
    · rw [if_neg c7] at H
      exact absurd H (by simp)
  · rw [if_neg c5] at H
    have c5b0 : (t210 == 0) = false := beq_eq_false_iff_ne.mpr c5
    have c5b1 : (t210 != 0) = true := bne_iff_ne.mpr c5
    obtain ⟨y218, hy218⟩ : ∃ y_ : List Int, y_ = (([(-7), (-4), (-3), 0, 3, 4, 7, 1, (-1), 2] : List Int)) := ⟨_, rfl⟩
    replace H : ((spec_l6Rd_pick.f k t203 t211 10).bind fun bt221 => (if 0 ≤ bt221.1 then (if bt221.1 < (y218.length : Int) then (some (t206, rd y218 bt221.1)) else (none)) else (none))) = some (r1, r2) := by first | (rw [hy218]; with_reducible exact H) | (have H2_ := (Option.bind_some _ _).symm.trans H; rw [hy218]; with_reducible exact H2_) | (have H2_ := (Option.bind_some _ _).symm.trans H; with_reducible exact H2_) | with_reducible exact H | (rw [hy218]; exact H) | exact H
    have Ny218 := Aside0.mk hy218
    clear hy218
    replace H := Option.bind_eq_some_iff.mp H
    obtain ⟨⟨t221, t222⟩, A190, H⟩ := H
    replace H : (if 0 ≤ t221 then (if t221 < (y218.length : Int) then (some (t206, rd y218 t221)) else (none)) else (none)) = some (r1, r2) := H
    have A19 := Aside0.mk A190
    clear A190
    by_cases c20 : 0 ≤ t221
    · rw [if_pos c20] at H
      have c20b0 : decide (0 ≤ t221) = true := decide_eq_true c20
      clear c20
      by_cases c21 : t221 < (y218.length : Int)
      · rw [if_pos c21] at H
        have c21b0 : decide (t221 < (y218.length : Int)) = true := decide_eq_true c21
        clear c21
        simp only [Option.some.injEq, Prod.mk.injEq] at H
        obtain ⟨rfl, rfl⟩ := H
        go_enter Tryd.func30, Tryd.ntmps30
        try go_wp2_with (first | ((with_reducible refine gate_callee (f := 56) rfl ?_); refine goesL_ (some 7) rfl rfl Tryd.func56 (by kernel_rfl) rfl #[.slice A0 l0.length c0] rfl (by (try simp only [List.map_toArray, List.map_cons, List.map_nil]); first | done | rfl | (simp only [List.length_drop, List.length_take]; rfl)) ?_; (with_reducible refine (spec_l6Open.calls _ _ l0 t203 t204 w _ ?side1 ?side2 ?side3 A2.out).mono ?_); (case side1 => repeat (first | (with_reducible first | exact HB.out | apply below_alloc | apply pw_below_drewN | apply below_drew1) | exact HB.out)); (case side2 => exact HR0.out); (case side3 => exact HC0.out); rintro e w22 ⟨g205, rfl, hi, hb, hb2⟩; refine ⟨_, rfl, ?_⟩; have n0_ := Aside0.mk (hb); have n1_ := Aside0.mk (hi); clear HB; have HB := n0_; have HI205 := n1_; clear n0_ n1_; (try clear hb); (try clear hb2); (try clear hk); (try clear hi)) | ((with_reducible refine gate_callee (f := 78) rfl ?_); refine goesL_ (some 9) rfl rfl Tryd.func78 (by kernel_rfl) rfl #[.pointer (some ⟨g205, 0, none⟩), .int .i64 5] rfl (by (try simp only [List.map_toArray, List.map_cons, List.map_nil]); first | done | rfl | (simp only [List.length_drop, List.length_take]; rfl)) ?_; (with_reducible refine (spec_l91Melody.calls k g205 t203 t204 5 t206 t209 w _ ?side1 ?side2 A3.out).mono ?_); (case side1 => repeat (first | (with_reducible first | exact HI205.out | apply IsS98.alloc | apply IsS98.drewN | apply IsS98.drew | apply IsS98.set_1) | exact HI205.out)); (case side2 => repeat (first | (with_reducible first | exact HB.out | apply below_alloc | apply pw_below_drewN | apply below_drew1 | refine below_set ?_ (IsS98.ge HI205.out)) | exact HB.out)); rintro e w23 ⟨v207, rfl, ho0, hi, hb, hk⟩; refine ⟨_, rfl, ?_⟩; have n0_ := Aside0.mk (Kd.R_lower ho0 (below_size (by repeat (first | (with_reducible first | exact HB.out | apply below_alloc | apply pw_below_drewN | apply below_drew1 | refine below_set ?_ (IsS98.ge HI205.out)) | exact HB.out)))); have n1_ := Aside0.mk (hb); have n2_ := Aside0.mk (hi); clear HB; clear HI205; have HO208 := n0_; have HB := n1_; have HI205 := n2_; clear n0_ n1_ n2_; (try clear hb); (try clear hb2); (try clear hk); (try clear hi); (try clear ho0)) | ((with_reducible refine gate_callee (f := 59) rfl ?_); refine goesL_ (some 11) rfl rfl Tryd.func59 (by kernel_rfl) rfl #[.pointer (some ⟨g205, 0, none⟩), .int .i64 20] rfl (by (try simp only [List.map_toArray, List.map_cons, List.map_nil]); first | done | rfl | (simp only [List.length_drop, List.length_take]; rfl)) ?_; (with_reducible refine (spec_l6Rd_pick.calls k g205 t203 t209 20 t210 t211 w _ ?side1 ?side2 A4.out).mono ?_); (case side1 => repeat (first | (with_reducible first | exact HI205.out | apply IsS98.alloc | apply IsS98.drewN | apply IsS98.drew | apply IsS98.set_1) | exact HI205.out)); (case side2 => repeat (first | (with_reducible first | exact HB.out | apply below_alloc | apply pw_below_drewN | apply below_drew1 | refine below_set ?_ (IsS98.ge HI205.out)) | exact HB.out)); rintro e w24 ⟨rfl, hi, hb, hk⟩; refine ⟨_, rfl, ?_⟩; have n0_ := Aside0.mk (Kd.R_mono (Kd.R_keep (IsS98.apart (show IsS98 w _ g205 t203 t209 from by repeat (first | (with_reducible first | exact HI205.out | apply IsS98.alloc | apply IsS98.drewN | apply IsS98.drew | apply IsS98.set_1) | exact HI205.out)) (by (with_reducible repeat (first | apply Kd.R_alloc | apply Kd.R_drewN | apply Kd.R_drew)); exact HO208.out) (by decide)) hk (fun _ h => h.2)) (fun _ h => h.1)); have n1_ := Aside0.mk (hb); have n2_ := Aside0.mk (hi); clear HO208; clear HB; clear HI205; have HO208 := n0_; have HB := n1_; have HI205 := n2_; clear n0_ n1_ n2_; (try clear hb); (try clear hb2); (try clear hk); (try clear hi)))
        have pi223 : (0 ≤ (t221 : Int)) = True := eq_true (of_decide_eq_true (by first | (with_reducible assumption) | assumption))
        have qi223 : (t221 < (y218.length : Int)) = True := eq_true (of_decide_eq_true (by first | (with_reducible assumption) | assumption))
        have n0_ := Aside0.mk (Kd.R_drew HO208.out)
        have n1_ := Aside0.mk (IsS98.drew HI205.out)
        have n2_ := Aside0.mk (below_drew1 HB.out)
        clear HO208
        clear HI205
        clear HB
        have HO208 := n0_
        have HI205 := n1_
        have HB := n2_
        clear n0_ n1_ n2_
        refine start_ (n := 8) (S := fun w' => True) (ds := []) #[false, false, false, false, false, false, false, false] (by kernel_rfl) rfl rfl trivial (fun hHeld => ?_); refine with_tabW spec_DrawMelodyMove.tab5 spec_DrawMelodyMove.bits5 (fun HT_ HW_ => ?_)
        generalize w24.drew = w25 at HO208 HI205 HB hHeld ⊢
        refine pure_ (i := 0) (N := some 19) (v := ?_) (a' := ?_) #[true, false, false, false, false, false, false, false] rfl rfl (any_of HT_.out (by kernel_rfl)) (fun _ _ _ h => h) (Or.inl ⟨by rfl, ?_⟩) ?_ ?_
        rotate_left
        · intro w'
          go_simp
          with_reducible rfl
        rotate_left
        · simp only [Act.put, List.setIfInBounds_toArray, List.set_cons_zero, List.set_cons_succ, i64_w, i32_w]
          rfl
        refine pure_ (i := 2) (N := some 21) (v := ?_) (a' := ?_) #[true, false, true, false, false, false, false, false] rfl rfl (any_of HT_.out (by kernel_rfl)) (fun _ _ _ h => h) (Or.inl ⟨by rfl, ?_⟩) ?_ ?_
        rotate_left
        · intro w'
          go_simp
          with_reducible rfl
        rotate_left
        · simp only [Act.put, List.setIfInBounds_toArray, List.set_cons_zero, List.set_cons_succ, i64_w, i32_w]
          rfl
        refine inv_at [1, 3, 4, 5, 6, 7] (fun a0_ b a w' => ∃ (v219 : Value) (adz_v219 : Addr) (m4_ : Value), a = putSel a0_ b [(1, 20, v219), (3, 22, .int .i64 t221), (4, 23, m4_), (5, 24, .int .i64 (rd y218 t221)), (6, 2, v207), (7, 3, .int .i64 (rd y218 t221))] ∧ (Kd.R k29 29 w' w.heap.size (fun _ => True) v207 t206) ∧ (b 3 = false → IsS98 w w' g205 t203 t211) ∧ (Below w.heap.size w w') ∧ (b 1 = true → Kd.R (Kd.int .i64) 3 w' w.heap.size (fun _ => True) v219 y218) ∧ (b 1 = true → ∃ c_, (v219 : Value) = .slice (some adz_v219) y218.length c_) ∧ (b 3 = true → IsS98 w w' g205 t203 t222) ∧ (b 4 = true → (m4_ : Value) = .pointer (some (adz_v219.add (t221).toNat)))) HT_.out HW_.out (by kernel_rfl) (by kernel_rfl) ?_ ?_ ?_
        · exact ⟨.bool false, ⟨0, 0, none⟩, .bool false, by simp only [putSel, Bool.false_eq_true, if_false], HO208.out, fun _ => HI205.out, HB.out, fun h_ => absurd h_ (by decide), fun h_ => absurd h_ (by decide), fun h_ => absurd h_ (by decide), fun h_ => absurd h_ (by decide)⟩
        · skip
          clear HB HI205 HO208
          refine steps_cons ?_ ?_
          · rintro b a w' ⟨v219, adz_v219, m4_, ha, Q_HO208, Q_HI205, Q_HB, Q_HO220, Q_HA_HO220, Q_HI205_e3, Q_X4_⟩ hb_ hon hoff
            refine ⟨_, rfl, fun K hK => ?_⟩
            replace ha := Aside0.mk ha
            have HO208 := Aside0.mk Q_HO208
            have HB := Aside0.mk Q_HB
            refine Kd.R_lit_step (Kd.int .i64) _ 3 ?hg (N := 20) ?hd (xs := ([(-7), (-4), (-3), 0, 3, 4, 7, 1, (-1), 2] : List Int)) (inner := [.int .i64 (-7), .int .i64 (-4), .int .i64 (-3), .int .i64 0, .int .i64 3, .int .i64 4, .int .i64 7, .int .i64 1, .int .i64 (-1), .int .i64 2]) (ok := fun _ => True) (okp := fun _ => True) ?hr ?hp (fun _ hk => hk) trivial (Below.refl _ _) (Nat.le_refl _) (by simp) ?_; (case hd => rfl); (case hg => rfl); (case hr => first | (go_simp; done) | (go_simp; rfl)); (case hp => exact (Reps.one (show Kd.M (Kd.int .i64) _ _ _ (-7) [.int .i64 (-7)] from rfl) (Reps.one (show Kd.M (Kd.int .i64) _ _ _ (-4) [.int .i64 (-4)] from rfl) (Reps.one (show Kd.M (Kd.int .i64) _ _ _ (-3) [.int .i64 (-3)] from rfl) (Reps.one (show Kd.M (Kd.int .i64) _ _ _ 0 [.int .i64 0] from rfl) (Reps.one (show Kd.M (Kd.int .i64) _ _ _ 3 [.int .i64 3] from rfl) (Reps.one (show Kd.M (Kd.int .i64) _ _ _ 4 [.int .i64 4] from rfl) (Reps.one (show Kd.M (Kd.int .i64) _ _ _ 7 [.int .i64 7] from rfl) (Reps.one (show Kd.M (Kd.int .i64) _ _ _ 1 [.int .i64 1] from rfl) (Reps.one (show Kd.M (Kd.int .i64) _ _ _ (-1) [.int .i64 (-1)] from rfl) (Reps.one (show Kd.M (Kd.int .i64) _ _ _ 2 [.int .i64 2] from rfl) (Reps.none _ _))))))))))))
            intro v219 w26 ho27 hb hg_ hnew_
            clear hg_ hnew_
            (first | rw [← Ny218.out] at ho27 | (simp only [Int.reduceToNat] at ho27; rw [← Ny218.out] at ho27))
            have n0_ := Aside0.mk (Kd.R_below (by (with_reducible repeat (first | apply Kd.R_alloc | apply Kd.R_drewN | apply Kd.R_drew)); exact HO208.out) hb)
            have n1_ := Aside0.mk (Kd.R_lower ho27 (below_size (by repeat (first | (with_reducible first | exact HB.out | apply below_alloc | apply pw_below_drewN | apply below_drew1) | exact HB.out))))
            have n3_ := Aside0.mk (below_step (by repeat (first | (with_reducible first | exact HB.out | apply below_alloc | apply pw_below_drewN | apply below_drew1) | exact HB.out)) hb)
            have z_HI205 := fun (h0_ : b 3 = false) => (show IsS98 w w26 g205 t203 t211 from by first | exact (IsS98.below (by repeat (first | (with_reducible first | exact (Q_HI205 h0_) | apply IsS98.alloc | apply IsS98.drewN | apply IsS98.drew | apply IsS98.set_1) | exact (Q_HI205 h0_))) hb))
            have z_HI205_e3 := fun (h0_ : b 3 = true) => (show IsS98 w w26 g205 t203 t222 from by first | exact (IsS98.below (by repeat (first | (with_reducible first | exact (Q_HI205_e3 h0_) | apply IsS98.alloc | apply IsS98.drewN | apply IsS98.drew | apply IsS98.set_1) | exact (Q_HI205_e3 h0_))) hb))
            clear HO208
            clear HB
            have HO208 := n0_
            have HO220 := n1_
            have HB := n3_
            clear n0_ n1_ n3_
            clear hb ho27
            obtain ⟨Ao28, co28, eo28⟩ := Kd.R_slice HO220.out
            subst eo28
            obtain ⟨ado28, fo28, _⟩ := Kd.at_int (Kd.R_reads' HO220.out).2.2 0 (by decide) (by rw [Ny218.out]; simp)
            cases fo28
            refine hK.out _ _ ⟨.slice (some ado28) y218.length co28, ado28, m4_, (by rw [ha.out]; exact putSel_upk 0 hb_ rfl rfl rfl), (by (with_reducible repeat (first | apply Kd.R_alloc | apply Kd.R_drewN | apply Kd.R_drew)); exact HO208.out), z_HI205, (by repeat (first | (with_reducible first | exact HB.out | apply below_alloc | apply pw_below_drewN | apply below_drew1) | exact HB.out)), fun _ => (by (with_reducible repeat (first | apply Kd.R_alloc | apply Kd.R_drewN | apply Kd.R_drew)); exact HO220.out), fun _ => ⟨_, rfl⟩, z_HI205_e3, fun h0_ => absurd ((hoff 4 (by kernel_rfl)).symm.trans h0_) (by decide)⟩
          refine steps_cons ?_ ?_
          · rintro b a w' ⟨v219, adz_v219, m4_, ha, Q_HO208, Q_HI205, Q_HB, Q_HO220, Q_HA_HO220, Q_HI205_e3, Q_X4_⟩ hb_ hon hoff
            refine ⟨_, rfl, fun K hK => ?_⟩
            have e21 : a.tmps[21]? = some (.pointer (some ⟨g205, 0, none⟩)) := by rw [ha]; exact (putSel_off rfl).trans rfl
            replace ha := Aside0.mk ha
            have HO208 := Aside0.mk Q_HO208
            have HI205 := Aside0.mk (Q_HI205 hb_)
            have HB := Aside0.mk Q_HB
            refine goes_ Tryd.func59 (by kernel_rfl) rfl #[.pointer (some ⟨g205, 0, none⟩), .int .i64 10] (by rfl) rfl rfl (by first | (simp only [List.map_toArray, List.map_cons, List.map_nil, Act.eval, Array.getD_eq_getD_getElem?, Option.getD_some, e21]; done) | (simp only [List.map_toArray, List.map_cons, List.map_nil, Act.eval, Array.getD_eq_getD_getElem?, Option.getD_some, e21]; rfl)) ?_
            with_reducible refine (spec_l6Rd_pick.calls k g205 t203 t211 10 t221 t222 w _ ?side1 ?side2 A19.out).mono ?_
            (case side1 => repeat (first | (with_reducible first | exact HI205.out | apply IsS98.alloc | apply IsS98.drewN | apply IsS98.drew | apply IsS98.set_1) | exact HI205.out))
            (case side2 => repeat (first | (with_reducible first | exact HB.out | apply below_alloc | apply pw_below_drewN | apply below_drew1 | refine below_set ?_ (IsS98.ge HI205.out)) | exact HB.out))
            rintro e w26 ⟨rfl, hi, hb, hk⟩
            refine ⟨_, rfl, ?_⟩
            have n0_ := Aside0.mk (Kd.R_mono (Kd.R_keep (IsS98.apart (show IsS98 w _ g205 t203 t211 from by repeat (first | (with_reducible first | exact HI205.out | apply IsS98.alloc | apply IsS98.drewN | apply IsS98.drew | apply IsS98.set_1) | exact HI205.out)) (by (with_reducible repeat (first | apply Kd.R_alloc | apply Kd.R_drewN | apply Kd.R_drew)); exact HO208.out) (by decide)) hk (fun _ h => h.2)) (fun _ h => h.1))
            have n1_ := Aside0.mk (hb)
            have n2_ := Aside0.mk (hi)
            have z_HO220 := fun (h0_ : b 1 = true) => (show Kd.R (Kd.int .i64) 3 w26 w.heap.size (fun _ => True) v219 y218 from by first | exact (Kd.R_mono (Kd.R_keep (IsS98.apart (show IsS98 w _ g205 t203 t211 from by repeat (first | (with_reducible first | exact HI205.out | apply IsS98.alloc | apply IsS98.drewN | apply IsS98.drew | apply IsS98.set_1) | exact HI205.out)) (by (with_reducible repeat (first | apply Kd.R_alloc | apply Kd.R_drewN | apply Kd.R_drew)); exact (Q_HO220 h0_)) (by decide)) hk (fun _ h => h.2)) (fun _ h => h.1)) | exact Kd.R_mono (Kd.R_mono (Kd.R_keep (IsS98.apart (show IsS98 w _ g205 t203 t211 from by repeat (first | (with_reducible first | exact HI205.out | apply IsS98.alloc | apply IsS98.drewN | apply IsS98.drew | apply IsS98.set_1) | exact HI205.out)) (by (with_reducible repeat (first | apply Kd.R_alloc | apply Kd.R_drewN | apply Kd.R_drew)); exact (Q_HO220 h0_)) (by decide)) hk (fun _ h => h.2)) (fun _ h => h.1)) (fun _ h_ => by first | trivial | exact h_ | exact h_.1))
            clear HO208
            clear HB
            clear HI205
            have HO208 := n0_
            have HB := n1_
            have HI205 := n2_
            clear n0_ n1_ n2_
            (try clear hb)
            (try clear hb2)
            (try clear hk)
            (try clear hi)
            refine hK.out _ _ ⟨v219, adz_v219, m4_, (by rw [ha.out]; exact putSel_upk 1 hb_ rfl rfl rfl), (by (with_reducible repeat (first | apply Kd.R_alloc | apply Kd.R_drewN | apply Kd.R_drew)); exact HO208.out), fun h0_ => absurd ((up_self b 3).symm.trans h0_) (by decide), (by repeat (first | (with_reducible first | exact HB.out | apply below_alloc | apply pw_below_drewN | apply below_drew1 | refine below_set ?_ (IsS98.ge HI205.out)) | exact HB.out)), z_HO220, Q_HA_HO220, fun _ => (by repeat (first | (with_reducible first | exact HI205.out | apply IsS98.alloc | apply IsS98.drewN | apply IsS98.drew | apply IsS98.set_1) | exact HI205.out)), fun h0_ => absurd ((hoff 4 (by kernel_rfl)).symm.trans h0_) (by decide)⟩
          refine steps_cons ?_ ?_
          · rintro b a w' ⟨v219, adz_v219, m4_, ha, Q_HO208, Q_HI205, Q_HB, Q_HO220, Q_HA_HO220, Q_HI205_e3, Q_X4_⟩ hb_ hon hoff
            refine ⟨_, rfl, fun K hK => ?_⟩
            have e20 : a.tmps[20]? = some (v219) := by rw [ha]; exact putSel_on (e := (1, 20, v219)) 0 rfl rfl (hon 1 (by kernel_rfl)) rfl
            have e22 : a.tmps[22]? = some (.int .i64 t221) := by rw [ha]; exact putSel_on (e := (3, 22, .int .i64 t221)) 1 rfl rfl (hon 3 (by kernel_rfl)) rfl
            replace ha := Aside0.mk ha
            have HO208 := Aside0.mk Q_HO208
            have HB := Aside0.mk Q_HB
            have HO220 := Aside0.mk (Q_HO220 (hon 1 (by kernel_rfl)))
            have HA_HO220 := Aside0.mk (Q_HA_HO220 (hon 1 (by kernel_rfl)))
            have HI205 := Aside0.mk (Q_HI205_e3 (hon 3 (by kernel_rfl)))
            obtain ⟨c_, hv_⟩ := HA_HO220.out
            rw [hv_] at e20
            refine value_ (w1 := w') (v := .pointer (some (adz_v219.add (t221).toNat))) (by rfl) rfl ?_ ?_
            · go_simp
              (try simp only [i64_w])
              try rfl
            refine hK.out _ _ ⟨v219, adz_v219, (.pointer (some (adz_v219.add (t221).toNat))), (by rw [ha.out]; exact putSel_upk 2 hb_ rfl rfl rfl), Q_HO208, fun h0_ => absurd ((hon 3 (by kernel_rfl)).symm.trans h0_) (by decide), Q_HB, Q_HO220, Q_HA_HO220, Q_HI205_e3, fun _ => rfl⟩
          refine steps_cons ?_ ?_
          · rintro b a w' ⟨v219, adz_v219, m4_, ha, Q_HO208, Q_HI205, Q_HB, Q_HO220, Q_HA_HO220, Q_HI205_e3, Q_X4_⟩ hb_ hon hoff
            refine ⟨_, rfl, fun K hK => ?_⟩
            have e23 : a.tmps[23]? = some (m4_) := by rw [ha]; exact putSel_on (e := (4, 23, m4_)) 2 rfl rfl (hon 4 (by kernel_rfl)) rfl
            rw [Q_X4_ (hon 4 (by kernel_rfl))] at e23
            replace ha := Aside0.mk ha
            have HO208 := Aside0.mk Q_HO208
            have HB := Aside0.mk Q_HB
            have HO220 := Aside0.mk (Q_HO220 (hon 1 (by kernel_rfl)))
            have HA_HO220 := Aside0.mk (Q_HA_HO220 (hon 1 (by kernel_rfl)))
            have HI205 := Aside0.mk (Q_HI205_e3 (hon 3 (by kernel_rfl)))
            obtain ⟨c_, hv_⟩ := HA_HO220.out
            have hF_ := HO220.out
            rw [hv_] at hF_
            obtain ⟨ad_, ea_, hx_⟩ := Kd.at_int (Kd.R_reads' hF_).2.2 t221 (of_eq_true pi223) (of_eq_true qi223)
            cases ea_
            refine value_ (w1 := w') (v := .int .i64 (rd y218 t221)) (by rfl) rfl ?_ ?_
            · go_simp
              (try simp only [i64_w])
              try rfl
            refine hK.out _ _ ⟨v219, adz_v219, m4_, (by rw [ha.out]; exact putSel_upk 3 hb_ rfl rfl rfl), Q_HO208, fun h0_ => absurd ((hon 3 (by kernel_rfl)).symm.trans h0_) (by decide), Q_HB, Q_HO220, Q_HA_HO220, Q_HI205_e3, Q_X4_⟩
          refine steps_cons ?_ ?_
          · rintro b a w' ⟨v219, adz_v219, m4_, ha, Q_HO208, Q_HI205, Q_HB, Q_HO220, Q_HA_HO220, Q_HI205_e3, Q_X4_⟩ hb_ hon hoff
            refine ⟨_, rfl, fun K hK => ?_⟩
            have e19 : a.tmps[19]? = some (v207) := by rw [ha]; exact (putSel_off rfl).trans rfl
            replace ha := Aside0.mk ha
            have HO208 := Aside0.mk Q_HO208
            have HB := Aside0.mk Q_HB
            have HI205 := Aside0.mk (Q_HI205_e3 (hon 3 (by kernel_rfl)))
            refine value_ (w1 := w') (v := v207) (by rfl) rfl ?_ ?_
            · go_simp
              (try simp only [i64_w])
              try rfl
            refine hK.out _ _ ⟨v219, adz_v219, m4_, (by rw [ha.out]; exact putSel_upk 4 hb_ rfl rfl rfl), Q_HO208, fun h0_ => absurd ((hon 3 (by kernel_rfl)).symm.trans h0_) (by decide), Q_HB, Q_HO220, Q_HA_HO220, Q_HI205_e3, Q_X4_⟩
          refine steps_cons ?_ ?_
          · rintro b a w' ⟨v219, adz_v219, m4_, ha, Q_HO208, Q_HI205, Q_HB, Q_HO220, Q_HA_HO220, Q_HI205_e3, Q_X4_⟩ hb_ hon hoff
            refine ⟨_, rfl, fun K hK => ?_⟩
            have e24 : a.tmps[24]? = some (.int .i64 (rd y218 t221)) := by rw [ha]; exact putSel_on (e := (5, 24, .int .i64 (rd y218 t221))) 3 rfl rfl (hon 5 (by kernel_rfl)) rfl
            replace ha := Aside0.mk ha
            have HO208 := Aside0.mk Q_HO208
            have HB := Aside0.mk Q_HB
            have HO220 := Aside0.mk (Q_HO220 (hon 1 (by kernel_rfl)))
            have HA_HO220 := Aside0.mk (Q_HA_HO220 (hon 1 (by kernel_rfl)))
            have HI205 := Aside0.mk (Q_HI205_e3 (hon 3 (by kernel_rfl)))
            refine value_ (w1 := w') (v := .int .i64 (rd y218 t221)) (by rfl) rfl ?_ ?_
            · go_simp
              (try simp only [i64_w])
              try rfl
            refine hK.out _ _ ⟨v219, adz_v219, m4_, (by rw [ha.out]; exact putSel_upk 5 hb_ rfl rfl rfl), Q_HO208, fun h0_ => absurd ((hon 3 (by kernel_rfl)).symm.trans h0_) (by decide), Q_HB, Q_HO220, Q_HA_HO220, Q_HI205_e3, Q_X4_⟩
          exact steps_nil
        rintro b a w30 hall ⟨v219, adz_v219, m4_, ha, Q_HO208, Q_HI205, Q_HB, Q_HO220, Q_HA_HO220, Q_HI205_e3, Q_X4_⟩
        clear HB HI205 HO208
        have hb1_ := hall 1 (by kernel_rfl)
        have hb3_ := hall 3 (by kernel_rfl)
        have hb4_ := hall 4 (by kernel_rfl)
        have hb5_ := hall 5 (by kernel_rfl)
        have hb6_ := hall 6 (by kernel_rfl)
        have hb7_ := hall 7 (by kernel_rfl)
        subst ha
        obtain rfl := Q_X4_ hb4_
        simp only [putSel, hb1_, hb3_, hb4_, hb5_, hb6_, hb7_, if_true, Act.put, List.setIfInBounds_toArray, List.set_cons_zero, List.set_cons_succ]
        have HO208 := Aside0.mk Q_HO208
        clear Q_HO208
        clear Q_HI205
        have HB := Aside0.mk Q_HB
        clear Q_HB
        have HO220 := Aside0.mk (Q_HO220 hb1_)
        clear Q_HO220
        have HA_HO220 := Aside0.mk (Q_HA_HO220 hb1_)
        clear Q_HA_HO220
        have HI205 := Aside0.mk (Q_HI205_e3 hb3_)
        clear Q_HI205_e3
        clear hall hb1_ hb3_ hb4_ hb5_ hb6_ hb7_
        obtain ⟨co31, eo31⟩ := HA_HO220.out
        clear HA_HO220
        subst eo31
        try go_wp2
        go_ret2
        exact ⟨_, by first | rfl | (simp [errW_none, errW_some] <;> rfl) | (simp [*, errW_none, errW_some] <;> rfl), by (with_reducible repeat (first | apply Kd.R_alloc | apply Kd.R_drewN | apply Kd.R_drew)); exact HO208.out, by repeat (first | (with_reducible first | exact HB.out | apply below_alloc | apply pw_below_drewN | apply below_drew1 | refine below_set ?_ (IsS98.ge HI205.out)) | exact HB.out)⟩
      · rw [if_neg c21] at H
        exact absurd H (by simp)
    · rw [if_neg c20] at H
      exact absurd H (by simp)

end Go.Proofs.YtclpnaaagajhiaaDoor.PFnMelodyMove
