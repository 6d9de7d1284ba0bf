/- Lemmas for the law FnContour. -/
import Derived.Test.YtpcohkffbjdmfaaDoorSFnContours1
namespace Go.Proofs.YtpcohkffbjdmfaaDoor.PFnContour
open Go.RowKit Go.Proofs.YtpcohkffbjdmfaaDoorW.PrintWords Go.Proofs.YtpcohkffbjdmfaaDoorW.PrintLast Go.Proofs.YtpcohkffbjdmfaaDoorW.PrintMore
attribute [local go_sem] max2_int min2_int max_two min_two max_three min_three max_four min_four   -- for this text's walks alone
set_option linter.unusedVariables false
set_option linter.unusedSimpArgs false

def impl_turnedWay.f (a0 : Int) : Option (Int) := if a0 = 117 then (some 100) else (if a0 = 100 then (some 117) else (some a0))
set_option maxHeartbeats 8000000 in
set_option maxRecDepth 100000 in
theorem impl_turnedWay.calls (a0 : Int) (r : Int) (w : World) (h : impl_turnedWay.f a0 = some r) :
 Calls Tryd.prog 80 #[.int .u8 a0] w fun e w' => e = .returned (.int .u8 r) ∧ Drawn0 w w' := by
 have H : (if a0 = 117 then (some 100) else (if a0 = 100 then (some 117) else (some a0))) = some r := h; clear h; by_cases c2 : a0 = 117
 ·
  rw [if_pos c2] at H; have c2b0 : (a0 == 117) = true := beq_iff_eq.mpr c2; have c2b1 : (a0 != 117) = false := bne_eq_false_iff_eq.mpr c2; clear c2; obtain rfl := Option.some.inj H; go_enter Tryd.func80, Tryd.ntmps80
  go_wp2; go_ret
  exact ⟨by first | rfl | (simp; done) | (simp [*]; done), by repeat (first | exact Drawn0.refl _ | apply Drawn0.step)⟩
 ·
  rw [if_neg c2] at H; have c2b0 : (a0 == 117) = false := beq_eq_false_iff_ne.mpr c2; have c2b1 : (a0 != 117) = true := bne_iff_ne.mpr c2; by_cases c3 : a0 = 100
  ·
   rw [if_pos c3] at H; have c3b0 : (a0 == 100) = true := beq_iff_eq.mpr c3; have c3b1 : (a0 != 100) = false := bne_eq_false_iff_eq.mpr c3; clear c3; obtain rfl := Option.some.inj H; go_enter Tryd.func80, Tryd.ntmps80
   go_wp2; go_ret
   exact ⟨by first | rfl | (simp; done) | (simp [*]; done), by repeat (first | exact Drawn0.refl _ | apply Drawn0.step)⟩
  ·
   rw [if_neg c3] at H; have c3b0 : (a0 == 100) = false := beq_eq_false_iff_ne.mpr c3; have c3b1 : (a0 != 100) = true := bne_iff_ne.mpr c3; obtain rfl := Option.some.inj H; go_enter Tryd.func80, Tryd.ntmps80
   go_wp2; go_ret
   exact ⟨by first | rfl | (simp; done) | (simp [*]; done), by repeat (first | exact Drawn0.refl _ | apply Drawn0.step)⟩

end Go.Proofs.YtpcohkffbjdmfaaDoor.PFnContour
namespace Go.Proofs.YtpcohkffbjdmfaaDoor.PFnContour
open Go.RowKit Go.Proofs.YtpcohkffbjdmfaaDoorW.PrintWords Go.Proofs.YtpcohkffbjdmfaaDoorW.PrintLast Go.Proofs.YtpcohkffbjdmfaaDoorW.PrintMore
attribute [local go_sem] max2_int min2_int max_two min_two max_three min_three max_four min_four   -- for this text's walks alone
set_option linter.unusedVariables false
set_option linter.unusedSimpArgs false

def impl_ContourBack.l0 : Nat → ByteArray → List Int → Int → Option (ByteArray × Bool)
 | 0, _, _, _ => none
 | k + 1, x0, x4, x5 => if x5 ≥ 0 then (if 0 ≤ x5 then (if x5 < (x0.size : Int) then ((impl_turnedWay.f (bt x0 x5)).bind fun t196 => (if x4.length < 140737488355328 then (impl_ContourBack.l0 k x0 (x4 ++ [t196]) (wrap64 (x5 - 1))) else (none))) else (none)) else (none)) else (some (strOfNums x4, true))
def impl_ContourBack.f (k : Nat) (a0 : ByteArray) : Option (ByteArray × Bool) := (impl_ContourValid.f a0).bind fun t192 => (if t192 = true then (impl_ContourBack.l0 k a0 (([] : List Int)) (wrap64 ((a0.size : Int) - 1))) else (some ((⟨#[]⟩ : ByteArray), false)))
set_option maxHeartbeats 8000000 in
set_option maxRecDepth 100000 in
theorem impl_ContourBack.calls (k : Nat) (a0 : ByteArray) (r1 : ByteArray) (r2 : Bool) (w : World) (h : impl_ContourBack.f k a0 = some (r1, r2)) :
 Calls Tryd.prog 42 #[.string a0] w fun e w' => e = .returned (.tuple #[.string r1, .bool r2]) ∧ Below w.heap.size w w' := by
 have HB := Aside0.mk (Below.refl w.heap.size w); have H : ((impl_ContourValid.f a0).bind fun t192 => (if t192 = true then (impl_ContourBack.l0 k a0 (([] : List Int)) (wrap64 ((a0.size : Int) - 1))) else (some ((⟨#[]⟩ : ByteArray), false)))) = some (r1, r2) := h; clear h; replace H := Option.bind_eq_some_iff.mp H; obtain ⟨t192, A20, H⟩ := H; replace H : (if t192 = true then (impl_ContourBack.l0 k a0 (([] : List Int)) (wrap64 ((a0.size : Int) - 1))) else (some ((⟨#[]⟩ : ByteArray), false))) = some (r1, r2) := H; have A2 := Aside0.mk A20; clear A20; by_cases c3 : t192 = true
 ·
  subst c3; have H1 : (impl_ContourBack.l0 k a0 (([] : List Int)) (wrap64 ((a0.size : Int) - 1))) = some (r1, r2) := by rw [if_pos rfl] at H; exact H
  clear H; have H := H1; clear H1; obtain ⟨y193, hy193⟩ : ∃ y_ : List Int, y_ = (([] : List Int)) := ⟨_, rfl⟩
  replace H : (impl_ContourBack.l0 k a0 y193 (wrap64 ((a0.size : Int) - 1))) = some (r1, r2) := by first | (rw [hy193]; with_reducible exact H) | (have H2_ := (Option.bind_some _ _).symm.trans H; rw [hy193]; with_reducible exact H2_) | (have H2_ := (Option.bind_some _ _).symm.trans H; with_reducible exact H2_) | with_reducible exact H | (rw [hy193]; exact H) | exact H
  have Ny193 := Aside0.mk hy193; clear hy193; have H' := Aside0.mk H; clear H; go_enter Tryd.func42, Tryd.ntmps42
  go_wp2_with (first | ((with_reducible refine gate_callee (f := 43) rfl ?_); refine goesL_ (some 7) rfl rfl Tryd.func43 (by kernel_rfl) rfl #[.string a0] rfl (by (try simp only [List.map_toArray, List.map_cons, List.map_nil]); first | done | rfl | (simp only [List.length_drop, List.length_take]; rfl)) ?_; (with_reducible refine (impl_ContourValid.calls a0 true _ A2.out).mono ?_); rintro e w4 ⟨rfl, hb⟩; refine ⟨_, rfl, ?_⟩; have n0_ := Aside0.mk (below_step (by repeat (first | (with_reducible first | exact HB.out | apply below_alloc | apply pw_below_drewN | apply below_drew1) | exact HB.out)) hb); clear HB; have HB := n0_; clear n0_; (try clear hb); (try clear hb2); (try clear hk); (try clear hi)) | ((with_reducible refine gate_dst (N := 9) rfl ?_); refine Kd.R_lit (Kd.int .u8) _ 5 ?hg (N := 9) ?hd (xs := ([] : List Int)) (inner := []) (ok := fun _ => True) (okp := fun _ => True) ?hr ?hp (fun _ hk => hk) trivial (Below.refl _ _) (Nat.le_refl _) (by simp) ?_; (case hd => rfl); (case hg => rfl); (case hr => first | (go_simp; done) | (go_simp; rfl)); (case hp => exact (Reps.none _ _)); intro v194 w5 ho6 hb hg_ hnew_; clear hg_ hnew_; (first | rw [← Ny193.out] at ho6 | (simp only [Int.reduceToNat] at ho6; rw [← Ny193.out] at ho6)); have n0_ := Aside0.mk (Kd.R_lower ho6 (below_size (by repeat (first | (with_reducible first | exact HB.out | apply below_alloc | apply pw_below_drewN | apply below_drew1) | exact HB.out)))); have n1_ := Aside0.mk (below_step (by repeat (first | (with_reducible first | exact HB.out | apply below_alloc | apply pw_below_drewN | apply below_drew1) | exact HB.out)) hb); clear HB; have HO195 := n0_; have HB := n1_; clear n0_ n1_; clear hb ho6))
  go_loopg [4, 5] k (fun kq v4 v5 w' => ∃ (x4_1 : List Int) (x5_1 : Int), v5 = .int .i64 x5_1 ∧ Aside0 (impl_ContourBack.l0 kq a0 x4_1 x5_1 = some (r1, r2)) ∧ Aside0 (kq ≤ k) ∧ Aside0 (Kd.R (Kd.int .u8) 5 w' w.heap.size (fun _ => True) v4 x4_1) ∧ Aside0 (Below w.heap.size w w'))
  case atStart => exact ⟨(y193), (wrap64 ((a0.size : Int) - 1)), (by first | rfl | (simp; done) | (simp [*]; done)), H', ⟨Nat.le_refl _⟩, ⟨by (with_reducible repeat (first | apply Kd.R_alloc | apply Kd.R_drewN | apply Kd.R_drew)); exact HO195.out⟩, ⟨by repeat (first | (with_reducible first | exact HB.out | apply below_alloc | apply pw_below_drewN | apply below_drew1) | exact HB.out)⟩⟩
  case round =>
   clear H'; try clear p2
   try clear c3
   try clear c4
   try clear p6
   obtain ⟨x4_1, x5_1, rfl, HA, HK1, HO_4, HB⟩ := hrel; cases gk with
   | zero => exact absurd HA.out (by simp [impl_ContourBack.l0])
   | succ k1 =>
    have H := HA.out; clear HA; simp only [impl_ContourBack.l0] at H; by_cases c7 : x5_1 ≥ 0
    ·
     rw [if_pos c7] at H; have c7b0 : decide (0 ≤ x5_1) = true := decide_eq_true c7; clear c7; by_cases c8 : 0 ≤ x5_1
     ·
      rw [if_pos c8] at H; have c8b0 : decide (0 ≤ x5_1) = true := decide_eq_true c8; clear c8; by_cases c9 : x5_1 < (a0.size : Int)
      ·
       rw [if_pos c9] at H; have c9b0 : decide (x5_1 < (a0.size : Int)) = true := decide_eq_true c9; clear c9; replace H := Option.bind_eq_some_iff.mp H; obtain ⟨t196, A110, H⟩ := H; replace H : (if x4_1.length < 140737488355328 then (impl_ContourBack.l0 k1 a0 (x4_1 ++ [t196]) (wrap64 (x5_1 - 1))) else (none)) = some (r1, r2) := H; have A11 := Aside0.mk A110; clear A110; by_cases c12 : x4_1.length < 140737488355328
       ·
        rw [if_pos c12] at H; have LMc12 := Aside0.mk c12; clear c12; obtain ⟨y197, hy197⟩ : ∃ y_ : List Int, y_ = (x4_1 ++ [t196]) := ⟨_, rfl⟩
        replace H : (impl_ContourBack.l0 k1 a0 y197 (wrap64 (x5_1 - 1))) = some (r1, r2) := by first | (rw [hy197]; with_reducible exact H) | (have H2_ := (Option.bind_some _ _).symm.trans H; rw [hy197]; with_reducible exact H2_) | (have H2_ := (Option.bind_some _ _).symm.trans H; with_reducible exact H2_) | with_reducible exact H | (rw [hy197]; exact H) | exact H
        have Ny197 := Aside0.mk hy197; clear hy197; have H' := Aside0.mk H; clear H; have p10 : 0 ≤ (x5_1 : Int) := of_decide_eq_true (by first | (with_reducible assumption) | assumption); have q10 : x5_1 < (a0.size : Int) := of_decide_eq_true (by first | (with_reducible assumption) | assumption); have hx10 := bt_at a0 x5_1; replace p10 := eq_true p10; replace q10 := eq_true q10; go_wp2_with (first | ((with_reducible refine gate_callee (f := 80) rfl ?_); refine goesL_ (some 21) rfl rfl Tryd.func80 (by kernel_rfl) rfl #[.int .u8 (bt a0 x5_1)] rfl (by (try simp only [List.map_toArray, List.map_cons, List.map_nil]); first | done | rfl | (simp only [List.length_drop, List.length_take]; rfl)) ?_; (with_reducible refine (impl_turnedWay.calls (bt a0 x5_1) t196 _ A11.out).mono ?_); rintro e w' ⟨rfl, ⟨nd, rfl⟩⟩; refine ⟨_, rfl, ?_⟩) | ((with_reducible refine gate_builtin (b := .append) (xs := #[.tmp 17, .tmp 22]) rfl ?_); at_builtin; refine Kd.R_append (Kd.int .u8) (w0 := w) w.heap.size rfl (.tmp 17) (.tmp 22) 40 5 (.int .u8 0) 1 rfl Tryd.underlying40 info5 rfl (by decide) (by omega) u4 x4_1 t196 [.int .u8 t196] (fun _ => True) (fun _ => False) rfl rfl ?aP (fun _ hk => hk.elim) ?aF ?aO ?aB ?aS ?aL ?_; (case aP => exact rfl); (case aB => exact (by repeat (first | (with_reducible first | exact HB.out | apply below_alloc | apply pw_below_drewN | apply below_drew1) | exact HB.out))); (case aF => exact (fun _ _ => trivial)); (case aO => exact (by (with_reducible repeat (first | apply Kd.R_alloc | apply Kd.R_drewN | apply Kd.R_drew)); exact HO_4.out)); (case aS => exact (below_size (by repeat (first | (with_reducible first | exact HB.out | apply below_alloc | apply pw_below_drewN | apply below_drew1) | exact HB.out)))); (case aL => have := LMc12.out; omega); intro v198 w13 ho hb hg hat; rw [← Ny197.out] at ho; have n0_ := Aside0.mk (hb); have n1_ := Aside0.mk (ho); clear HB; clear HO_4; have HB := n0_; have HO199 := n1_; clear n0_ n1_; clear ho hb hg hat))
        go_roundg k1
        case measure => have := HK1.out; omega
        case rel => exact ⟨(y197), (wrap64 (x5_1 - 1)), (by first | rfl | (simp; done) | (simp [*]; done)), H', ⟨by have := HK1.out; omega⟩, ⟨by (with_reducible repeat (first | apply Kd.R_alloc | apply Kd.R_drewN | apply Kd.R_drew)); exact HO199.out⟩, ⟨by repeat (first | (with_reducible first | exact HB.out | apply below_alloc | apply pw_below_drewN | apply below_drew1) | exact HB.out)⟩⟩
       ·
        rw [if_neg c12] at H; exact absurd H (by simp)
      ·
       rw [if_neg c9] at H; exact absurd H (by simp)
     ·
      rw [if_neg c8] at H; exact absurd H (by simp)
    ·
     rw [if_neg c7] at H; have c7b0 : decide (0 ≤ x5_1) = false := decide_eq_false c7; clear c7; simp only [Option.some.injEq, Prod.mk.injEq] at H; obtain ⟨rfl, rfl⟩ := H; have hcv14 := own_string (P := Tryd.prog) Tryd.underlying40 Tryd.underlying5 Tryd.underlying9 (Kd.own_of_R HO_4.out); go_wp2; go_ret2
     exact ⟨by first | rfl | (simp [errW_none, errW_some] <;> rfl) | (simp [*, errW_none, errW_some] <;> rfl), by repeat (first | (with_reducible first | exact HB.out | apply below_alloc | apply pw_below_drewN | apply below_drew1) | exact HB.out)⟩
 ·
  replace c3 := Bool.eq_false_iff.mpr c3; subst c3; have H1 : (some ((⟨#[]⟩ : ByteArray), false)) = some (r1, r2) := by rw [if_neg (show ¬ (false = true) by decide)] at H; exact H
  clear H; have H := H1; clear H1; simp only [Option.some.injEq, Prod.mk.injEq] at H; obtain ⟨rfl, rfl⟩ := H; go_enter Tryd.func42, Tryd.ntmps42
  go_wp2_with (first | ((with_reducible refine gate_callee (f := 43) rfl ?_); refine goesL_ (some 7) rfl rfl Tryd.func43 (by kernel_rfl) rfl #[.string a0] rfl (by (try simp only [List.map_toArray, List.map_cons, List.map_nil]); first | done | rfl | (simp only [List.length_drop, List.length_take]; rfl)) ?_; (with_reducible refine (impl_ContourValid.calls a0 false _ A2.out).mono ?_); rintro e w15 ⟨rfl, hb⟩; refine ⟨_, rfl, ?_⟩; have n0_ := Aside0.mk (below_step (by repeat (first | (with_reducible first | exact HB.out | apply below_alloc | apply pw_below_drewN | apply below_drew1) | exact HB.out)) hb); clear HB; have HB := n0_; clear n0_; (try clear hb); (try clear hb2); (try clear hk); (try clear hi)))
  go_ret2
  exact ⟨by first | rfl | (simp [errW_none, errW_some] <;> rfl) | (simp [*, errW_none, errW_some] <;> rfl), by repeat (first | (with_reducible first | exact HB.out | apply below_alloc | apply pw_below_drewN | apply below_drew1) | exact HB.out)⟩

end Go.Proofs.YtpcohkffbjdmfaaDoor.PFnContour
namespace Go.Proofs.YtpcohkffbjdmfaaDoor.PFnContour
open Go.RowKit Go.Proofs.YtpcohkffbjdmfaaDoorW.PrintWords Go.Proofs.YtpcohkffbjdmfaaDoorW.PrintLast Go.Proofs.YtpcohkffbjdmfaaDoorW.PrintMore Go.Proofs.YtpcohkffbjdmfaaDoor.Pure
attribute [local go_sem] max2_int min2_int max_two min_two max_three min_three max_four min_four   -- for this text's walks alone
set_option linter.unusedVariables false
set_option linter.unusedSimpArgs false

def laws_FnContour.j0 : Nat → List (S29) → ByteArray → ByteArray → Bool → Option (Bool)
 | 0, _, _, _, _ => none
 | k + 1, x3, x4, x5, x27 => if x27 = true then (some (x4.toList == x5.toList)) else ((impl_MelodyMove.f x3 7).bind fun bt205 => ((impl_MelodyBack.f k x3).bind fun bt209 => ((impl_ContourBack.f k x4).bind fun bt213 => (if (x4.size : Int) = (wrap64 ((x3.length : Int) - 1)) then (if bt205.2 = true then ((impl_ContourOf.f bt205.1).bind fun t215 => (if t215.toList = x4.toList then (if bt209.2 = true then (if bt213.2 = true then ((impl_ContourOf.f bt209.1).bind fun t216 => (if t216.toList = bt213.1.toList then ((impl_ContourValid.f x4).bind fun t217 => (some t217)) else (some false))) else (some false)) else (some false)) else (some false))) else (if bt209.2 = true then (if bt213.2 = true then ((impl_ContourOf.f bt209.1).bind fun t218 => (if t218.toList = bt213.1.toList then ((impl_ContourValid.f x4).bind fun t219 => (some t219)) else (some false))) else (some false)) else (some false))) else (some false)))))
def laws_FnContour.f (k : Nat) (l0 : List Int) : Option (Bool) := if (l0.length : Int) > 1048576 then (some true) else ((spec_DrawContourOf.f k l0).bind fun t200 => ((impl_ContourOf.f t200).bind fun t203 => ((spec_ContourOf.f k t200).bind fun t204 => (if t203.toList = t204.toList then (laws_FnContour.j0 k t200 t203 t204 (t203.toList == ([] : List UInt8))) else (laws_FnContour.j0 k t200 t203 t204 true)))))
set_option maxHeartbeats 8000000 in
set_option maxRecDepth 100000 in
theorem laws_FnContour.calls (k : Nat) (A0 : Option Addr) (c0 : Nat) (l0 : List Int) (r : Bool) (w : World) (ht : HTab w) (hr0 : Kd.C (Kd.int .u8) w A0 l0.length l0) (hc0 : l0.length ≤ c0) (hr : r = true) (h : laws_FnContour.f k l0 = some r) :
 Calls Tryd.prog 8 #[.slice A0 l0.length c0] w fun e w' => e = .returned (.bool r) ∧ Below w.heap.size w w' := by
 have HRR := Aside0.mk hr; clear hr; have HT := Aside0.mk ht; clear ht; have HR0 := Aside0.mk hr0; have HC0 := Aside0.mk hc0; clear hr0 hc0; have HB := Aside0.mk (Below.refl w.heap.size w); have H : (if (l0.length : Int) > 1048576 then (some true) else ((spec_DrawContourOf.f k l0).bind fun t200 => ((impl_ContourOf.f t200).bind fun t203 => ((spec_ContourOf.f k t200).bind fun t204 => (if t203.toList = t204.toList then (laws_FnContour.j0 k t200 t203 t204 (t203.toList == ([] : List UInt8))) else (laws_FnContour.j0 k t200 t203 t204 true)))))) = some r := h; clear h; by_cases c2 : (l0.length : Int) > 1048576
 ·
  rw [if_pos c2] at H; have c2b0 : decide (1048576 < (l0.length : Int)) = true := decide_eq_true c2; have c2b1 : decide (1048576 < l0.length) = true := decide_eq_true (by omega); clear c2; obtain rfl := Option.some.inj H; go_enter Tryd.func8, Tryd.ntmps8
  go_wp2; go_ret
  exact ⟨by first | rfl | (simp [errW_none, errW_some] <;> rfl) | (simp [*, errW_none, errW_some] <;> rfl), by repeat (first | (with_reducible first | exact HB.out | apply below_alloc | apply pw_below_drewN | apply below_drew1) | exact HB.out)⟩
 ·
  rw [if_neg c2] at H; have c2b0 : decide (1048576 < (l0.length : Int)) = false := decide_eq_false c2; have c2b1 : decide (1048576 < l0.length) = false := decide_eq_false (by omega); clear c2; replace H := Option.bind_eq_some_iff.mp H; obtain ⟨t200, A30, H⟩ := H; replace H : ((impl_ContourOf.f t200).bind fun t203 => ((spec_ContourOf.f k t200).bind fun t204 => (if t203.toList = t204.toList then (laws_FnContour.j0 k t200 t203 t204 (t203.toList == ([] : List UInt8))) else (laws_FnContour.j0 k t200 t203 t204 true)))) = some r := H; have A3 := Aside0.mk A30; clear A30; replace H := Option.bind_eq_some_iff.mp H; obtain ⟨t203, A40, H⟩ := H; replace H : ((spec_ContourOf.f k t200).bind fun t204 => (if t203.toList = t204.toList then (laws_FnContour.j0 k t200 t203 t204 (t203.toList == ([] : List UInt8))) else (laws_FnContour.j0 k t200 t203 t204 true))) = some r := H; have A4 := Aside0.mk A40; clear A40; replace H := Option.bind_eq_some_iff.mp H; obtain ⟨t204, A50, H⟩ := H; replace H : (if t203.toList = t204.toList then (laws_FnContour.j0 k t200 t203 t204 (t203.toList == ([] : List UInt8))) else (laws_FnContour.j0 k t200 t203 t204 true)) = some r := H; have A5 := Aside0.mk A50; clear A50; have HC6 := Aside0.mk H; clear H; go_enter Tryd.func8, Tryd.ntmps8
  go_upto_region 6 with (first | ((with_reducible refine gate_callee (f := 38) rfl ?_); refine goesL_ (some 16) rfl rfl Tryd.func38 (by kernel_rfl) rfl #[.slice A0 l0.length c0] rfl (by (try simp only [List.map_toArray, List.map_cons, List.map_nil]); first | done | rfl | (simp only [List.length_drop, List.length_take]; rfl)) ?_; (with_reducible refine (spec_DrawContourOf.calls k _ _ l0 t200 _ ?side1 ?side2 A3.out).mono ?_); (case side1 => repeat (first | exact HR0.out | (with_reducible refine Kd.C_alloc ?_ _) | (with_reducible refine Kd.C_drewN ?_ _) | (with_reducible refine Kd.C_drew ?_))); (case side2 => exact HC0.out); rintro e w7 ⟨v201, rfl, ho0, hb⟩; refine ⟨_, rfl, ?_⟩; have n0_ := Aside0.mk (Kd.R_lower ho0 (below_size (by repeat (first | (with_reducible first | exact HB.out | apply below_alloc | apply pw_below_drewN | apply below_drew1) | exact HB.out)))); have n1_ := Aside0.mk (below_step (by repeat (first | (with_reducible first | exact HB.out | apply below_alloc | apply pw_below_drewN | apply below_drew1) | exact HB.out)) hb); clear HB; have HO202 := n0_; have HB := n1_; clear n0_ n1_; (try clear hb); (try clear hb2); (try clear hk); (try clear hi); (try clear ho0); obtain ⟨Ao8, co8, eo8⟩ := Kd.R_slice HO202.out; subst eo8) | ((with_reducible refine gate_callee (f := 39) rfl ?_); refine goesL_ (some 18) rfl rfl Tryd.func39 (by kernel_rfl) rfl #[.slice Ao8 t200.length co8] rfl (by (try simp only [List.map_toArray, List.map_cons, List.map_nil]); first | done | rfl | (simp only [List.length_drop, List.length_take]; rfl)) ?_; (with_reducible refine (impl_ContourOf.calls _ _ t200 t203 _ ?side1 ?side2 A4.out).mono ?_); (case side1 => repeat (first | exact (Kd.R_reads' HO202.out).2.2 | (with_reducible refine Kd.C_alloc ?_ _) | (with_reducible refine Kd.C_drewN ?_ _) | (with_reducible refine Kd.C_drew ?_))); (case side2 => exact (Kd.R_reads' HO202.out).2.1); rintro e w9 ⟨rfl, hb⟩; refine ⟨_, rfl, ?_⟩; have n0_ := Aside0.mk (Kd.R_below (by (with_reducible repeat (first | apply Kd.R_alloc | apply Kd.R_drewN | apply Kd.R_drew)); exact HO202.out) hb); have n1_ := Aside0.mk (below_step (by repeat (first | (with_reducible first | exact HB.out | apply below_alloc | apply pw_below_drewN | apply below_drew1) | exact HB.out)) hb); clear HO202; clear HB; have HO202 := n0_; have HB := n1_; clear n0_ n1_; (try clear hb); (try clear hb2); (try clear hk); (try clear hi)) | ((with_reducible refine gate_callee (f := 40) rfl ?_); refine goesL_ (some 20) rfl rfl Tryd.func40 (by kernel_rfl) rfl #[.slice Ao8 t200.length co8] rfl (by (try simp only [List.map_toArray, List.map_cons, List.map_nil]); first | done | rfl | (simp only [List.length_drop, List.length_take]; rfl)) ?_; (with_reducible refine (spec_ContourOf.calls k _ _ t200 t204 _ ?side1 ?side2 A5.out).mono ?_); (case side1 => repeat (first | exact (Kd.R_reads' HO202.out).2.2 | (with_reducible refine Kd.C_alloc ?_ _) | (with_reducible refine Kd.C_drewN ?_ _) | (with_reducible refine Kd.C_drew ?_))); (case side2 => exact (Kd.R_reads' HO202.out).2.1); rintro e w10 ⟨rfl, hb⟩; refine ⟨_, rfl, ?_⟩; have n0_ := Aside0.mk (Kd.R_below (by (with_reducible repeat (first | apply Kd.R_alloc | apply Kd.R_drewN | apply Kd.R_drew)); exact HO202.out) hb); have n1_ := Aside0.mk (below_step (by repeat (first | (with_reducible first | exact HB.out | apply below_alloc | apply pw_below_drewN | apply below_drew1) | exact HB.out)) hb); clear HO202; clear HB; have HO202 := n0_; have HB := n1_; clear n0_ n1_; (try clear hb); (try clear hb2); (try clear hk); (try clear hi)))
  (try simp only [Act.put, List.setIfInBounds_toArray, List.set_cons_zero, List.set_cons_succ])
  go_cut [27] (fun v27 wc => ∃ (kq : Nat) (x27_5 : Bool), v27 = .bool x27_5 ∧ Aside0 (laws_FnContour.j0 kq t200 t203 t204 x27_5 = some r) ∧ Aside0 (kq ≤ k) ∧ Aside0 (Kd.R k29 29 wc w.heap.size (fun _ => True) (.slice Ao8 t200.length co8) t200) ∧ Aside0 (Below w.heap.size w wc))
  case first =>
   have H := HC6.out; clear HC6; by_cases c11 : t203.toList = t204.toList
   ·
    rw [if_pos c11] at H; have c11b0 : (t203.toList == t204.toList) = true := beq_iff_eq.mpr c11; have c11b1 : (t203.toList != t204.toList) = false := bne_eq_false_iff_eq.mpr c11; clear c11; (first | rw [c11b0] | (simp only [i64_w, i32_w]; rw [c11b0]) | skip)
    have H' := Aside0.mk H; clear H; go_wp2; go_meet
    case rel => exact ⟨_, ((t203.toList == ([] : List UInt8))), (by first | rfl | (simp; done) | (simp [*]; done)), H', ⟨by first | omega | exact Nat.le_refl _⟩, ⟨by (with_reducible repeat (first | apply Kd.R_alloc | apply Kd.R_drewN | apply Kd.R_drew)); exact HO202.out⟩, ⟨by repeat (first | (with_reducible first | exact HB.out | apply below_alloc | apply pw_below_drewN | apply below_drew1) | exact HB.out)⟩⟩
   ·
    rw [if_neg c11] at H; have c11b0 : (t203.toList == t204.toList) = false := beq_eq_false_iff_ne.mpr c11; have c11b1 : (t203.toList != t204.toList) = true := bne_iff_ne.mpr c11; (first | rw [c11b0] | (simp only [i64_w, i32_w]; rw [c11b0]) | skip)
    have H' := Aside0.mk H; clear H; go_wp2; go_meet
    case rel => exact ⟨_, (true), (by first | rfl | (simp; done) | (simp [*]; done)), H', ⟨by first | omega | exact Nat.le_refl _⟩, ⟨by (with_reducible repeat (first | apply Kd.R_alloc | apply Kd.R_drewN | apply Kd.R_drew)); exact HO202.out⟩, ⟨by repeat (first | (with_reducible first | exact HB.out | apply below_alloc | apply pw_below_drewN | apply below_drew1) | exact HB.out)⟩⟩
  case rest =>
   clear HC6; try clear c1
   try clear c2
   try clear c2b0
   try clear c2b1
   try clear p2
   try clear c3
   try clear c4
   try clear c8
   try clear c11
   try clear c11b0
   try clear c11b1
   obtain ⟨kq, x27_5, rfl, HA, HJ5, HO_3, HB⟩ := hcut; cases kq with
   | zero => exact absurd HA.out (by simp [laws_FnContour.j0])
   | succ kj5 =>
    have H := HA.out; clear HA; simp only [laws_FnContour.j0] at H; by_cases c12 : x27_5 = true
    ·
     subst c12; have H1 : (some (t203.toList == t204.toList)) = some r := by rw [if_pos rfl] at H; exact H
     clear H; have H := H1; clear H1; obtain rfl := Option.some.inj H; go_wp2; go_ret
     exact ⟨by first | rfl | (simp [errW_none, errW_some] <;> rfl) | (simp [*, errW_none, errW_some] <;> rfl), by repeat (first | (with_reducible first | exact HB.out | apply below_alloc | apply pw_below_drewN | apply below_drew1) | exact HB.out)⟩
    ·
     replace c12 := Bool.eq_false_iff.mpr c12; subst c12; have H1 : ((impl_MelodyMove.f t200 7).bind fun bt205 => ((impl_MelodyBack.f kj5 t200).bind fun bt209 => ((impl_ContourBack.f kj5 t203).bind fun bt213 => (if (t203.size : Int) = (wrap64 ((t200.length : Int) - 1)) then (if bt205.2 = true then ((impl_ContourOf.f bt205.1).bind fun t215 => (if t215.toList = t203.toList then (if bt209.2 = true then (if bt213.2 = true then ((impl_ContourOf.f bt209.1).bind fun t216 => (if t216.toList = bt213.1.toList then ((impl_ContourValid.f t203).bind fun t217 => (some t217)) else (some false))) else (some false)) else (some false)) else (some false))) else (if bt209.2 = true then (if bt213.2 = true then ((impl_ContourOf.f bt209.1).bind fun t218 => (if t218.toList = bt213.1.toList then ((impl_ContourValid.f t203).bind fun t219 => (some t219)) else (some false))) else (some false)) else (some false))) else (some false))))) = some r := by rw [if_neg (show ¬ (false = true) by decide)] at H; exact H
     clear H; have H := H1; clear H1; replace H := Option.bind_eq_some_iff.mp H; obtain ⟨⟨t205, t206⟩, A130, H⟩ := H; replace H : ((impl_MelodyBack.f kj5 t200).bind fun bt209 => ((impl_ContourBack.f kj5 t203).bind fun bt213 => (if (t203.size : Int) = (wrap64 ((t200.length : Int) - 1)) then (if t206 = true then ((impl_ContourOf.f t205).bind fun t215 => (if t215.toList = t203.toList then (if bt209.2 = true then (if bt213.2 = true then ((impl_ContourOf.f bt209.1).bind fun t216 => (if t216.toList = bt213.1.toList then ((impl_ContourValid.f t203).bind fun t217 => (some t217)) else (some false))) else (some false)) else (some false)) else (some false))) else (if bt209.2 = true then (if bt213.2 = true then ((impl_ContourOf.f bt209.1).bind fun t218 => (if t218.toList = bt213.1.toList then ((impl_ContourValid.f t203).bind fun t219 => (some t219)) else (some false))) else (some false)) else (some false))) else (some false)))) = some r := H; have A13 := Aside0.mk A130; clear A130; replace H := Option.bind_eq_some_iff.mp H; obtain ⟨⟨t209, t210⟩, A140, H⟩ := H; replace H : ((impl_ContourBack.f kj5 t203).bind fun bt213 => (if (t203.size : Int) = (wrap64 ((t200.length : Int) - 1)) then (if t206 = true then ((impl_ContourOf.f t205).bind fun t215 => (if t215.toList = t203.toList then (if t210 = true then (if bt213.2 = true then ((impl_ContourOf.f t209).bind fun t216 => (if t216.toList = bt213.1.toList then ((impl_ContourValid.f t203).bind fun t217 => (some t217)) else (some false))) else (some false)) else (some false)) else (some false))) else (if t210 = true then (if bt213.2 = true then ((impl_ContourOf.f t209).bind fun t218 => (if t218.toList = bt213.1.toList then ((impl_ContourValid.f t203).bind fun t219 => (some t219)) else (some false))) else (some false)) else (some false))) else (some false))) = some r := H; have A14 := Aside0.mk A140; clear A140; replace H := Option.bind_eq_some_iff.mp H; obtain ⟨⟨t213, t214⟩, A150, H⟩ := H; replace H : (if (t203.size : Int) = (wrap64 ((t200.length : Int) - 1)) then (if t206 = true then ((impl_ContourOf.f t205).bind fun t215 => (if t215.toList = t203.toList then (if t210 = true then (if t214 = true then ((impl_ContourOf.f t209).bind fun t216 => (if t216.toList = t213.toList then ((impl_ContourValid.f t203).bind fun t217 => (some t217)) else (some false))) else (some false)) else (some false)) else (some false))) else (if t210 = true then (if t214 = true then ((impl_ContourOf.f t209).bind fun t218 => (if t218.toList = t213.toList then ((impl_ContourValid.f t203).bind fun t219 => (some t219)) else (some false))) else (some false)) else (some false))) else (some false)) = some r := H; have A15 := Aside0.mk A150; clear A150; by_cases c16 : (t203.size : Int) = (wrap64 ((t200.length : Int) - 1))
     ·
      rw [if_pos c16] at H; have c16b0 : ((t203.size : Int) == (wrap64 ((t200.length : Int) - 1))) = true := beq_iff_eq.mpr c16; have c16b1 : ((t203.size : Int) != (wrap64 ((t200.length : Int) - 1))) = false := bne_eq_false_iff_eq.mpr c16; clear c16; by_cases c17 : t206 = true
      ·
       subst c17; have H1 : ((impl_ContourOf.f t205).bind fun t215 => (if t215.toList = t203.toList then (if t210 = true then (if t214 = true then ((impl_ContourOf.f t209).bind fun t216 => (if t216.toList = t213.toList then ((impl_ContourValid.f t203).bind fun t217 => (some t217)) else (some false))) else (some false)) else (some false)) else (some false))) = some r := by rw [if_pos rfl] at H; exact H
       clear H; have H := H1; clear H1; replace H := Option.bind_eq_some_iff.mp H; obtain ⟨t215, A180, H⟩ := H; replace H : (if t215.toList = t203.toList then (if t210 = true then (if t214 = true then ((impl_ContourOf.f t209).bind fun t216 => (if t216.toList = t213.toList then ((impl_ContourValid.f t203).bind fun t217 => (some t217)) else (some false))) else (some false)) else (some false)) else (some false)) = some r := H; have A18 := Aside0.mk A180; clear A180; by_cases c19 : t215.toList = t203.toList
       ·
        rw [if_pos c19] at H; have c19b0 : (t215.toList == t203.toList) = true := beq_iff_eq.mpr c19; have c19b1 : (t215.toList != t203.toList) = false := bne_eq_false_iff_eq.mpr c19; clear c19; by_cases c20 : t210 = true
        ·
         subst c20; have H1 : (if t214 = true then ((impl_ContourOf.f t209).bind fun t216 => (if t216.toList = t213.toList then ((impl_ContourValid.f t203).bind fun t217 => (some t217)) else (some false))) else (some false)) = some r := by rw [if_pos rfl] at H; exact H
         clear H; have H := H1; clear H1; by_cases c21 : t214 = true
         ·
          subst c21; have H1 : ((impl_ContourOf.f t209).bind fun t216 => (if t216.toList = t213.toList then ((impl_ContourValid.f t203).bind fun t217 => (some t217)) else (some false))) = some r := by rw [if_pos rfl] at H; exact H
          clear H; have H := H1; clear H1; replace H := Option.bind_eq_some_iff.mp H; obtain ⟨t216, A220, H⟩ := H; replace H : (if t216.toList = t213.toList then ((impl_ContourValid.f t203).bind fun t217 => (some t217)) else (some false)) = some r := H; have A22 := Aside0.mk A220; clear A220; by_cases c23 : t216.toList = t213.toList
          ·
           rw [if_pos c23] at H; have c23b0 : (t216.toList == t213.toList) = true := beq_iff_eq.mpr c23; have c23b1 : (t216.toList != t213.toList) = false := bne_eq_false_iff_eq.mpr c23; clear c23; replace H := Option.bind_eq_some_iff.mp H; obtain ⟨t217, A240, H⟩ := H; replace H : (some t217) = some r := H; have A24 := Aside0.mk A240; clear A240; obtain rfl := Option.some.inj H; go_wp2_with (first | ((with_reducible refine gate_callee (f := 23) rfl ?_); refine goesL_ (some 33) rfl rfl Tryd.func23 (by kernel_rfl) rfl #[.slice Ao8 t200.length co8, .int .i64 7] rfl (by (try simp only [List.map_toArray, List.map_cons, List.map_nil]); first | done | rfl | (simp only [List.length_drop, List.length_take]; rfl)) ?_; (with_reducible refine (impl_MelodyMove.calls _ _ t200 7 t205 true _ ?side1 ?side2 A13.out (ht := HT.out.below (by repeat (first | (with_reducible first | exact HB.out | apply below_alloc | apply pw_below_drewN | apply below_drew1) | exact HB.out)))).mono ?_); (case side1 => repeat (first | exact (Kd.R_reads' HO_3.out).2.2 | (with_reducible refine Kd.C_alloc ?_ _) | (with_reducible refine Kd.C_drewN ?_ _) | (with_reducible refine Kd.C_drew ?_))); (case side2 => exact (Kd.R_reads' HO_3.out).2.1); rintro e w25 ⟨v207, rfl, ho0, hb⟩; refine ⟨_, rfl, ?_⟩; have n0_ := Aside0.mk (Kd.R_elder' (by (with_reducible repeat (first | apply Kd.R_alloc | apply Kd.R_drewN | apply Kd.R_drew)); exact HO_3.out) (Kd.R_base ho0) hb); have n1_ := Aside0.mk (Kd.R_lower (Kd.R_new' ho0 (Kd.R_lt (by (with_reducible repeat (first | apply Kd.R_alloc | apply Kd.R_drewN | apply Kd.R_drew)); exact HO_3.out))) (below_size (by repeat (first | (with_reducible first | exact HB.out | apply below_alloc | apply pw_below_drewN | apply below_drew1) | exact HB.out)))); have n2_ := Aside0.mk (below_step (by repeat (first | (with_reducible first | exact HB.out | apply below_alloc | apply pw_below_drewN | apply below_drew1) | exact HB.out)) hb); clear HO_3; clear HB; have HO_3 := n0_; have HO208 := n1_; have HB := n2_; clear n0_ n1_ n2_; (try clear hb); (try clear hb2); (try clear hk); (try clear hi); (try clear ho0)) | ((with_reducible refine gate_callee (f := 41) rfl ?_); refine goesL_ (some 38) rfl rfl Tryd.func41 (by kernel_rfl) rfl #[.slice Ao8 t200.length co8] rfl (by (try simp only [List.map_toArray, List.map_cons, List.map_nil]); first | done | rfl | (simp only [List.length_drop, List.length_take]; rfl)) ?_; (with_reducible refine (impl_MelodyBack.calls kj5 _ _ t200 t209 true _ ?side1 ?side2 A14.out).mono ?_); (case side1 => repeat (first | exact (Kd.R_reads' HO_3.out).2.2 | (with_reducible refine Kd.C_alloc ?_ _) | (with_reducible refine Kd.C_drewN ?_ _) | (with_reducible refine Kd.C_drew ?_))); (case side2 => exact (Kd.R_reads' HO_3.out).2.1); rintro e w26 ⟨v211, rfl, ho0, hb⟩; refine ⟨_, rfl, ?_⟩; have n0_ := Aside0.mk (Kd.R_elder' (by (with_reducible repeat (first | apply Kd.R_alloc | apply Kd.R_drewN | apply Kd.R_drew)); exact HO_3.out) (Kd.R_base ho0) hb); have n1_ := Aside0.mk (Kd.R_elder' (by (with_reducible repeat (first | apply Kd.R_alloc | apply Kd.R_drewN | apply Kd.R_drew)); exact HO208.out) (Kd.R_base ho0) hb); have n2_ := Aside0.mk (Kd.R_lower (Kd.R_new' (Kd.R_new' ho0 (Kd.R_lt (by (with_reducible repeat (first | apply Kd.R_alloc | apply Kd.R_drewN | apply Kd.R_drew)); exact HO_3.out))) (Kd.R_lt (by (with_reducible repeat (first | apply Kd.R_alloc | apply Kd.R_drewN | apply Kd.R_drew)); exact HO208.out))) (below_size (by repeat (first | (with_reducible first | exact HB.out | apply below_alloc | apply pw_below_drewN | apply below_drew1) | exact HB.out)))); have n3_ := Aside0.mk (below_step (by repeat (first | (with_reducible first | exact HB.out | apply below_alloc | apply pw_below_drewN | apply below_drew1) | exact HB.out)) hb); clear HO_3; clear HO208; clear HB; have HO_3 := n0_; have HO208 := n1_; have HO212 := n2_; have HB := n3_; clear n0_ n1_ n2_ n3_; (try clear hb); (try clear hb2); (try clear hk); (try clear hi); (try clear ho0)) | ((with_reducible refine gate_callee (f := 42) rfl ?_); refine goesL_ (some 43) rfl rfl Tryd.func42 (by kernel_rfl) rfl #[.string t203] rfl (by (try simp only [List.map_toArray, List.map_cons, List.map_nil]); first | done | rfl | (simp only [List.length_drop, List.length_take]; rfl)) ?_; (with_reducible refine (impl_ContourBack.calls kj5 t203 t213 true _ A15.out).mono ?_); rintro e w27 ⟨rfl, hb⟩; refine ⟨_, rfl, ?_⟩; have n0_ := Aside0.mk (Kd.R_below (by (with_reducible repeat (first | apply Kd.R_alloc | apply Kd.R_drewN | apply Kd.R_drew)); exact HO_3.out) hb); have n1_ := Aside0.mk (Kd.R_below (by (with_reducible repeat (first | apply Kd.R_alloc | apply Kd.R_drewN | apply Kd.R_drew)); exact HO208.out) hb); have n2_ := Aside0.mk (Kd.R_below (by (with_reducible repeat (first | apply Kd.R_alloc | apply Kd.R_drewN | apply Kd.R_drew)); exact HO212.out) hb); have n3_ := Aside0.mk (below_step (by repeat (first | (with_reducible first | exact HB.out | apply below_alloc | apply pw_below_drewN | apply below_drew1) | exact HB.out)) hb); clear HO_3; clear HO208; clear HO212; clear HB; have HO_3 := n0_; have HO208 := n1_; have HO212 := n2_; have HB := n3_; clear n0_ n1_ n2_ n3_; (try clear hb); (try clear hb2); (try clear hk); (try clear hi); obtain ⟨Ao28, co28, eo28⟩ := Kd.R_slice HO208.out; subst eo28) | (go_at_call 39; (with_reducible refine (impl_ContourOf.calls _ _ t205 t215 _ ?side1 ?side2 A18.out).mono ?_); (case side1 => repeat (first | exact (Kd.R_reads' HO208.out).2.2 | (with_reducible refine Kd.C_alloc ?_ _) | (with_reducible refine Kd.C_drewN ?_ _) | (with_reducible refine Kd.C_drew ?_))); (case side2 => exact (Kd.R_reads' HO208.out).2.1); rintro e w29 ⟨rfl, hb⟩; have n0_ := Aside0.mk (Kd.R_below (by (with_reducible repeat (first | apply Kd.R_alloc | apply Kd.R_drewN | apply Kd.R_drew)); exact HO_3.out) hb); have n1_ := Aside0.mk (Kd.R_below (by (with_reducible repeat (first | apply Kd.R_alloc | apply Kd.R_drewN | apply Kd.R_drew)); exact HO208.out) hb); have n2_ := Aside0.mk (Kd.R_below (by (with_reducible repeat (first | apply Kd.R_alloc | apply Kd.R_drewN | apply Kd.R_drew)); exact HO212.out) hb); have n3_ := Aside0.mk (below_step (by repeat (first | (with_reducible first | exact HB.out | apply below_alloc | apply pw_below_drewN | apply below_drew1) | exact HB.out)) hb); clear HO_3; clear HO208; clear HO212; clear HB; have HO_3 := n0_; have HO208 := n1_; have HO212 := n2_; have HB := n3_; clear n0_ n1_ n2_ n3_; (try clear hb); (try clear hb2); (try clear hk); (try clear hi); obtain ⟨Ao30, co30, eo30⟩ := Kd.R_slice HO212.out; subst eo30) | (go_at_call 39; (with_reducible refine (impl_ContourOf.calls _ _ t209 t216 _ ?side1 ?side2 A22.out).mono ?_); (case side1 => repeat (first | exact (Kd.R_reads' HO212.out).2.2 | (with_reducible refine Kd.C_alloc ?_ _) | (with_reducible refine Kd.C_drewN ?_ _) | (with_reducible refine Kd.C_drew ?_))); (case side2 => exact (Kd.R_reads' HO212.out).2.1); rintro e w31 ⟨rfl, hb⟩; have n0_ := Aside0.mk (Kd.R_below (by (with_reducible repeat (first | apply Kd.R_alloc | apply Kd.R_drewN | apply Kd.R_drew)); exact HO_3.out) hb); have n1_ := Aside0.mk (Kd.R_below (by (with_reducible repeat (first | apply Kd.R_alloc | apply Kd.R_drewN | apply Kd.R_drew)); exact HO208.out) hb); have n2_ := Aside0.mk (Kd.R_below (by (with_reducible repeat (first | apply Kd.R_alloc | apply Kd.R_drewN | apply Kd.R_drew)); exact HO212.out) hb); have n3_ := Aside0.mk (below_step (by repeat (first | (with_reducible first | exact HB.out | apply below_alloc | apply pw_below_drewN | apply below_drew1) | exact HB.out)) hb); clear HO_3; clear HO208; clear HO212; clear HB; have HO_3 := n0_; have HO208 := n1_; have HO212 := n2_; have HB := n3_; clear n0_ n1_ n2_ n3_; (try clear hb); (try clear hb2); (try clear hk); (try clear hi)) | (go_at_call 43; (with_reducible refine (impl_ContourValid.calls t203 t217 _ A24.out).mono ?_); rintro e w32 ⟨rfl, hb⟩; have n0_ := Aside0.mk (Kd.R_below (by (with_reducible repeat (first | apply Kd.R_alloc | apply Kd.R_drewN | apply Kd.R_drew)); exact HO_3.out) hb); have n1_ := Aside0.mk (Kd.R_below (by (with_reducible repeat (first | apply Kd.R_alloc | apply Kd.R_drewN | apply Kd.R_drew)); exact HO208.out) hb); have n2_ := Aside0.mk (Kd.R_below (by (with_reducible repeat (first | apply Kd.R_alloc | apply Kd.R_drewN | apply Kd.R_drew)); exact HO212.out) hb); have n3_ := Aside0.mk (below_step (by repeat (first | (with_reducible first | exact HB.out | apply below_alloc | apply pw_below_drewN | apply below_drew1) | exact HB.out)) hb); clear HO_3; clear HO208; clear HO212; clear HB; have HO_3 := n0_; have HO208 := n1_; have HO212 := n2_; have HB := n3_; clear n0_ n1_ n2_ n3_; (try clear hb); (try clear hb2); (try clear hk); (try clear hi)))
           go_ret
           exact ⟨by first | rfl | (simp [errW_none, errW_some] <;> rfl) | (simp [*, errW_none, errW_some] <;> rfl), by repeat (first | (with_reducible first | exact HB.out | apply below_alloc | apply pw_below_drewN | apply below_drew1) | exact HB.out)⟩
          ·
           rw [if_neg c23] at H; exact absurd (H.trans (congrArg some HRR.out)) (by simp)
         ·
          replace c21 := Bool.eq_false_iff.mpr c21; subst c21; have H1 : (some false) = some r := by rw [if_neg (show ¬ (false = true) by decide)] at H; exact H
          exact absurd (H1.trans (congrArg some HRR.out)) (by simp)
        ·
         replace c20 := Bool.eq_false_iff.mpr c20; subst c20; have H1 : (some false) = some r := by rw [if_neg (show ¬ (false = true) by decide)] at H; exact H
         exact absurd (H1.trans (congrArg some HRR.out)) (by simp)
       ·
        rw [if_neg c19] at H; exact absurd (H.trans (congrArg some HRR.out)) (by simp)
      ·
       replace c17 := Bool.eq_false_iff.mpr c17; subst c17; have H1 : (if t210 = true then (if t214 = true then ((impl_ContourOf.f t209).bind fun t218 => (if t218.toList = t213.toList then ((impl_ContourValid.f t203).bind fun t219 => (some t219)) else (some false))) else (some false)) else (some false)) = some r := by rw [if_neg (show ¬ (false = true) by decide)] at H; exact H
       clear H; have H := H1; clear H1; by_cases c55 : t210 = true
       ·
        subst c55; have H1 : (if t214 = true then ((impl_ContourOf.f t209).bind fun t218 => (if t218.toList = t213.toList then ((impl_ContourValid.f t203).bind fun t219 => (some t219)) else (some false))) else (some false)) = some r := by rw [if_pos rfl] at H; exact H
        clear H; have H := H1; clear H1; by_cases c56 : t214 = true
        ·
         subst c56; have H1 : ((impl_ContourOf.f t209).bind fun t218 => (if t218.toList = t213.toList then ((impl_ContourValid.f t203).bind fun t219 => (some t219)) else (some false))) = some r := by rw [if_pos rfl] at H; exact H
         clear H; have H := H1; clear H1; replace H := Option.bind_eq_some_iff.mp H; obtain ⟨t218, A570, H⟩ := H; replace H : (if t218.toList = t213.toList then ((impl_ContourValid.f t203).bind fun t219 => (some t219)) else (some false)) = some r := H; have A57 := Aside0.mk A570; clear A570; by_cases c58 : t218.toList = t213.toList
         ·
          rw [if_pos c58] at H; have c58b0 : (t218.toList == t213.toList) = true := beq_iff_eq.mpr c58; have c58b1 : (t218.toList != t213.toList) = false := bne_eq_false_iff_eq.mpr c58; clear c58; replace H := Option.bind_eq_some_iff.mp H; obtain ⟨t219, A590, H⟩ := H; replace H : (some t219) = some r := H; have A59 := Aside0.mk A590; clear A590; obtain rfl := Option.some.inj H; go_wp2_with (first | ((with_reducible refine gate_callee (f := 23) rfl ?_); refine goesL_ (some 33) rfl rfl Tryd.func23 (by kernel_rfl) rfl #[.slice Ao8 t200.length co8, .int .i64 7] rfl (by (try simp only [List.map_toArray, List.map_cons, List.map_nil]); first | done | rfl | (simp only [List.length_drop, List.length_take]; rfl)) ?_; (with_reducible refine (impl_MelodyMove.calls _ _ t200 7 t205 false _ ?side1 ?side2 A13.out (ht := HT.out.below (by repeat (first | (with_reducible first | exact HB.out | apply below_alloc | apply pw_below_drewN | apply below_drew1) | exact HB.out)))).mono ?_); (case side1 => repeat (first | exact (Kd.R_reads' HO_3.out).2.2 | (with_reducible refine Kd.C_alloc ?_ _) | (with_reducible refine Kd.C_drewN ?_ _) | (with_reducible refine Kd.C_drew ?_))); (case side2 => exact (Kd.R_reads' HO_3.out).2.1); rintro e w60 ⟨v207, rfl, ho0, hb⟩; refine ⟨_, rfl, ?_⟩; have n0_ := Aside0.mk (Kd.R_elder' (by (with_reducible repeat (first | apply Kd.R_alloc | apply Kd.R_drewN | apply Kd.R_drew)); exact HO_3.out) (Kd.R_base ho0) hb); have n1_ := Aside0.mk (Kd.R_lower (Kd.R_new' ho0 (Kd.R_lt (by (with_reducible repeat (first | apply Kd.R_alloc | apply Kd.R_drewN | apply Kd.R_drew)); exact HO_3.out))) (below_size (by repeat (first | (with_reducible first | exact HB.out | apply below_alloc | apply pw_below_drewN | apply below_drew1) | exact HB.out)))); have n2_ := Aside0.mk (below_step (by repeat (first | (with_reducible first | exact HB.out | apply below_alloc | apply pw_below_drewN | apply below_drew1) | exact HB.out)) hb); clear HO_3; clear HB; have HO_3 := n0_; have HO208 := n1_; have HB := n2_; clear n0_ n1_ n2_; (try clear hb); (try clear hb2); (try clear hk); (try clear hi); (try clear ho0)) | ((with_reducible refine gate_callee (f := 41) rfl ?_); refine goesL_ (some 38) rfl rfl Tryd.func41 (by kernel_rfl) rfl #[.slice Ao8 t200.length co8] rfl (by (try simp only [List.map_toArray, List.map_cons, List.map_nil]); first | done | rfl | (simp only [List.length_drop, List.length_take]; rfl)) ?_; (with_reducible refine (impl_MelodyBack.calls kj5 _ _ t200 t209 true _ ?side1 ?side2 A14.out).mono ?_); (case side1 => repeat (first | exact (Kd.R_reads' HO_3.out).2.2 | (with_reducible refine Kd.C_alloc ?_ _) | (with_reducible refine Kd.C_drewN ?_ _) | (with_reducible refine Kd.C_drew ?_))); (case side2 => exact (Kd.R_reads' HO_3.out).2.1); rintro e w61 ⟨v211, rfl, ho0, hb⟩; refine ⟨_, rfl, ?_⟩; have n0_ := Aside0.mk (Kd.R_elder' (by (with_reducible repeat (first | apply Kd.R_alloc | apply Kd.R_drewN | apply Kd.R_drew)); exact HO_3.out) (Kd.R_base ho0) hb); have n1_ := Aside0.mk (Kd.R_elder' (by (with_reducible repeat (first | apply Kd.R_alloc | apply Kd.R_drewN | apply Kd.R_drew)); exact HO208.out) (Kd.R_base ho0) hb); have n2_ := Aside0.mk (Kd.R_lower (Kd.R_new' (Kd.R_new' ho0 (Kd.R_lt (by (with_reducible repeat (first | apply Kd.R_alloc | apply Kd.R_drewN | apply Kd.R_drew)); exact HO_3.out))) (Kd.R_lt (by (with_reducible repeat (first | apply Kd.R_alloc | apply Kd.R_drewN | apply Kd.R_drew)); exact HO208.out))) (below_size (by repeat (first | (with_reducible first | exact HB.out | apply below_alloc | apply pw_below_drewN | apply below_drew1) | exact HB.out)))); have n3_ := Aside0.mk (below_step (by repeat (first | (with_reducible first | exact HB.out | apply below_alloc | apply pw_below_drewN | apply below_drew1) | exact HB.out)) hb); clear HO_3; clear HO208; clear HB; have HO_3 := n0_; have HO208 := n1_; have HO212 := n2_; have HB := n3_; clear n0_ n1_ n2_ n3_; (try clear hb); (try clear hb2); (try clear hk); (try clear hi); (try clear ho0)) | ((with_reducible refine gate_callee (f := 42) rfl ?_); refine goesL_ (some 43) rfl rfl Tryd.func42 (by kernel_rfl) rfl #[.string t203] rfl (by (try simp only [List.map_toArray, List.map_cons, List.map_nil]); first | done | rfl | (simp only [List.length_drop, List.length_take]; rfl)) ?_; (with_reducible refine (impl_ContourBack.calls kj5 t203 t213 true _ A15.out).mono ?_); rintro e w62 ⟨rfl, hb⟩; refine ⟨_, rfl, ?_⟩; have n0_ := Aside0.mk (Kd.R_below (by (with_reducible repeat (first | apply Kd.R_alloc | apply Kd.R_drewN | apply Kd.R_drew)); exact HO_3.out) hb); have n1_ := Aside0.mk (Kd.R_below (by (with_reducible repeat (first | apply Kd.R_alloc | apply Kd.R_drewN | apply Kd.R_drew)); exact HO208.out) hb); have n2_ := Aside0.mk (Kd.R_below (by (with_reducible repeat (first | apply Kd.R_alloc | apply Kd.R_drewN | apply Kd.R_drew)); exact HO212.out) hb); have n3_ := Aside0.mk (below_step (by repeat (first | (with_reducible first | exact HB.out | apply below_alloc | apply pw_below_drewN | apply below_drew1) | exact HB.out)) hb); clear HO_3; clear HO208; clear HO212; clear HB; have HO_3 := n0_; have HO208 := n1_; have HO212 := n2_; have HB := n3_; clear n0_ n1_ n2_ n3_; (try clear hb); (try clear hb2); (try clear hk); (try clear hi); obtain ⟨Ao63, co63, eo63⟩ := Kd.R_slice HO212.out; subst eo63) | (go_at_call 39; (with_reducible refine (impl_ContourOf.calls _ _ t209 t218 _ ?side1 ?side2 A57.out).mono ?_); (case side1 => repeat (first | exact (Kd.R_reads' HO212.out).2.2 | (with_reducible refine Kd.C_alloc ?_ _) | (with_reducible refine Kd.C_drewN ?_ _) | (with_reducible refine Kd.C_drew ?_))); (case side2 => exact (Kd.R_reads' HO212.out).2.1); rintro e w64 ⟨rfl, hb⟩; have n0_ := Aside0.mk (Kd.R_below (by (with_reducible repeat (first | apply Kd.R_alloc | apply Kd.R_drewN | apply Kd.R_drew)); exact HO_3.out) hb); have n1_ := Aside0.mk (Kd.R_below (by (with_reducible repeat (first | apply Kd.R_alloc | apply Kd.R_drewN | apply Kd.R_drew)); exact HO208.out) hb); have n2_ := Aside0.mk (Kd.R_below (by (with_reducible repeat (first | apply Kd.R_alloc | apply Kd.R_drewN | apply Kd.R_drew)); exact HO212.out) hb); have n3_ := Aside0.mk (below_step (by repeat (first | (with_reducible first | exact HB.out | apply below_alloc | apply pw_below_drewN | apply below_drew1) | exact HB.out)) hb); clear HO_3; clear HO208; clear HO212; clear HB; have HO_3 := n0_; have HO208 := n1_; have HO212 := n2_; have HB := n3_; clear n0_ n1_ n2_ n3_; (try clear hb); (try clear hb2); (try clear hk); (try clear hi)) | (go_at_call 43; (with_reducible refine (impl_ContourValid.calls t203 t219 _ A59.out).mono ?_); rintro e w65 ⟨rfl, hb⟩; have n0_ := Aside0.mk (Kd.R_below (by (with_reducible repeat (first | apply Kd.R_alloc | apply Kd.R_drewN | apply Kd.R_drew)); exact HO_3.out) hb); have n1_ := Aside0.mk (Kd.R_below (by (with_reducible repeat (first | apply Kd.R_alloc | apply Kd.R_drewN | apply Kd.R_drew)); exact HO208.out) hb); have n2_ := Aside0.mk (Kd.R_below (by (with_reducible repeat (first | apply Kd.R_alloc | apply Kd.R_drewN | apply Kd.R_drew)); exact HO212.out) hb); have n3_ := Aside0.mk (below_step (by repeat (first | (with_reducible first | exact HB.out | apply below_alloc | apply pw_below_drewN | apply below_drew1) | exact HB.out)) hb); clear HO_3; clear HO208; clear HO212; clear HB; have HO_3 := n0_; have HO208 := n1_; have HO212 := n2_; have HB := n3_; clear n0_ n1_ n2_ n3_; (try clear hb); (try clear hb2); (try clear hk); (try clear hi)))
          go_ret
          exact ⟨by first | rfl | (simp [errW_none, errW_some] <;> rfl) | (simp [*, errW_none, errW_some] <;> rfl), by repeat (first | (with_reducible first | exact HB.out | apply below_alloc | apply pw_below_drewN | apply below_drew1) | exact HB.out)⟩
         ·
          rw [if_neg c58] at H; exact absurd (H.trans (congrArg some HRR.out)) (by simp)
        ·
         replace c56 := Bool.eq_false_iff.mpr c56; subst c56; have H1 : (some false) = some r := by rw [if_neg (show ¬ (false = true) by decide)] at H; exact H
         exact absurd (H1.trans (congrArg some HRR.out)) (by simp)
       ·
        replace c55 := Bool.eq_false_iff.mpr c55; subst c55; have H1 : (some false) = some r := by rw [if_neg (show ¬ (false = true) by decide)] at H; exact H
        exact absurd (H1.trans (congrArg some HRR.out)) (by simp)
     ·
      rw [if_neg c16] at H; exact absurd (H.trans (congrArg some HRR.out)) (by simp)
end Go.Proofs.YtpcohkffbjdmfaaDoor.PFnContour
namespace Go.Proofs.YtpcohkffbjdmfaaDoor.Pure
set_option linter.unusedVariables false
set_option linter.unusedSimpArgs false
open Go Go.RowKit Go.Proofs.YtpcohkffbjdmfaaDoor.PFnContour Go.Proofs.YtpcohkffbjdmfaaDoorW.PrintWords Go.Proofs.YtpcohkffbjdmfaaDoorW.PrintLast Go.Proofs.YtpcohkffbjdmfaaDoorW.PrintMore

theorem spec_l6In_eq (a b c : Int) : spec_l6In.f a b c = some (decide (b ≤ a ∧ a ≤ c)) := by
 unfold spec_l6In.f
 by_cases h : a ≥ b
 ·
  rw [if_pos h]; simp [show b ≤ a from h]
 ·
  rw [if_neg h]; simp [show ¬ b ≤ a from h]

theorem spec_ToneValid_eq (a : Int) (b : Bool) : spec_ToneValid.f a b = some (toneOk ⟨a, b⟩) := by
 unfold spec_ToneValid.f toneOk
 rw [spec_l6In_eq]
 by_cases h : 0 ≤ a ∧ a ≤ 20
 ·
  cases b <;> simp [h, spec_l1Letter.f]
 ·
  simp [h]
theorem spec_MelodyValid_ev (m : List S29) (hm : m.length ≤ 1000000000000) : Ev (fun k => spec_MelodyValid.f k m) (melOk m) := by
 unfold spec_MelodyValid.f
 have := Ev.over z29 m (fun k (_ : Unit) i => spec_MelodyValid.l0 k m i) (fun _ l => l.all toneOk && decide (m.length ≤ 24)) (fun _ _ => True) (by
  intro s _
  refine Ev.succ ?_
  simp only [spec_MelodyValid.l0]
  refine Ev.eqr (Ev.neg (by omega) (Ev.now _)) ?_
  simp; omega) (by
  intro s i rest _ hi _ ih
  refine Ev.succ ?_
  simp only [spec_MelodyValid.l0]
  refine Ev.pos (by omega) (Ev.pos (by omega) (Ev.conb (spec_ToneValid_eq _ _) ?_))
  show Ev _ (toneOk (rd_T29 m i) && _ && _)
  cases ht : toneOk (rd_T29 m i)
  ·
   exact Ev.neg (by simp [ht]) (Ev.now _)
  ·
   refine Ev.pos (by simp [ht]) ?_
   rw [w64 (by omega) (by omega)]
   simpa using ih () trivial) 0 () (Nat.zero_le _) trivial
 refine Ev.eqr (by simpa using this) ?_
 unfold melOk
 rw [Bool.and_comm]

structure Code (s : List Int) : Prop where
 b : ∀ x ∈ s, 0 ≤ x ∧ x ≤ 255
 l : s.length ≤ 2000
theorem open_ev (l0 : List Int) (hw : ∀ x ∈ l0, (Lit.int .u8 x).wf = true) : ∃ s, spec_l6Open.f l0 = some (s, 0) ∧ Code s := by
 have hb : ∀ x ∈ l0, 0 ≤ x ∧ x ≤ 255 := by
  intro x hx
  have := hw x hx
  have e1 : IntKind.u8.min = 0 := by decide
  have e2 : IntKind.u8.max = 255 := by decide
  simp only [Lit.wf, e1, e2] at this
  simpa using this
 unfold spec_l6Open.f
 by_cases h : (l0.length : Int) > 2000
 ·
  refine ⟨l0.take 2000, by rw [if_pos h, if_pos (by omega)], ⟨fun x hx => hb x (List.mem_of_mem_take hx), by rw [List.length_take]; omega⟩⟩
 ·
  exact ⟨l0, by rw [if_neg h], ⟨hb, by omega⟩⟩
theorem pick_ev {s : List Int} (hc : Code s) (p n : Int) (hp : 0 ≤ p) (hp' : p ≤ 1000000000) :
 Evx (fun k => spec_l6Rd_pick.f k s p n) (fun r => 0 ≤ r.1 ∧ (r.1 < n ∨ r.1 = 0) ∧ r.2 = p + 1) := by
 have hw : wrap64 (p + 1) = p + 1 := w64 (by omega) (by omega)
 have hw' : wrap64 (p + 1 - 1) = p := by rw [w64 (by omega) (by omega)]; omega
 have hl := hc.l
 unfold spec_l6Rd_pick.f
 rw [hw]
 by_cases hn : n < 1
 ·
  refine Evx.pos hn (Evx.succ ?_)
  simp only [spec_l6Rd_pick.j0, if_true]
  exact Evx.now ⟨by simp, by simp, rfl⟩
 ·
  refine Evx.neg hn (Evx.succ ?_)
  have tm : ∀ x : Int, 0 ≤ x → 0 ≤ Int.tmod x n ∧ Int.tmod x n < n := fun x hx => ⟨Int.tmod_nonneg n hx, Int.tmod_lt_of_pos x (by omega)⟩
  by_cases h0 : s.length = 0
  ·
   have e : ((s.length : Int) == 0) = true := by simp [h0]
   simp only [spec_l6Rd_pick.j0, e, if_true]
   exact Evx.now ⟨by simp, by simp, rfl⟩
  ·
   have e : ((s.length : Int) == 0) = false := by rw [beq_eq_false_iff_ne]; omega
   simp only [spec_l6Rd_pick.j0, e, hw']
   refine Evx.neg (by simp) ?_
   by_cases hlt : p < (s.length : Int)
   ·
    refine Evx.pos hlt (Evx.pos hp (Evx.neg (by omega) (Evx.now ?_)))
    have hb := rd_bd hc.b p
    rw [w64 (x := rd s p) (by omega) (by omega)]
    have := tm (rd s p) hb.1
    exact ⟨this.1, .inl this.2, rfl⟩
   ·
    refine Evx.neg hlt (Evx.neg (by omega) ?_)
    have t1 : 0 ≤ Int.tmod p s.length := Int.tmod_nonneg _ hp
    have t1' : Int.tmod p s.length < s.length := Int.tmod_lt_of_pos p (by omega)
    rw [w64 (x := p * 7) (by omega) (by omega), w64 (x := p * 7 + 3) (by omega) (by omega)]
    have t2 : 0 ≤ Int.tmod (p * 7 + 3) s.length := Int.tmod_nonneg _ (by omega)
    have t2' : Int.tmod (p * 7 + 3) s.length < s.length := Int.tmod_lt_of_pos _ (by omega)
    refine Evx.pos t1 (Evx.pos t1' (Evx.pos t2 (Evx.pos t2' (Evx.neg (by omega) (Evx.now ?_)))))
    have hb1 := rd_bd hc.b (Int.tmod p s.length)
    have hb2 := rd_bd hc.b (Int.tmod (p * 7 + 3) s.length)
    have hd : 0 ≤ Int.tdiv p s.length ∧ Int.tdiv p s.length ≤ p := by
     rw [Int.tdiv_eq_ediv_of_nonneg hp]
     exact ⟨Int.ediv_nonneg hp (by omega), Int.ediv_le_self _ hp⟩
    generalize rd s (Int.tmod p s.length) = a at *
    generalize rd s (Int.tmod (p * 7 + 3) s.length) = b at *
    generalize Int.tdiv p s.length = c at *
    obtain ⟨X, hX, hX0, hX1⟩ : ∃ X : Int, wrap64 (wrap64 (wrap64 (wrap64 (wrap64 a * 131) + wrap64 (wrap64 b * 1117)) + wrap64 (p * 29)) + wrap64 (wrap64 c * 53)) = X ∧ 0 ≤ X ∧ X < 1000000000000 := by
     refine ⟨a * 131 + b * 1117 + p * 29 + c * 53, ?_, by omega, by omega⟩
     rw [w64 (x := a) (by omega) (by omega), w64 (x := b) (by omega) (by omega), w64 (x := c) (by omega) (by omega), w64 (x := a * 131) (by omega) (by omega), w64 (x := b * 1117) (by omega) (by omega), w64 (x := p * 29) (by omega) (by omega), w64 (x := c * 53) (by omega) (by omega), w64 (x := a * 131 + b * 1117) (by omega) (by omega), w64 (x := a * 131 + b * 1117 + p * 29) (by omega) (by omega), w64 (by omega) (by omega)]
    rw [hX]
    have hq : 0 ≤ Int.tdiv X 64 ∧ Int.tdiv X 64 ≤ X := by
     rw [Int.tdiv_eq_ediv_of_nonneg hX0]; omega
    rw [w64 (x := Int.tdiv X 64) (by omega) (by omega)]
    have := tm _ (xor_bd X (Int.tdiv X 64) hX0 (by omega) hq.1 (by omega))
    exact ⟨this.1, .inl this.2, rfl⟩

theorem drawMelody_loop {s : List Int} (hc : Code s) (n : Int) (hn : n ≤ 1000) (d : Nat) : ∀ (acc : List S29) (step p : Int), (acc.length : Int) + d = n → (∀ t ∈ acc, -1 ≤ t.f0 ∧ t.f0 ≤ 21) → 1 ≤ step → step ≤ 15 → 0 ≤ p → p + 2 * d ≤ 100000000 →
 Evx (fun k => spec_l91Melody.l0 k acc n step acc.length s p) (fun r => (r.1.length : Int) = n ∧ p ≤ r.2 ∧ r.2 ≤ p + 2 * d + 2 ∧ ∀ t ∈ r.1, -1 ≤ t.f0 ∧ t.f0 ≤ 21) := by
 induction d with
 | zero =>
  intro acc step p hl ha h1 h2 hp hp'
  refine Evx.succ ?_
  simp only [spec_l91Melody.l0]
  refine Evx.neg (by omega) (Evx.ite (fun hpos => ?_) (fun _ => Evx.now ⟨(by (try simp only [List.length_set, List.length_drop, List.length_take, List.length_append, List.length_cons, List.length_nil, Int.natCast_add, Int.natCast_one, Int.natCast_zero] at *); omega), (by (try simp only [List.length_set, List.length_drop, List.length_take, List.length_append, List.length_cons, List.length_nil, Int.natCast_add, Int.natCast_one, Int.natCast_zero] at *); omega), (by (try simp only [List.length_set, List.length_drop, List.length_take, List.length_append, List.length_cons, List.length_nil, Int.natCast_add, Int.natCast_one, Int.natCast_zero] at *); omega), ha⟩))
  refine Evx.bind (pick_ev hc p 50 hp (by omega)) ?_
  rintro ⟨r, q⟩ ⟨hr0, hr1, rfl⟩
  refine Evx.ite (fun e => ?_) (fun e => Evx.ite (fun e1 => ?_) (fun _ => Evx.now ⟨(by (try simp only [List.length_set, List.length_drop, List.length_take, List.length_append, List.length_cons, List.length_nil, Int.natCast_add, Int.natCast_one, Int.natCast_zero] at *); omega), (by (try simp only [List.length_set, List.length_drop, List.length_take, List.length_append, List.length_cons, List.length_nil, Int.natCast_add, Int.natCast_one, Int.natCast_zero] at *); omega), (by (try simp only [List.length_set, List.length_drop, List.length_take, List.length_append, List.length_cons, List.length_nil, Int.natCast_add, Int.natCast_one, Int.natCast_zero] at *); omega), ha⟩))
  ·
   refine Evx.someb (Evx.bind (pick_ev hc (p + 1) 3 (by omega) (by omega)) ?_)
   rintro ⟨u, q⟩ ⟨hu0, hu1, rfl⟩
   have hu0 : 0 ≤ u := hu0
   have hu1 : u < 3 ∨ u = 0 := hu1
   refine Evx.pos hu0 (Evx.pos (by (try simp only [List.length_set, List.length_drop, List.length_take, List.length_append, List.length_cons, List.length_nil, Int.natCast_add, Int.natCast_one, Int.natCast_zero] at *); omega) (Evx.pos (by omega) (Evx.now ⟨(by (try simp only [List.length_set, List.length_drop, List.length_take, List.length_append, List.length_cons, List.length_nil, Int.natCast_add, Int.natCast_one, Int.natCast_zero] at *); omega), (by (try simp only [List.length_set, List.length_drop, List.length_take, List.length_append, List.length_cons, List.length_nil, Int.natCast_add, Int.natCast_one, Int.natCast_zero] at *); omega), (by (try simp only [List.length_set, List.length_drop, List.length_take, List.length_append, List.length_cons, List.length_nil, Int.natCast_add, Int.natCast_one, Int.natCast_zero] at *); omega), ?_⟩)))
   refine mem_set_of ha _ _ ?_
   have : u = 0 ∨ u = 1 ∨ u = 2 := by omega
   rcases this with rfl | rfl | rfl <;> simp [rd]
  ·
   rw [w64 (by omega) (by omega)]
   refine Evx.pos (by omega) (Evx.pos (by omega) (Evx.now ⟨(by (try simp only [List.length_set, List.length_drop, List.length_take, List.length_append, List.length_cons, List.length_nil, Int.natCast_add, Int.natCast_one, Int.natCast_zero] at *); omega), (by (try simp only [List.length_set, List.length_drop, List.length_take, List.length_append, List.length_cons, List.length_nil, Int.natCast_add, Int.natCast_one, Int.natCast_zero] at *); omega), (by (try simp only [List.length_set, List.length_drop, List.length_take, List.length_append, List.length_cons, List.length_nil, Int.natCast_add, Int.natCast_one, Int.natCast_zero] at *); omega), ?_⟩))
   refine mem_set_of ha _ _ ?_
   have hlt : (n - 1).toNat < acc.length := by omega
   show -1 ≤ (rd_T29 acc (n - 1)).f0 ∧ (rd_T29 acc (n - 1)).f0 ≤ 21
   unfold rd_T29
   rw [List.getD_eq_getElem?_getD, List.getElem?_eq_getElem hlt]
   exact ha _ (List.getElem_mem hlt)
 | succ d ih =>
  intro acc step p hl ha h1 h2 hp hp'
  refine Evx.succ ?_
  simp only [spec_l91Melody.l0]
  have wl : wrap64 ((acc.length : Int) + 1) = (acc.length : Int) + 1 := w64 (by omega) (by omega)
  have stepok : ∀ u : Int, 0 ≤ u → u < 5 ∨ u = 0 → 1 ≤ mx 1 (mn 15 (wrap64 (wrap64 (step + u) - 2))) ∧ mx 1 (mn 15 (wrap64 (wrap64 (step + u) - 2))) ≤ 15 := by
   intro u hu hu'
   rw [w64 (x := step + u) (by omega) (by omega), w64 (by omega) (by omega)]
   have a := mn_le 15 (step + u - 2)
   have b := mx_le 1 (mn 15 (step + u - 2))
   omega
  refine Evx.pos (by omega) (Evx.someb (Evx.ite (fun _ => ?_) (fun _ => ?_)))
  ·
   refine Evx.bind (pick_ev hc p 3 hp (by omega)) ?_
   rintro ⟨r, q⟩ ⟨hr0, hr1, rfl⟩
   refine Evx.pos (by omega) (Evx.bind (pick_ev hc (p + 1) 5 (by omega) (by omega)) ?_)
   rintro ⟨u, q⟩ ⟨hu0, hu1, rfl⟩
   have so := stepok u hu0 hu1
   have := ih (acc ++ [⟨step, r == 0⟩]) _ (p + 1 + 1) (by (try simp only [List.length_set, List.length_drop, List.length_take, List.length_append, List.length_cons, List.length_nil, Int.natCast_add, Int.natCast_one, Int.natCast_zero] at *); omega) (by
    intro t ht
    rcases List.mem_append.1 ht with ht | ht
    ·
     exact ha t ht
    ·
     obtain rfl := List.mem_singleton.1 ht; exact ⟨(by (try simp only [List.length_set, List.length_drop, List.length_take, List.length_append, List.length_cons, List.length_nil, Int.natCast_add, Int.natCast_one, Int.natCast_zero] at *); omega), (by (try simp only [List.length_set, List.length_drop, List.length_take, List.length_append, List.length_cons, List.length_nil, Int.natCast_add, Int.natCast_one, Int.natCast_zero] at *); omega)⟩) so.1 so.2 (by omega) (by omega)
   simp only [List.length_append, List.length_singleton, Int.natCast_add, Int.natCast_one] at this
   rw [wl]
   exact this.mono (by rintro ⟨m, q⟩ ⟨e1, e2, e3, e4⟩; exact ⟨e1, (by (try simp only [List.length_set, List.length_drop, List.length_take, List.length_append, List.length_cons, List.length_nil, Int.natCast_add, Int.natCast_one, Int.natCast_zero] at *); omega), (by (try simp only [List.length_set, List.length_drop, List.length_take, List.length_append, List.length_cons, List.length_nil, Int.natCast_add, Int.natCast_one, Int.natCast_zero] at *); omega), e4⟩)
  ·
   refine Evx.pos (by omega) (Evx.bind (pick_ev hc p 5 (by omega) (by omega)) ?_)
   rintro ⟨u, q⟩ ⟨hu0, hu1, rfl⟩
   have so := stepok u hu0 hu1
   have := ih (acc ++ [⟨step, false⟩]) _ (p + 1) (by (try simp only [List.length_set, List.length_drop, List.length_take, List.length_append, List.length_cons, List.length_nil, Int.natCast_add, Int.natCast_one, Int.natCast_zero] at *); omega) (by
    intro t ht
    rcases List.mem_append.1 ht with ht | ht
    ·
     exact ha t ht
    ·
     obtain rfl := List.mem_singleton.1 ht; exact ⟨(by (try simp only [List.length_set, List.length_drop, List.length_take, List.length_append, List.length_cons, List.length_nil, Int.natCast_add, Int.natCast_one, Int.natCast_zero] at *); omega), (by (try simp only [List.length_set, List.length_drop, List.length_take, List.length_append, List.length_cons, List.length_nil, Int.natCast_add, Int.natCast_one, Int.natCast_zero] at *); omega)⟩) so.1 so.2 (by omega) (by omega)
   simp only [List.length_append, List.length_singleton, Int.natCast_add, Int.natCast_one] at this
   rw [wl]
   exact this.mono (by rintro ⟨m, q⟩ ⟨e1, e2, e3, e4⟩; exact ⟨e1, (by (try simp only [List.length_set, List.length_drop, List.length_take, List.length_append, List.length_cons, List.length_nil, Int.natCast_add, Int.natCast_one, Int.natCast_zero] at *); omega), (by (try simp only [List.length_set, List.length_drop, List.length_take, List.length_append, List.length_cons, List.length_nil, Int.natCast_add, Int.natCast_one, Int.natCast_zero] at *); omega), e4⟩)
theorem drawMelody_ev {s : List Int} (hc : Code s) (p top : Int) (hp : 0 ≤ p) (hp' : p ≤ 1000000) (hm : 0 ≤ top) (hm' : top ≤ 500) :
 Evx (fun k => spec_l91Melody.f k s p top) (fun r => (r.1.length : Int) ≤ top ∧ p ≤ r.2 ∧ r.2 ≤ p + 2000 ∧ ∀ t ∈ r.1, -1 ≤ t.f0 ∧ t.f0 ≤ 21) := by
 unfold spec_l91Melody.f
 rw [w64 (x := top + 1) (by omega) (by omega)]
 refine Evx.bind (pick_ev hc p (top + 1) hp (by omega)) ?_
 rintro ⟨n, q⟩ ⟨hn0, hn1, rfl⟩
 have hn0 : 0 ≤ n := hn0
 have hn1 : n < top + 1 ∨ n = 0 := hn1
 refine Evx.bind (pick_ev hc (p + 1) 5 (by omega) (by omega)) ?_
 rintro ⟨u, q⟩ ⟨hu0, hu1, rfl⟩
 have hu0 : 0 ≤ u := hu0
 have hu1 : u < 5 ∨ u = 0 := hu1
 have := drawMelody_loop hc n (by omega) n.toNat [] (wrap64 (4 + u)) (p + 1 + 1) (by (try simp only [List.length_set, List.length_drop, List.length_take, List.length_append, List.length_cons, List.length_nil, Int.natCast_add, Int.natCast_one, Int.natCast_zero] at *); omega) (by simp) (by rw [w64 (by omega) (by omega)]; omega) (by rw [w64 (by omega) (by omega)]; omega) (by omega) (by omega)
 exact this.mono (by rintro ⟨m, q⟩ ⟨e1, e2, e3, e4⟩; exact ⟨(by (try simp only [List.length_set, List.length_drop, List.length_take, List.length_append, List.length_cons, List.length_nil, Int.natCast_add, Int.natCast_one, Int.natCast_zero] at *); omega), (by (try simp only [List.length_set, List.length_drop, List.length_take, List.length_append, List.length_cons, List.length_nil, Int.natCast_add, Int.natCast_one, Int.natCast_zero] at *); omega), (by (try simp only [List.length_set, List.length_drop, List.length_take, List.length_append, List.length_cons, List.length_nil, Int.natCast_add, Int.natCast_one, Int.natCast_zero] at *); omega), e4⟩)

def MV (k s : Int) : List S29 → List S29 → Prop
 | [], [] => True
 | x :: xs, y :: ys => (y.f0 = x.f0 + k ∧ toneOk y = true ∧ hgt y - hgt x = s) ∧ MV k s xs ys
 | _, _ => False
theorem MV_len {k s : Int} : ∀ {m M : List S29}, MV k s m M → M.length = m.length
 | [], [], _ => rfl
 | x :: xs, y :: ys, h => by rw [List.length_cons, List.length_cons, MV_len h.2]
 | [], _ :: _, h => h.elim
 | _ :: _, [], h => h.elim
theorem MV_get {k s : Int} : ∀ {m M : List S29}, MV k s m M → ∀ i, i < m.length → (M.getD i z29).f0 = (m.getD i z29).f0 + k
 | [], [], _, i, hi => by cases hi
 | x :: xs, y :: ys, h, 0, _ => h.1.1
 | x :: xs, y :: ys, h, i + 1, hi => by
  have := MV_get h.2 i (by simp only [List.length_cons] at hi; omega)
  simpa using this
 | [], _ :: _, h, _, _ => h.elim
 | _ :: _, [], h, _, _ => h.elim
theorem MV_ok {k s : Int} : ∀ {m M : List S29}, MV k s m M → M.all toneOk = true
 | [], [], _ => rfl
 | x :: xs, y :: ys, h => by rw [List.all_cons, h.1.2.1, MV_ok h.2]; rfl
 | [], _ :: _, h => h.elim
 | _ :: _, [], h => h.elim
theorem MV_all {k s : Int} : ∀ {m M : List S29}, mvAll k s m = some M → MV k s m M
 | [], M, h => by cases h; trivial
 | x :: xs, M, h => by
  simp only [mvAll] at h
  have good : ∀ b, mvGood k s x b = true → (mvT x k b).f0 = x.f0 + k ∧ toneOk (mvT x k b) = true ∧ hgt (mvT x k b) - hgt x = s := by
   intro b hb
   unfold mvGood at hb
   rw [Bool.and_eq_true, decide_eq_true_eq] at hb
   exact ⟨rfl, hb.1, hb.2⟩
  split at h
  ·
   rename_i hg
   obtain ⟨l, h1, rfl⟩ := Option.map_eq_some_iff.1 h
   exact ⟨good _ hg, MV_all h1⟩
  ·
   split at h
   ·
    rename_i hg
    obtain ⟨l, h1, rfl⟩ := Option.map_eq_some_iff.1 h
    exact ⟨good _ hg, MV_all h1⟩
   ·
    cases h
theorem mmove_spec {m M : List S29} {k : Int} (h : mmove m k = (M, true)) : melOk m = true ∧ ((m = [] ∧ M = []) ∨ (m ≠ [] ∧ (-20 ≤ k ∧ k ≤ 20) ∧ ∃ s, MV k s m M)) := by
 unfold mmove at h
 split at h
 ·
  rename_i hok
  refine ⟨hok, ?_⟩
  split at h
  ·
   rename_i h0
   cases h
   exact .inl ⟨List.eq_nil_of_length_eq_zero h0, rfl⟩
  ·
   rename_i h0
   refine .inr ⟨fun e => h0 (by rw [e]; rfl), ?_⟩
   split at h
   ·
    rename_i hk
    refine ⟨hk, ?_⟩
    have go : ∀ b, mmTry m k b = true → mmOf m k b = M → ∃ s, MV k s m M := by
     intro b ht ho
     unfold mmTry at ht
     rw [Bool.and_eq_true] at ht
     unfold mmOf at ho
     unfold movedP at ht ho
     obtain ⟨s, hs⟩ : ∃ s, s = hgt (mvT (rd_T29 m 0) k b) - hgt (rd_T29 m 0) := ⟨_, rfl⟩
     rw [← hs] at ht ho
     cases hl : mvAll k s m with
     | none => rw [hl] at ht; exact absurd ht.2 (by simp)
     | some l =>
      rw [hl] at ho
      have ho : l = M := ho
      subst ho
      exact ⟨s, MV_all hl⟩
    split at h
    ·
     rename_i ht
     exact go _ ht (congrArg Prod.fst h)
    ·
     split at h
     ·
      rename_i ht
      exact go _ ht (congrArg Prod.fst h)
     ·
      cases h
   ·
    cases h
 ·
  cases h
end Go.Proofs.YtpcohkffbjdmfaaDoor.Pure
namespace Go.Proofs.YtpcohkffbjdmfaaDoor.Pure
set_option linter.unusedVariables false
set_option linter.unusedSimpArgs false
open Go Go.RowKit Go.Proofs.YtpcohkffbjdmfaaDoor.PFnContour Go.Proofs.YtpcohkffbjdmfaaDoorW.PrintWords Go.Proofs.YtpcohkffbjdmfaaDoorW.PrintLast Go.Proofs.YtpcohkffbjdmfaaDoorW.PrintMore

theorem impl_MelodyBack_ev (m : List S29) (hok : melOk m = true) : Ev (fun k => impl_MelodyBack.f k m) (m.reverse, true) := by
 have hl := melOk_len hok
 unfold impl_MelodyBack.f
 refine Ev.bind (impl_MelodyValid_ev m) ?_
 rw [hok]
 refine Ev.pos rfl (Ev.pos (by omega) (Ev.pos (by omega) ?_))
 have := Ev.over z29 m (fun k (Y : List S29) i => impl_MelodyBack.l0 k m Y m m.length i) (fun _ _ => (m.reverse, true)) (fun i Y => Y.length = m.length ∧ ∀ j, j < i → Y.getD (m.length - 1 - j) z29 = m.getD j z29) (by
  rintro Y ⟨h1, h2⟩
  refine Ev.succ ?_
  simp only [impl_MelodyBack.l0]
  refine Ev.neg (by omega) (Ev.eqr (Ev.now _) ?_)
  have : Y = m.reverse := by
   refine List.ext_getElem (by rw [h1, List.length_reverse]) (fun n a b => ?_)
   have hn : n < m.length := by omega
   have := h2 (m.length - 1 - n) (by omega)
   rw [show m.length - 1 - (m.length - 1 - n) = n by omega, List.getD_eq_getElem?_getD, List.getD_eq_getElem?_getD, List.getElem?_eq_getElem a, List.getElem?_eq_getElem (show m.length - 1 - n < m.length by omega)] at this
   rw [List.getElem_reverse]
   exact this
  rw [this]) (by
  rintro Y i rest ⟨h1, h2⟩ hi hdr ih
  refine Ev.succ ?_
  simp only [impl_MelodyBack.l0]
  rw [w64 (x := (m.length : Int) - 1) (by omega) (by omega), w64 (x := (m.length : Int) - 1 - (i : Int)) (by omega) (by omega), w64 (x := (i : Int) + 1) (by omega) (by omega)]
  refine Ev.pos (by omega) (Ev.pos (by omega) (Ev.pos (by omega) (Ev.pos (by omega) (Ev.pos (by omega) ?_))))
  rw [show ((m.length : Int) - 1 - (i : Int)).toNat = m.length - 1 - i by omega]
  refine ih _ ⟨by rw [List.length_set]; exact h1, fun j hj => ?_⟩
  rw [List.getD_eq_getElem?_getD, List.getElem?_set]
  by_cases hji : j = i
  ·
   subst hji
   rw [if_pos rfl, if_pos (by omega)]
   rfl
  ·
   rw [if_neg (by omega), ← List.getD_eq_getElem?_getD]
   exact h2 j (by omega)) 0 (List.replicate ((m.length : Int) : Int).toNat z29) (Nat.zero_le _) ⟨by simp, fun j hj => absurd hj (Nat.not_lt_zero _)⟩
 simpa using this

def turnB (x : Int) : Int := if x = 117 then 100 else if x = 100 then 117 else x
theorem wayB_turn (x y : Int) : wayB y x = turnB (wayB x y) := by
 unfold wayB turnB
 by_cases h1 : x < y
 ·
  rw [if_neg (by omega), if_pos h1, if_pos h1]; decide
 ·
  by_cases h2 : y < x
  ·
   rw [if_pos h2, if_neg h1, if_pos h2]; decide
  ·
   rw [if_neg h2, if_neg h1, if_neg h1, if_neg h2]; decide
theorem wayB_mem (x y : Int) : wayB x y = 117 ∨ wayB x y = 100 ∨ wayB x y = 115 := by
 unfold wayB
 split
 ·
  exact .inl rfl
 ·
  split
  ·
   exact .inr (.inl rfl)
  ·
   exact .inr (.inr rfl)
theorem ways_len (m : List S29) : (ways m).length = m.length - 1 := wyUpto_len m _
theorem ways_get (m : List S29) (i : Nat) (h : i < (ways m).length) : (ways m)[i] = wyAt m i := by simp [ways, wyUpto]
theorem ways_mem {m : List S29} {x : Int} (h : x ∈ ways m) : x = 117 ∨ x = 100 ∨ x = 115 := by
 unfold ways wyUpto at h
 obtain ⟨i, _, rfl⟩ := List.mem_map.1 h
 exact wayB_mem _ _
theorem ways_eq {m M : List S29} {k : Int} (hl : M.length = m.length) (hs : ∀ i, i < m.length → (M.getD i z29).f0 = (m.getD i z29).f0 + k) : ways M = ways m := by
 apply List.ext_getElem
 ·
  rw [ways_len, ways_len, hl]
 ·
  intro i h1 h2
  rw [ways_len] at h1 h2
  rw [ways_get, ways_get]
  unfold wyAt rd_T29 wayB
  have e : ((i : Int) + 1).toNat = i + 1 := by omega
  rw [e, Int.toNat_natCast, hs i (by omega), hs (i + 1) (by omega)]
  have c1 : ((m.getD i z29).f0 + k < (m.getD (i + 1) z29).f0 + k) ↔ ((m.getD i z29).f0 < (m.getD (i + 1) z29).f0) := by omega
  have c2 : ((m.getD (i + 1) z29).f0 + k < (m.getD i z29).f0 + k) ↔ ((m.getD (i + 1) z29).f0 < (m.getD i z29).f0) := by omega
  simp only [c1, c2]
theorem ways_rev (m : List S29) : ways m.reverse = ((ways m).reverse).map turnB := by
 apply List.ext_getElem
 ·
  rw [ways_len, List.length_reverse, List.length_map, List.length_reverse, ways_len]
 ·
  intro i h1 h2
  rw [ways_len, List.length_reverse] at h1
  rw [ways_get, List.getElem_map, List.getElem_reverse, ways_get]
  unfold wyAt rd_T29
  have e : ((i : Int) + 1).toNat = i + 1 := by omega
  rw [ways_len, e, Int.toNat_natCast, ← wayB_turn]
  have g : ∀ j, j < m.length → m.reverse.getD j z29 = m.getD (m.length - 1 - j) z29 := by
   intro j hj
   rw [List.getD_eq_getElem?_getD, List.getD_eq_getElem?_getD, List.getElem?_reverse hj]
  rw [g i (by omega), g (i + 1) (by omega)]
  have a1 : m.length - 1 - (i + 1) = m.length - 1 - 1 - i := by omega
  have a2 : (((m.length - 1 - 1 - i : Nat) : Int) + 1).toNat = m.length - 1 - i := by omega
  rw [a1, a2, Int.toNat_natCast]
theorem son_snoc (xs : List Int) (x : Int) : strOfNums (xs ++ [x]) = strOfNums xs ++ ⟨#[UInt8.ofNat x.toNat]⟩ := by
 apply ByteArray.ext
 rw [ByteArray.data_append]
 unfold strOfNums
 simp
theorem son_bt {xs : List Int} (hx : ∀ x ∈ xs, 0 ≤ x ∧ x < 256) (i : Nat) (hi : i < xs.length) : bt (strOfNums xs) (i : Int) = xs[i] := by
 unfold bt
 have hs : (strOfNums xs).size = xs.length := strOfNums_size xs
 rw [dif_pos (by rw [hs]; omega)]
 have hr := hx _ (List.getElem_mem hi)
 have : ((strOfNums xs)[((i : Nat) : Int).toNat]'(by rw [hs]; omega)) = UInt8.ofNat (xs[i]).toNat := by
  show (strOfNums xs).data[((i : Nat) : Int).toNat]'_ = _
  unfold strOfNums
  simp
 rw [this]
 simp
 omega
theorem cv_ways (m : List S29) (h : m.length ≤ 24) : cvOk (strOfNums (ways m)) = true := by
 unfold cvOk
 rw [strOfNums_size, ways_len, decide_eq_true (by omega), Bool.true_and, strOfNums_data, List.all_eq_true]
 intro b hb
 obtain ⟨x, hx, rfl⟩ := List.mem_map.1 hb
 rcases ways_mem hx with rfl | rfl | rfl <;> decide
theorem spec_l3Way_eq (a b : Int) : spec_l3Way.f a b = some ⟨#[UInt8.ofNat (wayB a b).toNat]⟩ := by
 unfold spec_l3Way.f wayB
 by_cases h1 : a < b
 ·
  rw [if_pos h1, if_pos h1]; rfl
 ·
  rw [if_neg h1, if_neg h1]
  by_cases h2 : b < a
  ·
   rw [if_pos h2, if_pos h2]; rfl
  ·
   rw [if_neg h2, if_neg h2]; rfl
theorem spec_ContourOf_ev (m : List S29) (hm : m.length ≤ 1000) : Ev (fun n => spec_ContourOf.f n m) (cOf m) := by
 unfold spec_ContourOf.f cOf
 refine Ev.bind (spec_MelodyValid_ev m (by omega)) ?_
 cases hok : melOk m
 ·
  exact Ev.neg (by simp) (Ev.eqr (Ev.now _) (by simp))
 rw [if_pos rfl]
 suffices h : Ev (fun n => spec_l3Contour.f n m) (strOfNums (ways m)) from Ev.pos rfl (Ev.bind h (Ev.now _))
 unfold spec_l3Contour.f
 have := Ev.upto (fun n (s : ByteArray) i => spec_l3Contour.l0 n m s (i + 1)) (fun i => strOfNums (wyUpto m i)) (m.length - 1) (strOfNums (ways m)) (by
  refine Ev.succ ?_
  simp only [spec_l3Contour.l0]
  exact Ev.neg (by omega) (Ev.now _)) (by
  intro i hi ih
  refine Ev.succ ?_
  simp only [spec_l3Contour.l0]
  rw [w64 (x := (i : Int) + 1 - 1) (by omega) (by omega), w64 (x := (i : Int) + 1 + 1) (by omega) (by omega)]
  have e : (i : Int) + 1 - 1 = (i : Int) := by omega
  rw [e]
  have hsz : (strOfNums (wyUpto m i)).size = i := by rw [strOfNums_size, wyUpto_len]
  refine Ev.pos (by omega) (Ev.pos (by omega) (Ev.pos (by omega) (Ev.pos (by omega) (Ev.conb (spec_l3Way_eq _ _) (Ev.pos (by rw [hsz]; show i + 1 ≤ _; omega) ?_)))))
  rw [wyUpto_succ, son_snoc] at ih
  exact ih) 0 (Nat.zero_le _)
 have e0 : strOfNums (wyUpto m 0) = ⟨#[]⟩ := rfl
 simp only [e0] at this
 exact this
theorem impl_ContourBack_ev {xs : List Int} (hx : ∀ x ∈ xs, x = 117 ∨ x = 100 ∨ x = 115) (hl : xs.length ≤ 23) : Ev (fun n => impl_ContourBack.f n (strOfNums xs)) (strOfNums (xs.reverse.map turnB), true) := by
 have hsz : (strOfNums xs).size = xs.length := strOfNums_size xs
 have hcv : cvOk (strOfNums xs) = true := by
  unfold cvOk
  rw [hsz, decide_eq_true hl, Bool.true_and, strOfNums_data, List.all_eq_true]
  intro b hb
  obtain ⟨x, hx', rfl⟩ := List.mem_map.1 hb
  rcases hx x hx' with rfl | rfl | rfl <;> decide
 have hv : impl_ContourValid.f (strOfNums xs) = some true := by unfold impl_ContourValid.f; rw [if_pos (by omega), hcv]
 unfold impl_ContourBack.f
 refine Ev.conb hv (Ev.pos rfl ?_)
 have hb : ∀ x ∈ xs, 0 ≤ x ∧ x < 256 := fun x h => by rcases hx x h with rfl | rfl | rfl <;> omega
 have lp : ∀ d acc, d ≤ xs.length → acc = ((xs.drop d).reverse.map turnB) → Ev (fun n => impl_ContourBack.l0 n (strOfNums xs) acc ((d : Int) - 1)) (strOfNums (xs.reverse.map turnB), true) := by
  intro d
  induction d with
  | zero =>
   intro acc _ ha
   refine Ev.succ ?_
   simp only [impl_ContourBack.l0]
   refine Ev.neg (by omega) (Ev.eqr (Ev.now _) ?_)
   rw [ha]; rfl
  | succ d ih =>
   intro acc hd ha
   refine Ev.succ ?_
   simp only [impl_ContourBack.l0]
   have e : (((d + 1 : Nat) : Int) - 1) = (d : Int) := by omega
   rw [e, w64 (x := (d : Int) - 1) (by omega) (by omega)]
   have hdl : d < xs.length := by omega
   have ht : impl_turnedWay.f (bt (strOfNums xs) (d : Int)) = some (turnB xs[d]) := by
    rw [son_bt hb d hdl]
    unfold impl_turnedWay.f turnB
    split
    ·
     rfl
    ·
     split <;> rfl
   have hal : acc.length ≤ 23 := by rw [ha, List.length_map, List.length_reverse, List.length_drop]; omega
   refine Ev.pos (by omega) (Ev.pos (by omega) (Ev.pos (by rw [hsz]; omega) (Ev.conb ht (Ev.pos (by omega) ?_))))
   refine ih _ (by omega) ?_
   rw [ha, List.drop_eq_getElem_cons hdl, List.reverse_cons, List.map_append]
   rfl
 rw [hsz, w64 (x := (xs.length : Int) - 1) (by omega) (by omega)]
 exact lp xs.length [] (Nat.le_refl _) (by simp)
theorem drawCT_ev (l0 : List Int) (hw : ∀ x ∈ l0, (Lit.int .u8 x).wf = true) : Evx (fun n => spec_DrawContourOf.f n l0) (fun r => r.length ≤ 600) := by
 obtain ⟨s, ho, hc⟩ := open_ev l0 hw
 unfold spec_DrawContourOf.f
 refine Evx.conb ho (Evx.bind (drawMelody_ev hc 0 10 (by omega) (by omega) (by omega) (by omega)) ?_)
 rintro ⟨m, q⟩ ⟨h1, _⟩
 have h1 : (m.length : Int) ≤ 10 := h1
 exact Evx.now (by show m.length ≤ 600; omega)
set_option maxHeartbeats 1000000 in
theorem FnContour_core (l0 : List Int) (hm0 : l0.length ≤ maxLen) (hw : ∀ x ∈ l0, (Lit.int .u8 x).wf = true) : ∃ n, laws_FnContour.f n l0 = some true := by
 unfold maxLen at hm0
 have key : Ev (fun n => laws_FnContour.f n l0) true := by
  unfold laws_FnContour.f
  by_cases hb : (l0.length : Int) > 1048576
  ·
   exact Ev.pos hb (Ev.now _)
  refine Ev.neg hb ?_
  obtain ⟨m, hd, hm⟩ := drawCT_ev l0 hw
  have co : ∀ M : List S29, impl_ContourOf.f M = some (cOf M) := fun _ => rfl
  refine Ev.bind hd (Ev.conb (co m) (Ev.bind (spec_ContourOf_ev m (by omega)) (Ev.pos rfl (Ev.succ ?_))))
  simp only [laws_FnContour.j0]
  cases he : ((cOf m).toList == ([] : List UInt8))
  ·
   refine Ev.neg (by simp) ?_
   have hok : melOk m = true := by
    cases hok : melOk m
    ·
     exfalso
     have : cOf m = ⟨#[]⟩ := by unfold cOf; rw [if_neg (by rw [hok]; simp)]
     rw [this, Lib.toList_data] at he
     exact absurd he (by decide)
    ·
     rfl
   have hml := melOk_len hok
   have hcm : cOf m = strOfNums (ways m) := by unfold cOf; rw [if_pos hok]
   have hne : 1 ≤ m.length := by
    rcases Nat.eq_zero_or_pos m.length with h | h
    ·
     exfalso
     have : m = [] := List.eq_nil_of_length_eq_zero h
     subst this
     rw [show cOf [] = ⟨#[]⟩ from rfl, Lib.toList_data] at he
     exact absurd he (by decide)
    ·
     exact h
   rw [hcm]
   clear he hcm
   obtain ⟨⟨M, ok⟩, hM⟩ : ∃ R, R = mmove m 7 := ⟨_, rfl⟩
   have hmv : impl_MelodyMove.f m 7 = some (M, ok) := by
    unfold impl_MelodyMove.f
    rw [if_pos (by omega), hM]
   have hcb := impl_ContourBack_ev (xs := ways m) (fun x hx => ways_mem hx) (by rw [ways_len]; omega)
   have hsz : (strOfNums (ways m)).size = m.length - 1 := by rw [strOfNums_size, ways_len]
   have hrev : cOf m.reverse = strOfNums ((ways m).reverse.map turnB) := by
    unfold cOf
    have : melOk m.reverse = true := by
     unfold melOk at hok ⊢
     rw [List.length_reverse, List.all_reverse]; exact hok
    rw [if_pos this, ways_rev]
   have hcv : impl_ContourValid.f (strOfNums (ways m)) = some true := by unfold impl_ContourValid.f; rw [if_pos (by omega), cv_ways m hml]
   refine Ev.conb hmv (Ev.bind (impl_MelodyBack_ev m hok) (Ev.bind hcb ?_))
   rw [w64 (x := (m.length : Int) - 1) (by omega) (by omega)]
   refine Ev.pos (by rw [hsz]; omega) ?_
   have fin : Ev (fun n => if (true : Bool) = true then (if (true : Bool) = true then ((impl_ContourOf.f m.reverse).bind fun t218 => (if t218.toList = (strOfNums ((ways m).reverse.map turnB)).toList then ((impl_ContourValid.f (strOfNums (ways m))).bind fun t219 => (some t219)) else (some false))) else (some false)) else (some false)) true := by
    refine Ev.pos rfl (Ev.pos rfl (Ev.conb (co m.reverse) ?_))
    rw [hrev]
    exact Ev.pos rfl (Ev.conb hcv (Ev.now _))
   cases ok
   ·
    exact Ev.neg (by simp) fin
   ·
    refine Ev.pos rfl (Ev.conb (co M) ?_)
    have hMw : cOf M = strOfNums (ways m) := by
     obtain ⟨_, ⟨h1, _⟩ | ⟨_, _, s, hmv2⟩⟩ := mmove_spec hM.symm
     ·
      rw [h1] at hne; exact absurd hne (by simp)
     ·
      have hMo : melOk M = true := by
       unfold melOk
       rw [MV_ok hmv2, decide_eq_true (by rw [MV_len hmv2]; exact hml)]; rfl
      unfold cOf
      rw [if_pos hMo, ways_eq (MV_len hmv2) (fun i hi => MV_get hmv2 i hi)]
    rw [hMw]
    exact Ev.pos rfl fin
  ·
   exact Ev.pos rfl (Ev.eqr (Ev.now _) (by simp))
 exact Ev.rounds key
theorem FnContour_walk (l0 : List Int) (A0 : Option Addr) (c0 : Nat) (w : World) (ht : HTab w) (hr0 : Kd.C (Kd.int .u8) w A0 l0.length l0) (hc0 : l0.length ≤ c0) (hw0 : ∀ x ∈ l0, (Lit.int .u8 x).wf = true) (hm0 : l0.length ≤ maxLen) :
 Calls Tryd.prog 8 #[.slice A0 l0.length c0] w fun e w' => e = .returned (.bool true) ∧ Below w.heap.size w w' := by
 obtain ⟨k, h⟩ := FnContour_core l0 hm0 hw0
 exact laws_FnContour.calls k A0 c0 l0 true w ht hr0 hc0 rfl h

def Opn {α : Type} (P : Program) (t : TypeId) (d : Kd α) (ok : α → Prop) : Prop :=
 P.cellsOf t = d.sz ∧ ∀ {H : Type} (enc : TypeId × Value → H) (w : World) (base : Nat) (held : Bool) (fuel : Nat) (cs : List Value) (x : DataW H × List MemPlace), DataW.trod enc P w base (fun _ => true) held fuel t cs = some x → ∃ p, d.K w p cs ∧ ok p
theorem opn_int {P : Program} {t : TypeId} (k : IntKind) (ht : P.underlying t = some (.int k)) (hc : P.cellsOf t = 1) : Opn P t (Kd.int k) (fun n => (Lit.int k n).wf = true) :=
 ⟨hc, fun enc w base held fuel cs x h => by obtain ⟨n, rfl, _, hw⟩ := DataW.trod_int ht h; exact ⟨n, rfl, hw⟩⟩
theorem opn_slice {α : Type} {P : Program} {t e : TypeId} {d : Kd α} {ok : α → Prop} (ht : P.underlying t = some (.slice e)) (hc : P.cellsOf t = 1) (he : Opn P e d ok) : Opn P t (Kd.slice e d) (fun l => (∀ x ∈ l, ok x) ∧ l.length ≤ maxLen) := by
 refine ⟨hc, fun enc w base held fuel cs x h => ?_⟩
 rcases Go.Deep.open_slice ht h with ⟨rfl, _⟩ | ⟨a, len, cap, m, n, D, Pl, rfl, _, hl, hm, hmm, _, hi⟩
 ·
  exact ⟨[], ⟨none, 0, rfl, Nat.le_refl _, rfl, by simp, fun h => by simp at h⟩, by simp, by simp⟩
 ·
  have hmc : m = cap := by simpa using hmm
  clear hmm
  have key : ∀ k, k ≤ len → ∃ l : List α, l.length = k ∧ (∀ x ∈ l, ok x) ∧ ∀ j p, l[j]? = some p → ∃ c, c.length = d.sz ∧ d.K w p c ∧ ∀ i u, c[i]? = some u → w.cell? (a.add (j * d.sz + i)) = some u := by
   intro k
   induction k with
   | zero => intro _; exact ⟨[], rfl, by simp, by simp⟩
   | succ k ih =>
    intro hk
    obtain ⟨l, hll, hlo, hlc⟩ := ih (by omega)
    obtain ⟨cs', hcs, ht'⟩ := hi k (by omega)
    rw [he.1] at hcs
    obtain ⟨p, hp, hop⟩ := he.2 enc w base held n cs' _ ht'
    obtain ⟨_, hcl, hat⟩ := World.cells?_some hcs
    refine ⟨l ++ [p], by simp [hll], ?_, ?_⟩
    ·
     intro x hx
     rcases List.mem_append.1 hx with hx | hx
     ·
      exact hlo x hx
     ·
      rw [List.mem_singleton.1 hx]; exact hop
    ·
     intro j q hq
     by_cases hj : j < l.length
     ·
      rw [List.getElem?_append_left hj] at hq
      exact hlc j q hq
     ·
      have hj2 : j = l.length := by
       have := (List.getElem?_eq_some_iff.1 hq).1
       simp at this; omega
      subst hj2
      rw [List.getElem?_append_right (Nat.le_refl _)] at hq
      simp at hq
      subst hq
      refine ⟨cs', hcl, hp, fun i u hu => ?_⟩
      have hil : i < d.sz := by rw [← hcl]; exact (List.getElem?_eq_some_iff.1 hu).1
      rw [hll, ← Go.Deep.add_add, hat i hil, hu]
  obtain ⟨l, hll, hlo, hlc⟩ := key len (Nat.le_refl _)
  subst hll
  exact ⟨l, ⟨some a, cap, rfl, hl, rfl, by unfold maxLen at hm; omega, fun _ => ⟨a, rfl, hlc⟩⟩, hlo, by omega⟩
/-- A slice argument. -/
theorem opn_arg {α : Type} {P : Program} {t e : TypeId} {d : Kd α} {ok : List α → Prop} (h : Opn P t (Kd.slice e d) ok) {H : Type} {enc : TypeId × Value → H} {w : World} {base : Nat} {held : Bool} {a : Option Addr} {len cap : Nat} {x : DataW H} {p : List MemPlace} (hr : DataW.Trod enc P w base (fun _ => true) held t (.slice a len cap) x p) :
 ∃ l : List α, len = l.length ∧ l.length ≤ cap ∧ d.C w a l.length l ∧ ok l := by
 obtain ⟨fuel, hf⟩ := hr
 obtain ⟨l, ⟨A, c, he, hc, hC⟩, ho⟩ := h.2 enc w base held fuel _ _ hf
 simp [Value.cells] at he
 obtain ⟨rfl, rfl, rfl⟩ := he
 exact ⟨l, rfl, hc, hC, ho⟩

end Go.Proofs.YtpcohkffbjdmfaaDoor.Pure
