/- Lemmas for the law FnExactSingBest. -/
import Derived.Test.YtiagfjbngpbejaaDoorSFnExactSingBests2
namespace Go.Proofs.YtiagfjbngpbejaaDoor.PFnExactSingBest
open Go.RowKit Go.Proofs.YtiagfjbngpbejaaDoorW.PrintWords Go.Proofs.YtiagfjbngpbejaaDoorW.PrintLast Go.Proofs.YtiagfjbngpbejaaDoorW.PrintMore
attribute [local go_sem] max2_int min2_int max_two min_two max_three min_three max_four min_four   -- for this text's walks alone
set_option linter.unusedVariables false
set_option linter.unusedSimpArgs false

mutual
def spec_l2Fewest.l0 : Nat → List (S29) → Int → List (List Int) → Int → Option ((List (List Int)))
 | 0, _, _, _, _ => none
 | k + 1, x0, x3, x4, x5 => if x5 ≥ 0 then (if 21 ≤ 35184372088832 then (if 0 ≤ x5 then (if x5 < (x4.length : Int) then (spec_l2Fewest.l1 k x0 x3 (x4.set (x5 : Int).toNat (List.replicate 21 0)) x5 0) else (none)) else (none)) else (none)) else (some x4)
def spec_l2Fewest.l1 : Nat → List (S29) → Int → List (List Int) → Int → Int → Option ((List (List Int)))
 | 0, _, _, _, _, _ => none
 | k + 1, x0, x3, x4, x5, x6 => if x6 ≤ 20 then (if 0 ≤ x5 then (if x5 < (x4.length : Int) then (if 0 ≤ x6 then (if x6 < ((rd_L4 x4 x5).length : Int) then ((some (x4.set (x5 : Int).toNat ((rd_L4 x4 x5).set (x6 : Int).toNat (-1)) : List (List Int))).bind fun y188 => (if x5 < (x0.length : Int) then ((spec_HexSyllable.f k x6 ((rd_T29 x0 x5).f0) ((rd_T29 x0 x5).f1)).bind fun t190 => (if t190 < 0 then (spec_l2Fewest.l1 k x0 x3 y188 x5 (wrap64 (x6 + 1))) else (if x5 = (wrap64 (x3 - 1)) then (if x6 < ((rd_L4 y188 x5).length : Int) then (spec_l2Fewest.l1 k x0 x3 (y188.set (x5 : Int).toNat ((rd_L4 y188 x5).set (x6 : Int).toNat 0)) x5 (wrap64 (x6 + 1))) else (none)) else (spec_l2Fewest.l2 k x0 x3 y188 x5 x6 0)))) else (none))) else (none)) else (none)) else (none)) else (none)) else (spec_l2Fewest.l0 k x0 x3 x4 (wrap64 (x5 - 1)))
def spec_l2Fewest.l2 : Nat → List (S29) → Int → List (List Int) → Int → Int → Int → Option ((List (List Int)))
 | 0, _, _, _, _, _, _ => none
 | k + 1, x0, x3, x4, x5, x6, x7 => if x7 ≤ 20 then (if 0 ≤ (wrap64 (x5 + 1)) then (if (wrap64 (x5 + 1)) < (x4.length : Int) then (if 0 ≤ x7 then (if x7 < ((rd_L4 x4 (wrap64 (x5 + 1))).length : Int) then (if (rd (rd_L4 x4 (wrap64 (x5 + 1))) x7) < 0 then (spec_l2Fewest.l2 k x0 x3 x4 x5 x6 (wrap64 (x7 + 1))) else (if x7 = x6 then (if 0 ≤ x5 then (if x5 < (x4.length : Int) then (if 0 ≤ x6 then (if x6 < ((rd_L4 x4 x5).length : Int) then (if (rd (rd_L4 x4 x5) x6) < 0 then (spec_l2Fewest.l2 k x0 x3 (x4.set (x5 : Int).toNat ((rd_L4 x4 x5).set (x6 : Int).toNat (rd (rd_L4 x4 (wrap64 (x5 + 1))) x7))) x5 x6 (wrap64 (x7 + 1))) else (if (rd (rd_L4 x4 (wrap64 (x5 + 1))) x7) < (rd (rd_L4 x4 x5) x6) then (spec_l2Fewest.l2 k x0 x3 (x4.set (x5 : Int).toNat ((rd_L4 x4 x5).set (x6 : Int).toNat (rd (rd_L4 x4 (wrap64 (x5 + 1))) x7))) x5 x6 (wrap64 (x7 + 1))) else (spec_l2Fewest.l2 k x0 x3 x4 x5 x6 (wrap64 (x7 + 1))))) else (none)) else (none)) else (none)) else (none)) else (if 0 ≤ x5 then (if x5 < (x4.length : Int) then (if 0 ≤ x6 then (if x6 < ((rd_L4 x4 x5).length : Int) then (if (rd (rd_L4 x4 x5) x6) < 0 then (spec_l2Fewest.l2 k x0 x3 (x4.set (x5 : Int).toNat ((rd_L4 x4 x5).set (x6 : Int).toNat (wrap64 ((rd (rd_L4 x4 (wrap64 (x5 + 1))) x7) + 1)))) x5 x6 (wrap64 (x7 + 1))) else (if (wrap64 ((rd (rd_L4 x4 (wrap64 (x5 + 1))) x7) + 1)) < (rd (rd_L4 x4 x5) x6) then (spec_l2Fewest.l2 k x0 x3 (x4.set (x5 : Int).toNat ((rd_L4 x4 x5).set (x6 : Int).toNat (wrap64 ((rd (rd_L4 x4 (wrap64 (x5 + 1))) x7) + 1)))) x5 x6 (wrap64 (x7 + 1))) else (spec_l2Fewest.l2 k x0 x3 x4 x5 x6 (wrap64 (x7 + 1))))) else (none)) else (none)) else (none)) else (none)))) else (none)) else (none)) else (none)) else (none)) else (spec_l2Fewest.l1 k x0 x3 x4 x5 (wrap64 (x6 + 1)))
end
def spec_l2Fewest.f (k : Nat) (l0 : List (S29)) : Option ((List (List Int))) := if 0 ≤ (l0.length : Int) then (if ((l0.length : Int) : Int).toNat ≤ 11728124029610 then (spec_l2Fewest.l0 k l0 (l0.length : Int) (List.replicate ((l0.length : Int) : Int).toNat []) (wrap64 ((l0.length : Int) - 1))) else (none)) else (none)
set_option maxHeartbeats 8000000 in
set_option maxRecDepth 100000 in
theorem spec_l2Fewest.calls (k : Nat) (A0 : Option Addr) (c0 : Nat) (l0 : List (S29)) (r : List (List Int)) (w : World) (hr0 : Kd.C k29 w A0 l0.length l0) (hc0 : l0.length ≤ c0) (h : spec_l2Fewest.f k l0 = some r) :
 Calls Tryd.prog 27 #[.slice A0 l0.length c0] w fun e w' => ∃ v0_ : Value, e = .returned (v0_) ∧ Kd.S (Kd.slice 3 (Kd.int .i64)) 26 w' w.heap.size (fun _ => True) v0_ r ∧ Below w.heap.size w w' := by
 have hu29 := Tryd.underlying29; have HR0 := Aside0.mk hr0; have HC0 := Aside0.mk hc0; clear hr0 hc0; have HB := Aside0.mk (Below.refl w.heap.size w); have H : (if 0 ≤ (l0.length : Int) then (if ((l0.length : Int) : Int).toNat ≤ 11728124029610 then (spec_l2Fewest.l0 k l0 (l0.length : Int) (List.replicate ((l0.length : Int) : Int).toNat []) (wrap64 ((l0.length : Int) - 1))) else (none)) else (none)) = some r := h; clear h; by_cases c2 : 0 ≤ (l0.length : Int)
 ·
  rw [if_pos c2] at H; have c2b0 := eq_true c2; have c2b1 : decide (0 ≤ (l0.length : Int)) = true := decide_eq_true c2; clear c2; by_cases c3 : ((l0.length : Int) : Int).toNat ≤ 11728124029610
  ·
   rw [if_pos c3] at H; have c3b0 := eq_true c3; have c3b1 : decide (((l0.length : Int) : Int).toNat ≤ 11728124029610) = true := decide_eq_true c3; clear c3; obtain ⟨y178, hy178⟩ : ∃ y_ : List (List Int), y_ = (List.replicate ((l0.length : Int) : Int).toNat []) := ⟨_, rfl⟩
   replace H : (spec_l2Fewest.l0 k l0 (l0.length : Int) y178 (wrap64 ((l0.length : Int) - 1))) = some r := by first | (rw [hy178]; with_reducible exact H) | (have H2_ := (Option.bind_some _ _).symm.trans H; rw [hy178]; with_reducible exact H2_) | (have H2_ := (Option.bind_some _ _).symm.trans H; with_reducible exact H2_) | with_reducible exact H | (rw [hy178]; exact H) | exact H
   have Ny178 := Aside0.mk hy178; clear hy178; have H' := Aside0.mk H; clear H; go_enter Tryd.func27, Tryd.ntmps27
   go_wp2_with (first | ((with_reducible refine gate_dst (N := 12) rfl ?_); refine Kd.S_make (Kd.slice 3 (Kd.int .i64)) _ 26 rfl (N := 12) rfl 58 _ _ rfl (l0.length : Int) rfl rfl Tryd.underlying58 (.slice none 0 0) 24 info26 rfl (by decide) (by omega) [] (ok := fun _ => True) (okp := fun _ => True) ⟨_, rfl, Kd.R_nil _ _ _ _ _⟩ (fun _ hk => hk) trivial (of_decide_eq_true (by first | (with_reducible assumption) | assumption)) (Nat.le_trans (Nat.mul_le_mul_right _ (of_decide_eq_true (by first | (with_reducible assumption) | assumption) : (l0.length : Int).toNat ≤ 11728124029610)) (by omega)) (Below.refl _ _) (Nat.le_refl _) ?_; intro v179 w4 ho5 hb hg_ hnew_; clear hg_ hnew_; (first | rw [← Ny178.out] at ho5 | (simp only [Int.reduceToNat] at ho5; rw [← Ny178.out] at ho5)); have n0_ := Aside0.mk (Kd.S_lower ho5 (below_size (by repeat (first | (with_reducible first | exact HB.out | apply below_alloc | apply pw_below_drewN | apply below_drew1) | exact HB.out)))); have n1_ := Aside0.mk (below_step (by repeat (first | (with_reducible first | exact HB.out | apply below_alloc | apply pw_below_drewN | apply below_drew1) | exact HB.out)) hb); clear HB; have HO180 := n0_; have HB := n1_; clear n0_ n1_; clear hb ho5))
   go_loopg [5] k (fun kq v5 w' => ∃ (x4_1 : List (List Int)) (x5_1 : Int), v5 = .int .i64 x5_1 ∧ Aside0 (spec_l2Fewest.l0 kq l0 (l0.length : Int) x4_1 x5_1 = some r) ∧ Aside0 (kq ≤ k) ∧ Aside0 (Kd.S (Kd.slice 3 (Kd.int .i64)) 26 w' w.heap.size (fun _ => True) v179 x4_1) ∧ Aside0 (Below w.heap.size w w'))
   case atStart => exact ⟨(y178), (wrap64 ((l0.length : Int) - 1)), (by first | rfl | (simp; done) | (simp [*]; done)), H', ⟨Nat.le_refl _⟩, ⟨by (with_reducible repeat (first | apply Kd.S_alloc | apply Kd.S_drewN | apply Kd.S_drew)); exact HO180.out⟩, ⟨by repeat (first | (with_reducible first | exact HB.out | apply below_alloc | apply pw_below_drewN | apply below_drew1) | exact HB.out)⟩⟩
   case round =>
    clear H'; try clear c2
    try clear c2b0
    try clear c2b1
    try clear p2
    try clear c3
    try clear c3b0
    try clear c3b1
    obtain ⟨x4_1, x5_1, rfl, HA, HK1, HO_4, HB⟩ := hrel; cases gk with
    | zero => exact absurd HA.out (by simp [spec_l2Fewest.l0])
    | succ k1 =>
     have H := HA.out; clear HA; simp only [spec_l2Fewest.l0] at H; by_cases c6 : x5_1 ≥ 0
     ·
      rw [if_pos c6] at H; have c6b0 : decide (0 ≤ x5_1) = true := decide_eq_true c6; clear c6; by_cases c7 : 21 ≤ 35184372088832
      ·
       rw [if_pos c7] at H; have c7b0 := eq_true c7; have c7b1 : decide (21 ≤ 35184372088832) = true := decide_eq_true c7; clear c7; obtain ⟨y181, hy181⟩ : ∃ y_ : List Int, y_ = (List.replicate 21 0) := ⟨_, rfl⟩
       replace H : (if 0 ≤ x5_1 then (if x5_1 < (x4_1.length : Int) then (spec_l2Fewest.l1 k1 l0 (l0.length : Int) (x4_1.set (x5_1 : Int).toNat y181) x5_1 0) else (none)) else (none)) = some r := by first | (rw [hy181]; with_reducible exact H) | (have H2_ := (Option.bind_some _ _).symm.trans H; rw [hy181]; with_reducible exact H2_) | (have H2_ := (Option.bind_some _ _).symm.trans H; with_reducible exact H2_) | with_reducible exact H | (rw [hy181]; exact H) | exact H
       have Ny181 := Aside0.mk hy181; clear hy181; by_cases c8 : 0 ≤ x5_1
       ·
        rw [if_pos c8] at H; have c8b0 : decide (0 ≤ x5_1) = true := decide_eq_true c8; clear c8; by_cases c9 : x5_1 < (x4_1.length : Int)
        ·
         rw [if_pos c9] at H; have c9b0 : decide (x5_1 < (x4_1.length : Int)) = true := decide_eq_true c9; clear c9; obtain ⟨y184, hy184⟩ : ∃ y_ : List (List Int), y_ = (x4_1.set (x5_1 : Int).toNat y181) := ⟨_, rfl⟩
         replace H : (spec_l2Fewest.l1 k1 l0 (l0.length : Int) y184 x5_1 0) = some r := by first | (rw [hy184]; with_reducible exact H) | (have H2_ := (Option.bind_some _ _).symm.trans H; rw [hy184]; with_reducible exact H2_) | (have H2_ := (Option.bind_some _ _).symm.trans H; with_reducible exact H2_) | with_reducible exact H | (rw [hy184]; exact H) | exact H
         have Ny184 := Aside0.mk hy184; clear hy184; have H' := Aside0.mk H; clear H; go_wp2_with (first | ((with_reducible refine gate_dst (N := 21) rfl ?_); refine Kd.R_make (Kd.int .i64) _ 3 rfl (N := 21) rfl 26 _ _ rfl 21 rfl rfl Tryd.underlying26 (.int .i64 0) 8 info3 rfl (by decide) (by omega) 0 (ok := fun _ => True) (okp := fun _ => True) rfl (fun _ hk => hk) trivial (by omega) (by omega) (Below.refl _ _) (Nat.le_refl _) ?_; intro v182 w11 ho12 hb hg_ hnew_; clear hg_ hnew_; (first | rw [← Ny181.out] at ho12 | (simp only [Int.reduceToNat] at ho12; rw [← Ny181.out] at ho12)); obtain ⟨av_, cv_, rfl⟩ := Kd.R_slice ho12; have n0_ := Aside0.mk (Kd.S_elder' (by (with_reducible repeat (first | apply Kd.S_alloc | apply Kd.S_drewN | apply Kd.S_drew)); exact HO_4.out) (Kd.R_base ho12) hb); have n1_ := Aside0.mk (Kd.R_lower ho12 (below_size (by repeat (first | (with_reducible first | exact HB.out | apply below_alloc | apply pw_below_drewN | apply below_drew1) | exact HB.out)))); have n2_ := Aside0.mk (below_step (by repeat (first | (with_reducible first | exact HB.out | apply below_alloc | apply pw_below_drewN | apply below_drew1) | exact HB.out)) hb); clear HO_4; clear HB; have HO_4 := n0_; have HO183 := n1_; have HB := n2_; clear n0_ n1_ n2_; clear hb ho12; have p10 : 0 ≤ (x5_1 : Int) := of_decide_eq_true (by first | (with_reducible assumption) | assumption); have q10 : (x5_1 : Int) < ((x4_1.length : Int) : Int) := of_decide_eq_true (by first | (with_reducible assumption) | assumption); obtain ⟨go10, co10, eo10, gb10, gl10, cl10, HG10⟩ := Kd.S_form HO_4.out (by omega); (first | cases eo10 | (injection eo10 with ea_ en_ ec_; (first | subst ea_ | (injection ea_ with ea_; subst ea_)); subst ec_; clear en_)); have GB10 := Aside0.mk gb10; have GG10 := Aside0.mk HG10; clear gb10 gl10 HG10; obtain ⟨_, ce10, hcl10, hM10, hcc10, hfr10, _, _⟩ := Kd.S_elem HO_4.out [] (x5_1 : Int) p10 q10; obtain ⟨ve10_0, rfl, ge10_0⟩ := hM10; have hx10_0 := hcc10 0 _ rfl; have hf10_0 := hfr10 0; (try simp only [show ((Kd.slice 3 (Kd.int .i64))).sz = 1 from rfl, Nat.mul_one, Nat.add_zero] at hx10_0); (try simp only [show ((Kd.slice 3 (Kd.int .i64))).sz = 1 from rfl, Nat.mul_one, Nat.add_zero] at hf10_0); clear hcl10 hcc10 hfr10; (try clear hM10); replace p10 := eq_true p10; replace q10 := eq_true q10; have n_ := Aside0.mk (Kd.S_mono (ok' := (fun k_ => some k_ ≠ ((Value.slice av_ y181.length cv_) : Value).ownBlock)) HO_4.out (fun k_ hk => hk.2)); clear HO_4; have HO_4 := n_; clear n_; have HX13 := Aside0.mk (show Kd.S (Kd.slice 3 (Kd.int .i64)) 26 w11 w.heap.size (fun k_ => ((fun _ => True)) k_ ∧ ¬ ((fun k_ => some k_ = ((Value.slice av_ y181.length cv_) : Value).ownBlock)) k_) (.slice (some ⟨go10, 0, none⟩) x4_1.length co10) x4_1 from (by (with_reducible repeat (first | apply Kd.S_alloc | apply Kd.S_drewN | apply Kd.S_drew)); exact Kd.S_mono HO_4.out (fun k_ hk => ⟨trivial, fun e_ => hk e_⟩))); obtain ⟨oki13, ce13, hcl13, hM13, hcc13, hfr13, hoki13, hH13⟩ := Kd.S_elem HX13.out [] (x5_1 : Int) (of_decide_eq_true (by first | (with_reducible assumption) | assumption)) (by have h_ : (x5_1 : Int) < ((x4_1.length : Int) : Int) := of_decide_eq_true (by first | (with_reducible assumption) | assumption); first | exact h_ | (have e_ := (Kd.S_reads' HO_4.out).1; omega) | simpa using h_); obtain ⟨ve13_0, rfl, ge13_0⟩ := hM13; have HP13 := Kd.S_seg hH13 (of_decide_eq_true (by first | (with_reducible assumption) | assumption)) (by have h_ : (x5_1 : Int) < ((x4_1.length : Int) : Int) := of_decide_eq_true (by first | (with_reducible assumption) | assumption); first | exact h_ | (have e_ := (Kd.S_reads' HO_4.out).1; omega) | simpa using h_) (seg := [(Value.slice av_ y181.length cv_)]) (j := 0) (show 1 ≤ 1 from by decide) (x' := y181) (Kd.M_row (Kd.R_mono (Kd.R_tight rfl (Kd.R_mono (ok' := fun k_ => ((fun _ => True)) k_ ∧ k_ ≠ go10) (Kd.R_apart' (HO183.out) (Kd.S_typed HO_4.out) (by decide)) (fun k_ hk => ⟨trivial, fun e_ => (hk.2) (by rw [e_]; rfl)⟩))) (fun _ h_ => Or.inr (h_)))) (fun _ hk => hk) (fun k_ hk_ => ((Kd.R_mono (ok' := fun k_ => ((fun _ => True)) k_ ∧ k_ ≠ go10) (Kd.R_apart' (HO183.out) (Kd.S_typed HO_4.out) (by decide)) (fun k_ hk => ⟨trivial, fun e_ => (hk.2) (by rw [e_]; rfl)⟩))).1 k_ hk_.symm); have hx13_0 := hcc13 0 _ rfl; (try simp only [show ((Kd.slice 3 (Kd.int .i64))).sz = 1 from rfl, Nat.mul_one, Nat.add_zero] at hx13_0); have hf13_0 := hfr13 0; (try simp only [show ((Kd.slice 3 (Kd.int .i64))).sz = 1 from rfl, Nat.mul_one, Nat.add_zero] at hf13_0); clear hcl13 hcc13 hfr13 hoki13 hH13; (try clear hM13); (try simp only [show ((Kd.slice 3 (Kd.int .i64))).sz = 1 from rfl, Nat.mul_one, Nat.add_zero] at HP13)) | ((with_reducible refine gate_store (t := 26) (p := 22) rfl ?_); refine store_event (t := 26) (p := 22) (v := ?vo_w14) (w1 := (w11.setCell ⟨go10, (x5_1 : Int).toNat, none⟩ ((Value.slice av_ y181.length cv_)))) ?hg ?ho ?hn ?hr ?_; (case ho => rfl); (case hg => rfl); (case hn => rfl); (case hr => first | (go_simp; done) | (go_simp; rfl)); intro w14 hw; have hg : w11.grownBy w14 (some go10) := (by rw [hw]; exact HP13.2); have hp_ : Kd.S (Kd.slice 3 (Kd.int .i64)) 26 w14 w.heap.size (fun _ => True) (.slice (some ⟨go10, 0, none⟩) x4_1.length co10) y184 := (by rw [hw, Ny184.out]; exact HP13.1); clear HP13; have n0_ := Aside0.mk (hp_); have n1_ := Aside0.mk ((by rw [hw]; exact below_set (HB.out) GB10.out : Below w.heap.size w w14)); clear HO_4; clear HB; clear HO183; have HO_4 := n0_; have HB := n1_; clear n0_ n1_; clear hg hw hp_))
         go_loopg [6] k1 (fun kq v6 w' => ∃ (x4_2 : List (List Int)) (x6_2 : Int), v6 = .int .i64 x6_2 ∧ Aside0 (spec_l2Fewest.l1 kq l0 (l0.length : Int) x4_2 x5_1 x6_2 = some r) ∧ Aside0 (kq ≤ k1) ∧ Aside0 (Kd.S (Kd.slice 3 (Kd.int .i64)) 26 w' w.heap.size (fun _ => True) (.slice (some ⟨go10, 0, none⟩) x4_1.length co10) x4_2) ∧ Aside0 (Below w.heap.size w w'))
         case atStart => exact ⟨(y184), (0), (by first | rfl | (simp; done) | (simp [*]; done)), H', ⟨Nat.le_refl _⟩, ⟨by (with_reducible repeat (first | apply Kd.S_alloc | apply Kd.S_drewN | apply Kd.S_drew)); exact HO_4.out⟩, ⟨by repeat (first | (with_reducible first | exact HB.out | apply below_alloc | apply pw_below_drewN | apply below_drew1) | exact HB.out)⟩⟩
         case round =>
          clear H'; try clear c1
          try clear p1
          try clear q1
          try clear hx1
          try clear hf1
          try clear c2
          try clear c2b0
          try clear c2b1
          try clear p2
          try clear c3
          try clear c3b0
          try clear c3b1
          try clear c6
          try clear c6b0
          try clear p6
          try clear c7
          try clear c7b0
          try clear c7b1
          try clear c8
          try clear c8b0
          try clear c9
          try clear c9b0
          try clear c10
          try clear p10
          try clear q10
          try clear hx10
          try clear hf10
          try clear c13
          try clear hx13
          try clear hf13
          try clear hx10_0
          try clear hx13_0
          try clear p10
          try clear p2
          try clear q10
          obtain ⟨x4_2, x6_2, rfl, HA, HK2, HO_4, HB⟩ := hrel; have hl4_2 := (Kd.S_reads' HO_4.out).1; rw [hl4_2] at HO_4; (try simp only [hl4_2])
          cases gk with
          | zero => exact absurd HA.out (by simp [spec_l2Fewest.l1])
          | succ k2 =>
           have H := HA.out; clear HA; simp only [spec_l2Fewest.l1] at H; by_cases c15 : x6_2 ≤ 20
           ·
            rw [if_pos c15] at H; have c15b0 : decide (x6_2 ≤ 20) = true := decide_eq_true c15; clear c15; by_cases c16 : 0 ≤ x5_1
            ·
             rw [if_pos c16] at H; have c16b0 : decide (0 ≤ x5_1) = true := decide_eq_true c16; clear c16; by_cases c17 : x5_1 < (x4_2.length : Int)
             ·
              rw [if_pos c17] at H; have c17b0 : decide (x5_1 < (x4_2.length : Int)) = true := decide_eq_true c17; clear c17; by_cases c18 : 0 ≤ x6_2
              ·
               rw [if_pos c18] at H; have c18b0 : decide (0 ≤ x6_2) = true := decide_eq_true c18; clear c18; by_cases c19 : x6_2 < ((rd_L4 x4_2 x5_1).length : Int)
               ·
                rw [if_pos c19] at H; have c19b0 : decide (x6_2 < ((rd_L4 x4_2 x5_1).length : Int)) = true := decide_eq_true c19; clear c19; obtain ⟨y186, hy186⟩ : ∃ y_ : List Int, y_ = ((rd_L4 x4_2 x5_1).set (x6_2 : Int).toNat (-1)) := ⟨_, rfl⟩
                replace H : ((some (x4_2.set (x5_1 : Int).toNat y186 : List (List Int))).bind fun y188 => (if x5_1 < (l0.length : Int) then ((spec_HexSyllable.f k2 x6_2 ((rd_T29 l0 x5_1).f0) ((rd_T29 l0 x5_1).f1)).bind fun t190 => (if t190 < 0 then (spec_l2Fewest.l1 k2 l0 (l0.length : Int) y188 x5_1 (wrap64 (x6_2 + 1))) else (if x5_1 = (wrap64 ((l0.length : Int) - 1)) then (if x6_2 < ((rd_L4 y188 x5_1).length : Int) then (spec_l2Fewest.l1 k2 l0 (l0.length : Int) (y188.set (x5_1 : Int).toNat ((rd_L4 y188 x5_1).set (x6_2 : Int).toNat 0)) x5_1 (wrap64 (x6_2 + 1))) else (none)) else (spec_l2Fewest.l2 k2 l0 (l0.length : Int) y188 x5_1 x6_2 0)))) else (none))) = some r := by first | (rw [hy186]; with_reducible exact H) | (have H2_ := (Option.bind_some _ _).symm.trans H; rw [hy186]; with_reducible exact H2_) | (have H2_ := (Option.bind_some _ _).symm.trans H; with_reducible exact H2_) | with_reducible exact H | (rw [hy186]; exact H) | exact H
                have Ny186 := Aside0.mk hy186; clear hy186; obtain ⟨y188, hy188⟩ : ∃ y_ : List (List Int), y_ = (x4_2.set (x5_1 : Int).toNat y186) := ⟨_, rfl⟩
                replace H : (if x5_1 < (l0.length : Int) then ((spec_HexSyllable.f k2 x6_2 ((rd_T29 l0 x5_1).f0) ((rd_T29 l0 x5_1).f1)).bind fun t190 => (if t190 < 0 then (spec_l2Fewest.l1 k2 l0 (l0.length : Int) y188 x5_1 (wrap64 (x6_2 + 1))) else (if x5_1 = (wrap64 ((l0.length : Int) - 1)) then (if x6_2 < ((rd_L4 y188 x5_1).length : Int) then (spec_l2Fewest.l1 k2 l0 (l0.length : Int) (y188.set (x5_1 : Int).toNat ((rd_L4 y188 x5_1).set (x6_2 : Int).toNat 0)) x5_1 (wrap64 (x6_2 + 1))) else (none)) else (spec_l2Fewest.l2 k2 l0 (l0.length : Int) y188 x5_1 x6_2 0)))) else (none)) = some r := by first | (rw [hy188]; with_reducible exact H) | (have H2_ := (Option.bind_some _ _).symm.trans H; rw [hy188]; with_reducible exact H2_) | (have H2_ := (Option.bind_some _ _).symm.trans H; with_reducible exact H2_) | with_reducible exact H | (rw [hy188]; exact H) | exact H
                have Ny188 := Aside0.mk hy188; clear hy188; by_cases c21 : x5_1 < (l0.length : Int)
                ·
                 rw [if_pos c21] at H; have c21b0 : decide (x5_1 < (l0.length : Int)) = true := decide_eq_true c21; clear c21; replace H := Option.bind_eq_some_iff.mp H; obtain ⟨t190, A220, H⟩ := H; replace H : (if t190 < 0 then (spec_l2Fewest.l1 k2 l0 (l0.length : Int) y188 x5_1 (wrap64 (x6_2 + 1))) else (if x5_1 = (wrap64 ((l0.length : Int) - 1)) then (if x6_2 < ((rd_L4 y188 x5_1).length : Int) then (spec_l2Fewest.l1 k2 l0 (l0.length : Int) (y188.set (x5_1 : Int).toNat ((rd_L4 y188 x5_1).set (x6_2 : Int).toNat 0)) x5_1 (wrap64 (x6_2 + 1))) else (none)) else (spec_l2Fewest.l2 k2 l0 (l0.length : Int) y188 x5_1 x6_2 0))) = some r := H; have A22 := Aside0.mk A220; clear A220; by_cases c23 : t190 < 0
                 ·
                  rw [if_pos c23] at H; have c23b0 : decide (t190 < 0) = true := decide_eq_true c23; clear c23; have H' := Aside0.mk H; clear H; have p185 : 0 ≤ (x5_1 : Int) := of_decide_eq_true (by first | (with_reducible assumption) | assumption); have q185 : x5_1 < (x4_2.length : Int) := of_decide_eq_true (by first | (with_reducible assumption) | assumption); obtain ⟨ad185, A185_0, c185_0, e185, hx185_0, hl185_0, hi185_0⟩ := at_L4 (Kd.S_reads' HO_4.out).2.2 x5_1 p185 q185; obtain rfl : (⟨go10, 0, none⟩ : Addr) = ad185 := (by injection e185)
                  obtain ⟨ce185, hce185, hMe185, hcc185⟩ := Kd.S_get HO_4.out [] x5_1 p185 (by first | exact q185 | exact of_decide_eq_true (by first | (with_reducible assumption) | assumption) | (have e_ := (Kd.S_reads' HO_4.out).1; omega)); obtain ⟨ve185_0, rfl, ge185_0⟩ := hMe185; have hv185_0 := hcc185 0 _ rfl; rw [Nat.add_zero, show ((Kd.slice 3 (Kd.int .i64))).sz = 1 from rfl, Nat.mul_one] at hv185_0; replace hv185_0 := Option.some.inj (hv185_0.symm.trans hx185_0); rw [hv185_0] at ge185_0; have HL185_0 := Aside0.mk (show Kd.R (Kd.int .i64) 3 _ _ _ _ (rd_L4 x4_2 x5_1) from ge185_0); clear hv185_0 ge185_0; have HX185_0 := Aside0.mk hx185_0; clear hcc185 hce185; (first | simp only [add_plain] at hx185_0 | simp only [add_at] at hx185_0 | simp only [Addr.add, Nat.zero_add] at hx185_0 | skip)
                  have HR185_0 := Aside0.mk hi185_0; have HC185_0 := Aside0.mk hl185_0; clear hi185_0 hl185_0; replace p185 := eq_true p185; replace q185 := eq_true q185; have p20 : 0 ≤ (x6_2 : Int) := of_decide_eq_true (by first | (with_reducible assumption) | assumption); have q20 : (x6_2 : Int) < (((rd_L4 x4_2 x5_1).length : Int) : Int) := of_decide_eq_true (by first | (with_reducible assumption) | assumption); obtain ⟨go20, co20, eo20, gb20, gl20, cl20, HG20⟩ := Kd.R_form HL185_0.out (by omega); (first | cases eo20 | (injection eo20 with ea_ en_ ec_; (first | subst ea_ | (injection ea_ with ea_; subst ea_)); subst ec_; clear en_))
                  have GB20 := Aside0.mk gb20; have GG20 := Aside0.mk HG20; clear gb20 gl20 HG20; obtain ⟨hx20_0, hf20_0⟩ := Kd.R_celln 0 HL185_0.out (x6_2 : Int) p20 q20; replace p20 := eq_true p20; replace q20 := eq_true q20; have hq24 : (x5_1 : Int) < (x4_2.length : Int) := (by have h_ : (x5_1 : Int) < ((x4_2.length : Int) : Int) := of_decide_eq_true (by first | (with_reducible assumption) | assumption); first | exact h_ | (have e_ := (Kd.S_reads' HO_4.out).1; omega) | simpa only [List.length_set, List.length_set] using h_)
                  obtain ⟨oki24, ce24, hcl24, hM24, hcc24, hok24, hbk24⟩ := Kd.S_borrow HO_4.out [] (x5_1 : Int) (of_decide_eq_true (by first | (with_reducible assumption) | assumption)) (by first | exact hq24 | (have e_ := (Kd.S_reads' HO_4.out).1; have := hq24; omega)); obtain ⟨ve24_0, rfl, ge24_0⟩ := hM24; have hv24 := hcc24 0 _ rfl; rw [Nat.add_zero, show ((Kd.slice 3 (Kd.int .i64))).sz = 1 from rfl, Nat.mul_one] at hv24; replace hv24 := Option.some.inj (hv24.symm.trans HX185_0.out); subst hv24; clear hcc24 hcl24; replace ge24_0 := (show Kd.R (Kd.int .i64) 3 _ _ _ _ (rd_L4 x4_2 x5_1) from ge24_0)
                  have HP24 := Kd.R_putg ge24_0 (x6_2 : Int) (-1); go_wp2_with (first | ((with_reducible refine gate_store (t := 3) (p := 32) rfl ?_); refine store_event (t := 3) (p := 32) (v := ?vo_w25) (w1 := (wr.setCell ⟨go20, (x6_2 : Int).toNat, none⟩ (.int .i64 (-1)))) ?hg ?ho ?hn ?hr ?_; (case ho => rfl); (case hg => rfl); (case hn => rfl); (case hr => first | (go_simp; done) | (go_simp; rfl)); intro w25 hw; have hg : wr.grownBy w25 (some go20) := (by rw [hw]; exact HP24.2); have hz_ : Kd.R (Kd.int .i64) 3 w25 w.heap.size oki24 (.slice (some ⟨go20, 0, none⟩) (rd_L4 x4_2 x5_1).length c185_0) y186 := (by rw [hw, Ny186.out]; exact HP24.1); have hp_ : Kd.S (Kd.slice 3 (Kd.int .i64)) 26 w25 w.heap.size (fun _ => True) (.slice (some ⟨go10, 0, none⟩) x4_2.length co10) y188 := (by rw [Ny188.out]; exact hbk24 hg (fun k_ e_ => by injection e_ with e_; subst e_; exact ge24_0.1 _ rfl) (Kd.M_row hz_)); have hm_ := Kd.R_mono hz_ hok24; clear HP24 hbk24; have n0_ := Aside0.mk (hp_); have n1_ := Aside0.mk ((by rw [hw]; exact below_set (HB.out) GB20.out : Below w.heap.size w w25)); have n2_ := Aside0.mk (hm_); have n3_ := Aside0.mk ((Kd.R_reads' hm_).2.1); clear HO_4; clear HB; clear HL185_0; have HO_4 := n0_; have HB := n1_; have HL221 := n2_; have HC187 := n3_; clear n0_ n1_ n2_ n3_; clear hg hw hp_ hz_ hm_ hok24; have p189 : 0 ≤ (x5_1 : Int) := of_decide_eq_true (by first | (with_reducible assumption) | assumption); have q189 : x5_1 < (l0.length : Int) := of_decide_eq_true (by first | (with_reducible assumption) | assumption); obtain ⟨ad189, e189, hx189_0, hx189_1⟩ := at_T29 HR0.out x5_1 p189 q189; cases e189; replace hx189_0 := (HB.out.cell (World.block_lt_of_cell? w _ hx189_0)).trans hx189_0; replace hx189_1 := (HB.out.cell (World.block_lt_of_cell? w _ hx189_1)).trans hx189_1; replace p189 := eq_true p189; replace q189 := eq_true q189) | ((with_reducible refine gate_callee (f := 34) rfl ?_); refine goesL_ (some 38) rfl rfl Tryd.func34 (by kernel_rfl) rfl #[.int .i64 x6_2, .agg #[.int .i64 ((rd_T29 l0 x5_1).f0), .bool ((rd_T29 l0 x5_1).f1)]] rfl (by (try simp only [List.map_toArray, List.map_cons, List.map_nil]); first | done | rfl | (simp only [List.length_drop, List.length_take]; rfl)) ?_; (with_reducible refine (spec_HexSyllable.calls k2 x6_2 ((rd_T29 l0 x5_1).f0) ((rd_T29 l0 x5_1).f1) t190 _ A22.out).mono ?_); rintro e w26 ⟨rfl, hb⟩; refine ⟨_, rfl, ?_⟩; have n0_ := Aside0.mk (Kd.S_below (by (with_reducible repeat (first | apply Kd.S_alloc | apply Kd.S_drewN | apply Kd.S_drew)); exact HO_4.out) hb); have n1_ := Aside0.mk (Kd.R_below (by (with_reducible repeat (first | apply Kd.R_alloc | apply Kd.R_drewN | apply Kd.R_drew)); exact HL221.out) hb); have n2_ := Aside0.mk (below_step (by repeat (first | (with_reducible first | exact HB.out | apply below_alloc | apply pw_below_drewN | apply below_drew1) | exact HB.out)) hb); clear HO_4; clear HL221; clear HB; have HO_4 := n0_; have HL221 := n1_; have HB := n2_; clear n0_ n1_ n2_; (try clear hb); (try clear hb2); (try clear hk); (try clear hi)))
                  (try simp only [← hl4_2])
                  go_roundg k2
                  case measure => have := HK1.out; have := HK2.out; omega
                  case rel => exact ⟨(y188), (wrap64 (x6_2 + 1)), (by first | rfl | (simp; done) | (simp [*]; done)), H', ⟨by have := HK1.out; have := HK2.out; omega⟩, ⟨by (try simp only [hl4_2]); (with_reducible repeat (first | apply Kd.S_alloc | apply Kd.S_drewN | apply Kd.S_drew)); exact HO_4.out⟩, ⟨by repeat (first | (with_reducible first | exact HB.out | apply below_alloc | apply pw_below_drewN | apply below_drew1) | exact HB.out)⟩⟩
                 ·
                  rw [if_neg c23] at H; have c23b0 : decide (t190 < 0) = false := decide_eq_false c23; clear c23; by_cases c27 : x5_1 = (wrap64 ((l0.length : Int) - 1))
                  ·
                   rw [if_pos c27] at H; have c27b0 : (x5_1 == (wrap64 ((l0.length : Int) - 1))) = true := beq_iff_eq.mpr c27; have c27b1 : (x5_1 != (wrap64 ((l0.length : Int) - 1))) = false := bne_eq_false_iff_eq.mpr c27; clear c27; by_cases c28 : x6_2 < ((rd_L4 y188 x5_1).length : Int)
                   ·
                    rw [if_pos c28] at H; have c28b0 : decide (x6_2 < ((rd_L4 y188 x5_1).length : Int)) = true := decide_eq_true c28; clear c28; obtain ⟨y192, hy192⟩ : ∃ y_ : List Int, y_ = ((rd_L4 y188 x5_1).set (x6_2 : Int).toNat 0) := ⟨_, rfl⟩
                    replace H : (spec_l2Fewest.l1 k2 l0 (l0.length : Int) (y188.set (x5_1 : Int).toNat y192) x5_1 (wrap64 (x6_2 + 1))) = some r := by first | (rw [hy192]; with_reducible exact H) | (have H2_ := (Option.bind_some _ _).symm.trans H; rw [hy192]; with_reducible exact H2_) | (have H2_ := (Option.bind_some _ _).symm.trans H; with_reducible exact H2_) | with_reducible exact H | (rw [hy192]; exact H) | exact H
                    have Ny192 := Aside0.mk hy192; clear hy192; obtain ⟨y194, hy194⟩ : ∃ y_ : List (List Int), y_ = (y188.set (x5_1 : Int).toNat y192) := ⟨_, rfl⟩
                    replace H : (spec_l2Fewest.l1 k2 l0 (l0.length : Int) y194 x5_1 (wrap64 (x6_2 + 1))) = some r := by first | (rw [hy194]; with_reducible exact H) | (have H2_ := (Option.bind_some _ _).symm.trans H; rw [hy194]; with_reducible exact H2_) | (have H2_ := (Option.bind_some _ _).symm.trans H; with_reducible exact H2_) | with_reducible exact H | (rw [hy194]; exact H) | exact H
                    have Ny194 := Aside0.mk hy194; clear hy194; have H' := Aside0.mk H; clear H; have p185 : 0 ≤ (x5_1 : Int) := of_decide_eq_true (by first | (with_reducible assumption) | assumption); have q185 : x5_1 < (x4_2.length : Int) := of_decide_eq_true (by first | (with_reducible assumption) | assumption); obtain ⟨ad185, A185_0, c185_0, e185, hx185_0, hl185_0, hi185_0⟩ := at_L4 (Kd.S_reads' HO_4.out).2.2 x5_1 p185 q185; obtain rfl : (⟨go10, 0, none⟩ : Addr) = ad185 := (by injection e185)
                    obtain ⟨ce185, hce185, hMe185, hcc185⟩ := Kd.S_get HO_4.out [] x5_1 p185 (by first | exact q185 | exact of_decide_eq_true (by first | (with_reducible assumption) | assumption) | (have e_ := (Kd.S_reads' HO_4.out).1; omega)); obtain ⟨ve185_0, rfl, ge185_0⟩ := hMe185; have hv185_0 := hcc185 0 _ rfl; rw [Nat.add_zero, show ((Kd.slice 3 (Kd.int .i64))).sz = 1 from rfl, Nat.mul_one] at hv185_0; replace hv185_0 := Option.some.inj (hv185_0.symm.trans hx185_0); rw [hv185_0] at ge185_0; have HL185_0 := Aside0.mk (show Kd.R (Kd.int .i64) 3 _ _ _ _ (rd_L4 x4_2 x5_1) from ge185_0); clear hv185_0 ge185_0; have HX185_0 := Aside0.mk hx185_0; clear hcc185 hce185; (first | simp only [add_plain] at hx185_0 | simp only [add_at] at hx185_0 | simp only [Addr.add, Nat.zero_add] at hx185_0 | skip)
                    have HR185_0 := Aside0.mk hi185_0; have HC185_0 := Aside0.mk hl185_0; clear hi185_0 hl185_0; replace p185 := eq_true p185; replace q185 := eq_true q185; have p20 : 0 ≤ (x6_2 : Int) := of_decide_eq_true (by first | (with_reducible assumption) | assumption); have q20 : (x6_2 : Int) < (((rd_L4 x4_2 x5_1).length : Int) : Int) := of_decide_eq_true (by first | (with_reducible assumption) | assumption); obtain ⟨go20, co20, eo20, gb20, gl20, cl20, HG20⟩ := Kd.R_form HL185_0.out (by omega); (first | cases eo20 | (injection eo20 with ea_ en_ ec_; (first | subst ea_ | (injection ea_ with ea_; subst ea_)); subst ec_; clear en_))
                    have GB20 := Aside0.mk gb20; have GG20 := Aside0.mk HG20; clear gb20 gl20 HG20; obtain ⟨hx20_0, hf20_0⟩ := Kd.R_celln 0 HL185_0.out (x6_2 : Int) p20 q20; replace p20 := eq_true p20; replace q20 := eq_true q20; have hq30 : (x5_1 : Int) < (x4_2.length : Int) := (by have h_ : (x5_1 : Int) < ((x4_2.length : Int) : Int) := of_decide_eq_true (by first | (with_reducible assumption) | assumption); first | exact h_ | (have e_ := (Kd.S_reads' HO_4.out).1; omega) | simpa only [List.length_set, List.length_set] using h_)
                    obtain ⟨oki30, ce30, hcl30, hM30, hcc30, hok30, hbk30⟩ := Kd.S_borrow HO_4.out [] (x5_1 : Int) (of_decide_eq_true (by first | (with_reducible assumption) | assumption)) (by first | exact hq30 | (have e_ := (Kd.S_reads' HO_4.out).1; have := hq30; omega)); obtain ⟨ve30_0, rfl, ge30_0⟩ := hM30; have hv30 := hcc30 0 _ rfl; rw [Nat.add_zero, show ((Kd.slice 3 (Kd.int .i64))).sz = 1 from rfl, Nat.mul_one] at hv30; replace hv30 := Option.some.inj (hv30.symm.trans HX185_0.out); subst hv30; clear hcc30 hcl30; replace ge30_0 := (show Kd.R (Kd.int .i64) 3 _ _ _ _ (rd_L4 x4_2 x5_1) from ge30_0)
                    have HP30 := Kd.R_putg ge30_0 (x6_2 : Int) (-1); go_wp2_with (first | ((with_reducible refine gate_store (t := 3) (p := 32) rfl ?_); refine store_event (t := 3) (p := 32) (v := ?vo_w31) (w1 := (wr.setCell ⟨go20, (x6_2 : Int).toNat, none⟩ (.int .i64 (-1)))) ?hg ?ho ?hn ?hr ?_; (case ho => rfl); (case hg => rfl); (case hn => rfl); (case hr => first | (go_simp; done) | (go_simp; rfl)); intro w31 hw; have hg : wr.grownBy w31 (some go20) := (by rw [hw]; exact HP30.2); have hz_ : Kd.R (Kd.int .i64) 3 w31 w.heap.size oki30 (.slice (some ⟨go20, 0, none⟩) (rd_L4 x4_2 x5_1).length c185_0) y186 := (by rw [hw, Ny186.out]; exact HP30.1); have hp_ : Kd.S (Kd.slice 3 (Kd.int .i64)) 26 w31 w.heap.size (fun _ => True) (.slice (some ⟨go10, 0, none⟩) x4_2.length co10) y188 := (by rw [Ny188.out]; exact hbk30 hg (fun k_ e_ => by injection e_ with e_; subst e_; exact ge30_0.1 _ rfl) (Kd.M_row hz_)); have hm_ := Kd.R_mono hz_ hok30; clear HP30 hbk30; have n0_ := Aside0.mk (hp_); have n1_ := Aside0.mk ((by rw [hw]; exact below_set (HB.out) GB20.out : Below w.heap.size w w31)); have n2_ := Aside0.mk (hm_); have n3_ := Aside0.mk ((Kd.R_reads' hm_).2.1); clear HO_4; clear HB; clear HL185_0; have HO_4 := n0_; have HB := n1_; have HL222 := n2_; have HC187 := n3_; clear n0_ n1_ n2_ n3_; clear hg hw hp_ hz_ hm_ hok30; have p189 : 0 ≤ (x5_1 : Int) := of_decide_eq_true (by first | (with_reducible assumption) | assumption); have q189 : x5_1 < (l0.length : Int) := of_decide_eq_true (by first | (with_reducible assumption) | assumption); obtain ⟨ad189, e189, hx189_0, hx189_1⟩ := at_T29 HR0.out x5_1 p189 q189; cases e189; replace hx189_0 := (HB.out.cell (World.block_lt_of_cell? w _ hx189_0)).trans hx189_0; replace hx189_1 := (HB.out.cell (World.block_lt_of_cell? w _ hx189_1)).trans hx189_1; replace p189 := eq_true p189; replace q189 := eq_true q189) | ((with_reducible refine gate_callee (f := 34) rfl ?_); refine goesL_ (some 38) rfl rfl Tryd.func34 (by kernel_rfl) rfl #[.int .i64 x6_2, .agg #[.int .i64 ((rd_T29 l0 x5_1).f0), .bool ((rd_T29 l0 x5_1).f1)]] rfl (by (try simp only [List.map_toArray, List.map_cons, List.map_nil]); first | done | rfl | (simp only [List.length_drop, List.length_take]; rfl)) ?_; (with_reducible refine (spec_HexSyllable.calls k2 x6_2 ((rd_T29 l0 x5_1).f0) ((rd_T29 l0 x5_1).f1) t190 _ A22.out).mono ?_); rintro e w32 ⟨rfl, hb⟩; refine ⟨_, rfl, ?_⟩; have n0_ := Aside0.mk (Kd.S_below (by (with_reducible repeat (first | apply Kd.S_alloc | apply Kd.S_drewN | apply Kd.S_drew)); exact HO_4.out) hb); have n1_ := Aside0.mk (Kd.R_below (by (with_reducible repeat (first | apply Kd.R_alloc | apply Kd.R_drewN | apply Kd.R_drew)); exact HL222.out) hb); have n2_ := Aside0.mk (below_step (by repeat (first | (with_reducible first | exact HB.out | apply below_alloc | apply pw_below_drewN | apply below_drew1) | exact HB.out)) hb); clear HO_4; clear HL222; clear HB; have HO_4 := n0_; have HL222 := n1_; have HB := n2_; clear n0_ n1_ n2_; (try clear hb); (try clear hb2); (try clear hk); (try clear hi); have p191 : 0 ≤ (x5_1 : Int) := of_decide_eq_true (by first | (with_reducible assumption) | assumption); have q191 : x5_1 < (y188.length : Int) := (by have h_ : (x5_1 : Int) < ((x4_2.length : Int) : Int) := of_decide_eq_true (by first | (with_reducible assumption) | assumption); first | (have e_ := (Kd.S_reads' HO_4.out).1; omega) | simpa only [Ny188.out, List.length_set] using h_); have ql191 : ((x5_1 : Int) < ((x4_2.length : Int) : Int)) = True := eq_true (of_decide_eq_true (by first | (with_reducible assumption) | assumption)); obtain ⟨ad191, A191_0, c191_0, e191, hx191_0, hl191_0, hi191_0⟩ := at_L4 (Kd.S_reads' HO_4.out).2.2 x5_1 p191 q191; obtain rfl : (⟨go10, 0, none⟩ : Addr) = ad191 := (by injection e191); obtain ⟨ce191, hce191, hMe191, hcc191⟩ := Kd.S_get HO_4.out [] x5_1 p191 (by first | exact q191 | exact of_decide_eq_true (by first | (with_reducible assumption) | assumption) | (have e_ := (Kd.S_reads' HO_4.out).1; omega)); obtain ⟨ve191_0, rfl, ge191_0⟩ := hMe191; have hv191_0 := hcc191 0 _ rfl; rw [Nat.add_zero, show ((Kd.slice 3 (Kd.int .i64))).sz = 1 from rfl, Nat.mul_one] at hv191_0; replace hv191_0 := Option.some.inj (hv191_0.symm.trans hx191_0); rw [hv191_0] at ge191_0; have HL191_0 := Aside0.mk (show Kd.R (Kd.int .i64) 3 _ _ _ _ (rd_L4 y188 x5_1) from ge191_0); clear hv191_0 ge191_0; have HX191_0 := Aside0.mk hx191_0; clear hcc191 hce191; (first | simp only [add_plain] at hx191_0 | simp only [add_at] at hx191_0 | simp only [Addr.add, Nat.zero_add] at hx191_0 | skip); have HR191_0 := Aside0.mk hi191_0; have HC191_0 := Aside0.mk hl191_0; clear hi191_0 hl191_0; replace p191 := eq_true p191; replace q191 := eq_true q191; have p29 : 0 ≤ (x6_2 : Int) := of_decide_eq_true (by first | (with_reducible assumption) | assumption); have q29 : (x6_2 : Int) < (((rd_L4 y188 x5_1).length : Int) : Int) := of_decide_eq_true (by first | (with_reducible assumption) | assumption); obtain ⟨go29, co29, eo29, gb29, gl29, cl29, HG29⟩ := Kd.R_form HL191_0.out (by omega); (first | cases eo29 | (injection eo29 with ea_ en_ ec_; (first | subst ea_ | (injection ea_ with ea_; subst ea_)); subst ec_; clear en_)); have GB29 := Aside0.mk gb29; have GG29 := Aside0.mk HG29; clear gb29 gl29 HG29; obtain ⟨hx29_0, hf29_0⟩ := Kd.R_celln 0 HL191_0.out (x6_2 : Int) p29 q29; replace p29 := eq_true p29; replace q29 := eq_true q29; have hq33 : (x5_1 : Int) < (y188.length : Int) := (by have h_ : (x5_1 : Int) < ((x4_2.length : Int) : Int) := of_decide_eq_true (by first | (with_reducible assumption) | assumption); first | exact h_ | (have e_ := (Kd.S_reads' HO_4.out).1; omega) | simpa only [Ny188.out, List.length_set] using h_); obtain ⟨oki33, ce33, hcl33, hM33, hcc33, hok33, hbk33⟩ := Kd.S_borrow HO_4.out [] (x5_1 : Int) (of_decide_eq_true (by first | (with_reducible assumption) | assumption)) (by first | exact hq33 | (have e_ := (Kd.S_reads' HO_4.out).1; have := hq33; omega)); obtain ⟨ve33_0, rfl, ge33_0⟩ := hM33; have hv33 := hcc33 0 _ rfl; rw [Nat.add_zero, show ((Kd.slice 3 (Kd.int .i64))).sz = 1 from rfl, Nat.mul_one] at hv33; replace hv33 := Option.some.inj (hv33.symm.trans HX191_0.out); subst hv33; clear hcc33 hcl33; replace ge33_0 := (show Kd.R (Kd.int .i64) 3 _ _ _ _ (rd_L4 y188 x5_1) from ge33_0); have HP33 := Kd.R_putg ge33_0 (x6_2 : Int) 0) | ((with_reducible refine gate_store (t := 3) (p := 49) rfl ?_); refine store_event (t := 3) (p := 49) (v := ?vo_w34) (w1 := (w32.setCell ⟨go29, (x6_2 : Int).toNat, none⟩ (.int .i64 0))) ?hg ?ho ?hn ?hr ?_; (case ho => rfl); (case hg => rfl); (case hn => rfl); (case hr => first | (go_simp; done) | (go_simp; rfl)); intro w34 hw; have hg : w32.grownBy w34 (some go29) := (by rw [hw]; exact HP33.2); have hz_ : Kd.R (Kd.int .i64) 3 w34 w.heap.size oki33 (.slice (some ⟨go29, 0, none⟩) (rd_L4 y188 x5_1).length c191_0) y192 := (by rw [hw, Ny192.out]; exact HP33.1); have hp_ : Kd.S (Kd.slice 3 (Kd.int .i64)) 26 w34 w.heap.size (fun _ => True) (.slice (some ⟨go10, 0, none⟩) x4_2.length co10) y194 := (by rw [Ny194.out]; exact hbk33 hg (fun k_ e_ => by injection e_ with e_; subst e_; exact ge33_0.1 _ rfl) (Kd.M_row hz_)); have hm_ := Kd.R_mono hz_ hok33; clear HP33 hbk33; have n0_ := Aside0.mk (hp_); have n1_ := Aside0.mk ((by rw [hw]; exact below_set (HB.out) GB29.out : Below w.heap.size w w34)); have n2_ := Aside0.mk (hm_); have n3_ := Aside0.mk ((Kd.R_reads' hm_).2.1); clear HO_4; clear HB; clear HL222; clear HL191_0; have HO_4 := n0_; have HB := n1_; have HL223 := n2_; have HC193 := n3_; clear n0_ n1_ n2_ n3_; clear hg hw hp_ hz_ hm_ hok33))
                    (try simp only [← hl4_2])
                    go_roundg k2
                    case measure => have := HK1.out; have := HK2.out; omega
                    case rel => exact ⟨(y194), (wrap64 (x6_2 + 1)), (by first | rfl | (simp; done) | (simp [*]; done)), H', ⟨by have := HK1.out; have := HK2.out; omega⟩, ⟨by (try simp only [hl4_2]); (with_reducible repeat (first | apply Kd.S_alloc | apply Kd.S_drewN | apply Kd.S_drew)); exact HO_4.out⟩, ⟨by repeat (first | (with_reducible first | exact HB.out | apply below_alloc | apply pw_below_drewN | apply below_drew1) | exact HB.out)⟩⟩
                   ·
                    rw [if_neg c28] at H; exact absurd H (by simp)
                  ·
                   rw [if_neg c27] at H; have c27b0 : (x5_1 == (wrap64 ((l0.length : Int) - 1))) = false := beq_eq_false_iff_ne.mpr c27; have c27b1 : (x5_1 != (wrap64 ((l0.length : Int) - 1))) = true := bne_iff_ne.mpr c27; have H' := Aside0.mk H; clear H; have p185 : 0 ≤ (x5_1 : Int) := of_decide_eq_true (by first | (with_reducible assumption) | assumption); have q185 : x5_1 < (x4_2.length : Int) := of_decide_eq_true (by first | (with_reducible assumption) | assumption); obtain ⟨ad185, A185_0, c185_0, e185, hx185_0, hl185_0, hi185_0⟩ := at_L4 (Kd.S_reads' HO_4.out).2.2 x5_1 p185 q185; obtain rfl : (⟨go10, 0, none⟩ : Addr) = ad185 := (by injection e185)
                   obtain ⟨ce185, hce185, hMe185, hcc185⟩ := Kd.S_get HO_4.out [] x5_1 p185 (by first | exact q185 | exact of_decide_eq_true (by first | (with_reducible assumption) | assumption) | (have e_ := (Kd.S_reads' HO_4.out).1; omega)); obtain ⟨ve185_0, rfl, ge185_0⟩ := hMe185; have hv185_0 := hcc185 0 _ rfl; rw [Nat.add_zero, show ((Kd.slice 3 (Kd.int .i64))).sz = 1 from rfl, Nat.mul_one] at hv185_0; replace hv185_0 := Option.some.inj (hv185_0.symm.trans hx185_0); rw [hv185_0] at ge185_0; have HL185_0 := Aside0.mk (show Kd.R (Kd.int .i64) 3 _ _ _ _ (rd_L4 x4_2 x5_1) from ge185_0); clear hv185_0 ge185_0; have HX185_0 := Aside0.mk hx185_0; clear hcc185 hce185; (first | simp only [add_plain] at hx185_0 | simp only [add_at] at hx185_0 | simp only [Addr.add, Nat.zero_add] at hx185_0 | skip)
                   have HR185_0 := Aside0.mk hi185_0; have HC185_0 := Aside0.mk hl185_0; clear hi185_0 hl185_0; replace p185 := eq_true p185; replace q185 := eq_true q185; have p20 : 0 ≤ (x6_2 : Int) := of_decide_eq_true (by first | (with_reducible assumption) | assumption); have q20 : (x6_2 : Int) < (((rd_L4 x4_2 x5_1).length : Int) : Int) := of_decide_eq_true (by first | (with_reducible assumption) | assumption); obtain ⟨go20, co20, eo20, gb20, gl20, cl20, HG20⟩ := Kd.R_form HL185_0.out (by omega); (first | cases eo20 | (injection eo20 with ea_ en_ ec_; (first | subst ea_ | (injection ea_ with ea_; subst ea_)); subst ec_; clear en_))
                   have GB20 := Aside0.mk gb20; have GG20 := Aside0.mk HG20; clear gb20 gl20 HG20; obtain ⟨hx20_0, hf20_0⟩ := Kd.R_celln 0 HL185_0.out (x6_2 : Int) p20 q20; replace p20 := eq_true p20; replace q20 := eq_true q20; have hq35 : (x5_1 : Int) < (x4_2.length : Int) := (by have h_ : (x5_1 : Int) < ((x4_2.length : Int) : Int) := of_decide_eq_true (by first | (with_reducible assumption) | assumption); first | exact h_ | (have e_ := (Kd.S_reads' HO_4.out).1; omega) | simpa only [List.length_set, List.length_set] using h_)
                   obtain ⟨oki35, ce35, hcl35, hM35, hcc35, hok35, hbk35⟩ := Kd.S_borrow HO_4.out [] (x5_1 : Int) (of_decide_eq_true (by first | (with_reducible assumption) | assumption)) (by first | exact hq35 | (have e_ := (Kd.S_reads' HO_4.out).1; have := hq35; omega)); obtain ⟨ve35_0, rfl, ge35_0⟩ := hM35; have hv35 := hcc35 0 _ rfl; rw [Nat.add_zero, show ((Kd.slice 3 (Kd.int .i64))).sz = 1 from rfl, Nat.mul_one] at hv35; replace hv35 := Option.some.inj (hv35.symm.trans HX185_0.out); subst hv35; clear hcc35 hcl35; replace ge35_0 := (show Kd.R (Kd.int .i64) 3 _ _ _ _ (rd_L4 x4_2 x5_1) from ge35_0)
                   have HP35 := Kd.R_putg ge35_0 (x6_2 : Int) (-1); go_wp2_with (first | ((with_reducible refine gate_store (t := 3) (p := 32) rfl ?_); refine store_event (t := 3) (p := 32) (v := ?vo_w36) (w1 := (wr.setCell ⟨go20, (x6_2 : Int).toNat, none⟩ (.int .i64 (-1)))) ?hg ?ho ?hn ?hr ?_; (case ho => rfl); (case hg => rfl); (case hn => rfl); (case hr => first | (go_simp; done) | (go_simp; rfl)); intro w36 hw; have hg : wr.grownBy w36 (some go20) := (by rw [hw]; exact HP35.2); have hz_ : Kd.R (Kd.int .i64) 3 w36 w.heap.size oki35 (.slice (some ⟨go20, 0, none⟩) (rd_L4 x4_2 x5_1).length c185_0) y186 := (by rw [hw, Ny186.out]; exact HP35.1); have hp_ : Kd.S (Kd.slice 3 (Kd.int .i64)) 26 w36 w.heap.size (fun _ => True) (.slice (some ⟨go10, 0, none⟩) x4_2.length co10) y188 := (by rw [Ny188.out]; exact hbk35 hg (fun k_ e_ => by injection e_ with e_; subst e_; exact ge35_0.1 _ rfl) (Kd.M_row hz_)); have hm_ := Kd.R_mono hz_ hok35; clear HP35 hbk35; have n0_ := Aside0.mk (hp_); have n1_ := Aside0.mk ((by rw [hw]; exact below_set (HB.out) GB20.out : Below w.heap.size w w36)); have n2_ := Aside0.mk (hm_); have n3_ := Aside0.mk ((Kd.R_reads' hm_).2.1); clear HO_4; clear HB; clear HL185_0; have HO_4 := n0_; have HB := n1_; have HL224 := n2_; have HC187 := n3_; clear n0_ n1_ n2_ n3_; clear hg hw hp_ hz_ hm_ hok35; have p189 : 0 ≤ (x5_1 : Int) := of_decide_eq_true (by first | (with_reducible assumption) | assumption); have q189 : x5_1 < (l0.length : Int) := of_decide_eq_true (by first | (with_reducible assumption) | assumption); obtain ⟨ad189, e189, hx189_0, hx189_1⟩ := at_T29 HR0.out x5_1 p189 q189; cases e189; replace hx189_0 := (HB.out.cell (World.block_lt_of_cell? w _ hx189_0)).trans hx189_0; replace hx189_1 := (HB.out.cell (World.block_lt_of_cell? w _ hx189_1)).trans hx189_1; replace p189 := eq_true p189; replace q189 := eq_true q189) | ((with_reducible refine gate_callee (f := 34) rfl ?_); refine goesL_ (some 38) rfl rfl Tryd.func34 (by kernel_rfl) rfl #[.int .i64 x6_2, .agg #[.int .i64 ((rd_T29 l0 x5_1).f0), .bool ((rd_T29 l0 x5_1).f1)]] rfl (by (try simp only [List.map_toArray, List.map_cons, List.map_nil]); first | done | rfl | (simp only [List.length_drop, List.length_take]; rfl)) ?_; (with_reducible refine (spec_HexSyllable.calls k2 x6_2 ((rd_T29 l0 x5_1).f0) ((rd_T29 l0 x5_1).f1) t190 _ A22.out).mono ?_); rintro e w37 ⟨rfl, hb⟩; refine ⟨_, rfl, ?_⟩; have n0_ := Aside0.mk (Kd.S_below (by (with_reducible repeat (first | apply Kd.S_alloc | apply Kd.S_drewN | apply Kd.S_drew)); exact HO_4.out) hb); have n1_ := Aside0.mk (Kd.R_below (by (with_reducible repeat (first | apply Kd.R_alloc | apply Kd.R_drewN | apply Kd.R_drew)); exact HL224.out) hb); have n2_ := Aside0.mk (below_step (by repeat (first | (with_reducible first | exact HB.out | apply below_alloc | apply pw_below_drewN | apply below_drew1) | exact HB.out)) hb); clear HO_4; clear HL224; clear HB; have HO_4 := n0_; have HL224 := n1_; have HB := n2_; clear n0_ n1_ n2_; (try clear hb); (try clear hb2); (try clear hk); (try clear hi)))
                   go_loopg [7] k2 (fun kq v7 w' => ∃ (x4_3 : List (List Int)) (x7_3 : Int), v7 = .int .i64 x7_3 ∧ Aside0 (spec_l2Fewest.l2 kq l0 (l0.length : Int) x4_3 x5_1 x6_2 x7_3 = some r) ∧ Aside0 (kq ≤ k2) ∧ Aside0 (Kd.S (Kd.slice 3 (Kd.int .i64)) 26 w' w.heap.size (fun _ => True) (.slice (some ⟨go10, 0, none⟩) x4_2.length co10) x4_3) ∧ Aside0 (Below w.heap.size w w'))
                   case atStart => exact ⟨(y188), (0), (by first | rfl | (simp; done) | (simp [*]; done)), H', ⟨Nat.le_refl _⟩, ⟨by (try simp only [hl4_2]); (with_reducible repeat (first | apply Kd.S_alloc | apply Kd.S_drewN | apply Kd.S_drew)); exact HO_4.out⟩, ⟨by repeat (first | (with_reducible first | exact HB.out | apply below_alloc | apply pw_below_drewN | apply below_drew1) | exact HB.out)⟩⟩
                   case round =>
                    clear H'; try clear c1
                    try clear p1
                    try clear q1
                    try clear hx1
                    try clear hf1
                    try clear c2
                    try clear c2b0
                    try clear c2b1
                    try clear p2
                    try clear q2
                    try clear hx2
                    try clear hf2
                    try clear c3
                    try clear c3b0
                    try clear c3b1
                    try clear q3
                    try clear c6
                    try clear c6b0
                    try clear p6
                    try clear c7
                    try clear c7b0
                    try clear c7b1
                    try clear c8
                    try clear c8b0
                    try clear c9
                    try clear c9b0
                    try clear c10
                    try clear p10
                    try clear q10
                    try clear hx10
                    try clear hf10
                    try clear c13
                    try clear hx13
                    try clear hf13
                    try clear c15
                    try clear c15b0
                    try clear c16
                    try clear c16b0
                    try clear c17
                    try clear c17b0
                    try clear c18
                    try clear c18b0
                    try clear p18
                    try clear q18
                    try clear hx18
                    try clear c19
                    try clear c19b0
                    try clear p19
                    try clear q19
                    try clear hx19
                    try clear p20
                    try clear q20
                    try clear hx20
                    try clear hf20
                    try clear c21
                    try clear c21b0
                    try clear c23
                    try clear c23b0
                    try clear c24
                    try clear q24
                    try clear c27
                    try clear c27b0
                    try clear c27b1
                    try clear c28
                    try clear c28b0
                    try clear p29
                    try clear q29
                    try clear hx29
                    try clear hf29
                    try clear c30
                    try clear q30
                    try clear c33
                    try clear q33
                    try clear c34
                    try clear c35
                    try clear q35
                    try clear hx10_0
                    try clear hx13_0
                    try clear hx185_0
                    try clear hx189_0
                    try clear hx189_1
                    try clear hx191_0
                    try clear hx20_0
                    try clear hx29_0
                    try clear p1
                    try clear p10
                    try clear p185
                    try clear p189
                    try clear p191
                    try clear p2
                    try clear p20
                    try clear p29
                    try clear p6
                    try clear q1
                    try clear q10
                    try clear q185
                    try clear q189
                    try clear q191
                    try clear q20
                    try clear q29
                    obtain ⟨x4_3, x7_3, rfl, HA, HK3, HO_4, HB⟩ := hrel; have hl4_3 := (Kd.S_reads' HO_4.out).1; rw [hl4_3] at HO_4; (try simp only [hl4_3])
                    cases gk with
                    | zero => exact absurd HA.out (by simp [spec_l2Fewest.l2])
                    | succ k3 =>
                     have H := HA.out; clear HA; simp only [spec_l2Fewest.l2] at H; by_cases c38 : x7_3 ≤ 20
                     ·
                      rw [if_pos c38] at H; have c38b0 : decide (x7_3 ≤ 20) = true := decide_eq_true c38; clear c38; obtain ⟨ji39, hji39⟩ : ∃ j_ : Int, (wrap64 (x5_1 + 1)) = j_ := ⟨_, rfl⟩
                      replace H : (if 0 ≤ (ji39) then (if (ji39) < (x4_3.length : Int) then (if 0 ≤ x7_3 then (if x7_3 < ((rd_L4 x4_3 (ji39)).length : Int) then (if (rd (rd_L4 x4_3 (ji39)) x7_3) < 0 then (spec_l2Fewest.l2 k3 l0 (l0.length : Int) x4_3 x5_1 x6_2 (wrap64 (x7_3 + 1))) else (if x7_3 = x6_2 then (if 0 ≤ x5_1 then (if x5_1 < (x4_3.length : Int) then (if 0 ≤ x6_2 then (if x6_2 < ((rd_L4 x4_3 x5_1).length : Int) then (if (rd (rd_L4 x4_3 x5_1) x6_2) < 0 then (spec_l2Fewest.l2 k3 l0 (l0.length : Int) (x4_3.set (x5_1 : Int).toNat ((rd_L4 x4_3 x5_1).set (x6_2 : Int).toNat (rd (rd_L4 x4_3 (ji39)) x7_3))) x5_1 x6_2 (wrap64 (x7_3 + 1))) else (if (rd (rd_L4 x4_3 (ji39)) x7_3) < (rd (rd_L4 x4_3 x5_1) x6_2) then (spec_l2Fewest.l2 k3 l0 (l0.length : Int) (x4_3.set (x5_1 : Int).toNat ((rd_L4 x4_3 x5_1).set (x6_2 : Int).toNat (rd (rd_L4 x4_3 (ji39)) x7_3))) x5_1 x6_2 (wrap64 (x7_3 + 1))) else (spec_l2Fewest.l2 k3 l0 (l0.length : Int) x4_3 x5_1 x6_2 (wrap64 (x7_3 + 1))))) else (none)) else (none)) else (none)) else (none)) else (if 0 ≤ x5_1 then (if x5_1 < (x4_3.length : Int) then (if 0 ≤ x6_2 then (if x6_2 < ((rd_L4 x4_3 x5_1).length : Int) then (if (rd (rd_L4 x4_3 x5_1) x6_2) < 0 then (spec_l2Fewest.l2 k3 l0 (l0.length : Int) (x4_3.set (x5_1 : Int).toNat ((rd_L4 x4_3 x5_1).set (x6_2 : Int).toNat (wrap64 ((rd (rd_L4 x4_3 (ji39)) x7_3) + 1)))) x5_1 x6_2 (wrap64 (x7_3 + 1))) else (if (wrap64 ((rd (rd_L4 x4_3 (ji39)) x7_3) + 1)) < (rd (rd_L4 x4_3 x5_1) x6_2) then (spec_l2Fewest.l2 k3 l0 (l0.length : Int) (x4_3.set (x5_1 : Int).toNat ((rd_L4 x4_3 x5_1).set (x6_2 : Int).toNat (wrap64 ((rd (rd_L4 x4_3 (ji39)) x7_3) + 1)))) x5_1 x6_2 (wrap64 (x7_3 + 1))) else (spec_l2Fewest.l2 k3 l0 (l0.length : Int) x4_3 x5_1 x6_2 (wrap64 (x7_3 + 1))))) else (none)) else (none)) else (none)) else (none)))) else (none)) else (none)) else (none)) else (none)) = some r := by first | (rw [hji39] at H; exact H) | (simp only [hji39] at H ⊢; exact H)
                      have hji39w : (IntKind.i64.wrap (x5_1 + 1)) = ji39 := (i64_w _).trans hji39; by_cases c40 : 0 ≤ (ji39)
                      ·
                       rw [if_pos c40] at H; have c40b0 : decide (0 ≤ (ji39)) = true := decide_eq_true c40; clear c40; by_cases c41 : (ji39) < (x4_3.length : Int)
                       ·
                        rw [if_pos c41] at H; have c41b0 : decide ((ji39) < (x4_3.length : Int)) = true := decide_eq_true c41; clear c41; by_cases c42 : 0 ≤ x7_3
                        ·
                         rw [if_pos c42] at H; have c42b0 : decide (0 ≤ x7_3) = true := decide_eq_true c42; clear c42; by_cases c43 : x7_3 < ((rd_L4 x4_3 (ji39)).length : Int)
                         ·
                          rw [if_pos c43] at H; have c43b0 : decide (x7_3 < ((rd_L4 x4_3 (ji39)).length : Int)) = true := decide_eq_true c43; clear c43; by_cases c44 : (rd (rd_L4 x4_3 (ji39)) x7_3) < 0
                          ·
                           rw [if_pos c44] at H; have c44b0 : decide ((rd (rd_L4 x4_3 (ji39)) x7_3) < 0) = true := decide_eq_true c44; clear c44; have H' := Aside0.mk H; clear H; have p195 : 0 ≤ ((ji39) : Int) := of_decide_eq_true (by first | (with_reducible assumption) | assumption); have q195 : (ji39) < (x4_3.length : Int) := of_decide_eq_true (by first | (with_reducible assumption) | assumption); obtain ⟨ad195, A195_0, c195_0, e195, hx195_0, hl195_0, hi195_0⟩ := at_L4 (Kd.S_reads' HO_4.out).2.2 (ji39) p195 q195; obtain rfl : (⟨go10, 0, none⟩ : Addr) = ad195 := (by injection e195)
                           obtain ⟨ce195, hce195, hMe195, hcc195⟩ := Kd.S_get HO_4.out [] (ji39) p195 (by first | exact q195 | exact of_decide_eq_true (by first | (with_reducible assumption) | assumption) | (have e_ := (Kd.S_reads' HO_4.out).1; omega)); obtain ⟨ve195_0, rfl, ge195_0⟩ := hMe195; have hv195_0 := hcc195 0 _ rfl; rw [Nat.add_zero, show ((Kd.slice 3 (Kd.int .i64))).sz = 1 from rfl, Nat.mul_one] at hv195_0; replace hv195_0 := Option.some.inj (hv195_0.symm.trans hx195_0); rw [hv195_0] at ge195_0; have HL195_0 := Aside0.mk (show Kd.R (Kd.int .i64) 3 _ _ _ _ (rd_L4 x4_3 (ji39)) from ge195_0); clear hv195_0 ge195_0; have HX195_0 := Aside0.mk hx195_0; clear hcc195 hce195; (first | simp only [add_plain] at hx195_0 | simp only [add_at] at hx195_0 | simp only [Addr.add, Nat.zero_add] at hx195_0 | skip)
                           have HR195_0 := Aside0.mk hi195_0; have HC195_0 := Aside0.mk hl195_0; clear hi195_0 hl195_0; replace p195 := eq_true p195; replace q195 := eq_true q195; have p196 : 0 ≤ (x7_3 : Int) := of_decide_eq_true (by first | (with_reducible assumption) | assumption); have q196 : x7_3 < ((rd_L4 x4_3 (ji39)).length : Int) := of_decide_eq_true (by first | (with_reducible assumption) | assumption); obtain ⟨ad196, e196, hx196_0⟩ := Kd.at_int (by repeat (first | (with_reducible exact HR195_0.out) | (with_reducible refine Kd.C_alloc ?_ _) | (with_reducible refine Kd.C_drewN ?_ _) | (with_reducible refine Kd.C_drew ?_) | exact HR195_0.out)) x7_3 p196 q196; cases e196; replace p196 := eq_true p196; replace q196 := eq_true q196; go_wp2; (try simp only [← hl4_3])
                           go_roundg k3
                           case measure => have := HK1.out; have := HK2.out; have := HK3.out; omega
                           case rel => exact ⟨(x4_3), (wrap64 (x7_3 + 1)), (by first | rfl | (simp; done) | (simp [*]; done)), H', ⟨by have := HK1.out; have := HK2.out; have := HK3.out; omega⟩, ⟨by (try simp only [hl4_2]); (try simp only [hl4_3]); (with_reducible repeat (first | apply Kd.S_alloc | apply Kd.S_drewN | apply Kd.S_drew)); exact HO_4.out⟩, ⟨by repeat (first | (with_reducible first | exact HB.out | apply below_alloc | apply pw_below_drewN | apply below_drew1) | exact HB.out)⟩⟩
                          ·
                           rw [if_neg c44] at H; have c44b0 : decide ((rd (rd_L4 x4_3 (ji39)) x7_3) < 0) = false := decide_eq_false c44; clear c44; by_cases c45 : x7_3 = x6_2
                           ·
                            rw [if_pos c45] at H; have c45b0 : (x7_3 == x6_2) = true := beq_iff_eq.mpr c45; have c45b1 : (x7_3 != x6_2) = false := bne_eq_false_iff_eq.mpr c45; clear c45; by_cases c46 : 0 ≤ x5_1
                            ·
                             rw [if_pos c46] at H; have c46b0 : decide (0 ≤ x5_1) = true := decide_eq_true c46; clear c46; by_cases c47 : x5_1 < (x4_3.length : Int)
                             ·
                              rw [if_pos c47] at H; have c47b0 : decide (x5_1 < (x4_3.length : Int)) = true := decide_eq_true c47; clear c47; by_cases c48 : 0 ≤ x6_2
                              ·
                               rw [if_pos c48] at H; have c48b0 : decide (0 ≤ x6_2) = true := decide_eq_true c48; clear c48; by_cases c49 : x6_2 < ((rd_L4 x4_3 x5_1).length : Int)
                               ·
                                rw [if_pos c49] at H; have c49b0 : decide (x6_2 < ((rd_L4 x4_3 x5_1).length : Int)) = true := decide_eq_true c49; clear c49; by_cases c50 : (rd (rd_L4 x4_3 x5_1) x6_2) < 0
                                ·
                                 rw [if_pos c50] at H; have c50b0 : decide ((rd (rd_L4 x4_3 x5_1) x6_2) < 0) = true := decide_eq_true c50; clear c50; obtain ⟨y200, hy200⟩ : ∃ y_ : List Int, y_ = ((rd_L4 x4_3 x5_1).set (x6_2 : Int).toNat (rd (rd_L4 x4_3 (ji39)) x7_3)) := ⟨_, rfl⟩
                                 replace H : (spec_l2Fewest.l2 k3 l0 (l0.length : Int) (x4_3.set (x5_1 : Int).toNat y200) x5_1 x6_2 (wrap64 (x7_3 + 1))) = some r := by first | (rw [hy200]; with_reducible exact H) | (have H2_ := (Option.bind_some _ _).symm.trans H; rw [hy200]; with_reducible exact H2_) | (have H2_ := (Option.bind_some _ _).symm.trans H; with_reducible exact H2_) | with_reducible exact H | (rw [hy200]; exact H) | exact H
                                 have Ny200 := Aside0.mk hy200; clear hy200; obtain ⟨y202, hy202⟩ : ∃ y_ : List (List Int), y_ = (x4_3.set (x5_1 : Int).toNat y200) := ⟨_, rfl⟩
                                 replace H : (spec_l2Fewest.l2 k3 l0 (l0.length : Int) y202 x5_1 x6_2 (wrap64 (x7_3 + 1))) = some r := by first | (rw [hy202]; with_reducible exact H) | (have H2_ := (Option.bind_some _ _).symm.trans H; rw [hy202]; with_reducible exact H2_) | (have H2_ := (Option.bind_some _ _).symm.trans H; with_reducible exact H2_) | with_reducible exact H | (rw [hy202]; exact H) | exact H
                                 have Ny202 := Aside0.mk hy202; clear hy202; have H' := Aside0.mk H; clear H; have p195 : 0 ≤ ((ji39) : Int) := of_decide_eq_true (by first | (with_reducible assumption) | assumption); have q195 : (ji39) < (x4_3.length : Int) := of_decide_eq_true (by first | (with_reducible assumption) | assumption); obtain ⟨ad195, A195_0, c195_0, e195, hx195_0, hl195_0, hi195_0⟩ := at_L4 (Kd.S_reads' HO_4.out).2.2 (ji39) p195 q195; obtain rfl : (⟨go10, 0, none⟩ : Addr) = ad195 := (by injection e195)
                                 obtain ⟨ce195, hce195, hMe195, hcc195⟩ := Kd.S_get HO_4.out [] (ji39) p195 (by first | exact q195 | exact of_decide_eq_true (by first | (with_reducible assumption) | assumption) | (have e_ := (Kd.S_reads' HO_4.out).1; omega)); obtain ⟨ve195_0, rfl, ge195_0⟩ := hMe195; have hv195_0 := hcc195 0 _ rfl; rw [Nat.add_zero, show ((Kd.slice 3 (Kd.int .i64))).sz = 1 from rfl, Nat.mul_one] at hv195_0; replace hv195_0 := Option.some.inj (hv195_0.symm.trans hx195_0); rw [hv195_0] at ge195_0; have HL195_0 := Aside0.mk (show Kd.R (Kd.int .i64) 3 _ _ _ _ (rd_L4 x4_3 (ji39)) from ge195_0); clear hv195_0 ge195_0; have HX195_0 := Aside0.mk hx195_0; clear hcc195 hce195; (first | simp only [add_plain] at hx195_0 | simp only [add_at] at hx195_0 | simp only [Addr.add, Nat.zero_add] at hx195_0 | skip)
                                 have HR195_0 := Aside0.mk hi195_0; have HC195_0 := Aside0.mk hl195_0; clear hi195_0 hl195_0; replace p195 := eq_true p195; replace q195 := eq_true q195; have p196 : 0 ≤ (x7_3 : Int) := of_decide_eq_true (by first | (with_reducible assumption) | assumption); have q196 : x7_3 < ((rd_L4 x4_3 (ji39)).length : Int) := of_decide_eq_true (by first | (with_reducible assumption) | assumption); obtain ⟨ad196, e196, hx196_0⟩ := Kd.at_int (by repeat (first | (with_reducible exact HR195_0.out) | (with_reducible refine Kd.C_alloc ?_ _) | (with_reducible refine Kd.C_drewN ?_ _) | (with_reducible refine Kd.C_drew ?_) | exact HR195_0.out)) x7_3 p196 q196; cases e196; replace p196 := eq_true p196; replace q196 := eq_true q196; have p197 : 0 ≤ (x5_1 : Int) := of_decide_eq_true (by first | (with_reducible assumption) | assumption); have q197 : x5_1 < (x4_3.length : Int) := of_decide_eq_true (by first | (with_reducible assumption) | assumption); obtain ⟨ad197, A197_0, c197_0, e197, hx197_0, hl197_0, hi197_0⟩ := at_L4 (Kd.S_reads' HO_4.out).2.2 x5_1 p197 q197; obtain rfl : (⟨go10, 0, none⟩ : Addr) = ad197 := (by injection e197)
                                 obtain ⟨ce197, hce197, hMe197, hcc197⟩ := Kd.S_get HO_4.out [] x5_1 p197 (by first | exact q197 | exact of_decide_eq_true (by first | (with_reducible assumption) | assumption) | (have e_ := (Kd.S_reads' HO_4.out).1; omega)); obtain ⟨ve197_0, rfl, ge197_0⟩ := hMe197; have hv197_0 := hcc197 0 _ rfl; rw [Nat.add_zero, show ((Kd.slice 3 (Kd.int .i64))).sz = 1 from rfl, Nat.mul_one] at hv197_0; replace hv197_0 := Option.some.inj (hv197_0.symm.trans hx197_0); rw [hv197_0] at ge197_0; have HL197_0 := Aside0.mk (show Kd.R (Kd.int .i64) 3 _ _ _ _ (rd_L4 x4_3 x5_1) from ge197_0); clear hv197_0 ge197_0; have HX197_0 := Aside0.mk hx197_0; clear hcc197 hce197; (first | simp only [add_plain] at hx197_0 | simp only [add_at] at hx197_0 | simp only [Addr.add, Nat.zero_add] at hx197_0 | skip)
                                 have HR197_0 := Aside0.mk hi197_0; have HC197_0 := Aside0.mk hl197_0; clear hi197_0 hl197_0; replace p197 := eq_true p197; replace q197 := eq_true q197; have p198 : 0 ≤ (x6_2 : Int) := of_decide_eq_true (by first | (with_reducible assumption) | assumption); have q198 : x6_2 < ((rd_L4 x4_3 x5_1).length : Int) := of_decide_eq_true (by first | (with_reducible assumption) | assumption); obtain ⟨ad198, e198, hx198_0⟩ := Kd.at_int (by repeat (first | (with_reducible exact HR197_0.out) | (with_reducible refine Kd.C_alloc ?_ _) | (with_reducible refine Kd.C_drewN ?_ _) | (with_reducible refine Kd.C_drew ?_) | exact HR197_0.out)) x6_2 p198 q198; cases e198; replace p198 := eq_true p198; replace q198 := eq_true q198; have p199 : 0 ≤ (x5_1 : Int) := of_decide_eq_true (by first | (with_reducible assumption) | assumption); have q199 : x5_1 < (x4_3.length : Int) := of_decide_eq_true (by first | (with_reducible assumption) | assumption); obtain ⟨ad199, A199_0, c199_0, e199, hx199_0, hl199_0, hi199_0⟩ := at_L4 (Kd.S_reads' HO_4.out).2.2 x5_1 p199 q199; obtain rfl : (⟨go10, 0, none⟩ : Addr) = ad199 := (by injection e199)
                                 obtain ⟨ce199, hce199, hMe199, hcc199⟩ := Kd.S_get HO_4.out [] x5_1 p199 (by first | exact q199 | exact of_decide_eq_true (by first | (with_reducible assumption) | assumption) | (have e_ := (Kd.S_reads' HO_4.out).1; omega)); obtain ⟨ve199_0, rfl, ge199_0⟩ := hMe199; have hv199_0 := hcc199 0 _ rfl; rw [Nat.add_zero, show ((Kd.slice 3 (Kd.int .i64))).sz = 1 from rfl, Nat.mul_one] at hv199_0; replace hv199_0 := Option.some.inj (hv199_0.symm.trans hx199_0); rw [hv199_0] at ge199_0; have HL199_0 := Aside0.mk (show Kd.R (Kd.int .i64) 3 _ _ _ _ (rd_L4 x4_3 x5_1) from ge199_0); clear hv199_0 ge199_0; have HX199_0 := Aside0.mk hx199_0; clear hcc199 hce199; (first | simp only [add_plain] at hx199_0 | simp only [add_at] at hx199_0 | simp only [Addr.add, Nat.zero_add] at hx199_0 | skip)
                                 have HR199_0 := Aside0.mk hi199_0; have HC199_0 := Aside0.mk hl199_0; clear hi199_0 hl199_0; replace p199 := eq_true p199; replace q199 := eq_true q199; have ea_ := Option.some.inj (hx197_0.symm.trans hx199_0); injection ea_ with ea_ en_ ec_
                                 subst ea_; subst ec_; clear en_; have p51 : 0 ≤ (x6_2 : Int) := of_decide_eq_true (by first | (with_reducible assumption) | assumption); have q51 : (x6_2 : Int) < (((rd_L4 x4_3 x5_1).length : Int) : Int) := of_decide_eq_true (by first | (with_reducible assumption) | assumption); obtain ⟨go51, co51, eo51, gb51, gl51, cl51, HG51⟩ := Kd.R_form HL199_0.out (by omega); (first | cases eo51 | (injection eo51 with ea_ en_ ec_; (first | subst ea_ | (injection ea_ with ea_; subst ea_)); subst ec_; clear en_))
                                 have GB51 := Aside0.mk gb51; have GG51 := Aside0.mk HG51; clear gb51 gl51 HG51; (first | simp only [add_plain] at hx198_0 | skip)
                                 obtain ⟨hx51_0, hf51_0⟩ := Kd.R_celln 0 HL199_0.out (x6_2 : Int) p51 q51; replace p51 := eq_true p51; replace q51 := eq_true q51; have hq52 : (x5_1 : Int) < (x4_3.length : Int) := (by have h_ : (x5_1 : Int) < ((x4_3.length : Int) : Int) := of_decide_eq_true (by first | (with_reducible assumption) | assumption); first | exact h_ | (have e_ := (Kd.S_reads' HO_4.out).1; omega) | simpa only [List.length_set, List.length_set] using h_)
                                 obtain ⟨oki52, ce52, hcl52, hM52, hcc52, hok52, hbk52⟩ := Kd.S_borrow HO_4.out [] (x5_1 : Int) (of_decide_eq_true (by first | (with_reducible assumption) | assumption)) (by first | exact hq52 | (have e_ := (Kd.S_reads' HO_4.out).1; have := hq52; omega)); obtain ⟨ve52_0, rfl, ge52_0⟩ := hM52; have hv52 := hcc52 0 _ rfl; rw [Nat.add_zero, show ((Kd.slice 3 (Kd.int .i64))).sz = 1 from rfl, Nat.mul_one] at hv52; replace hv52 := Option.some.inj (hv52.symm.trans HX199_0.out); subst hv52; clear hcc52 hcl52; replace ge52_0 := (show Kd.R (Kd.int .i64) 3 _ _ _ _ (rd_L4 x4_3 x5_1) from ge52_0)
                                 have HP52 := Kd.R_putg ge52_0 (x6_2 : Int) (rd (rd_L4 x4_3 (ji39)) x7_3); go_wp2_with (first | ((with_reducible refine gate_store (t := 3) (p := 94) rfl ?_); refine store_event (t := 3) (p := 94) (v := ?vo_w53) (w1 := (wr.setCell ⟨go51, (x6_2 : Int).toNat, none⟩ (.int .i64 (rd (rd_L4 x4_3 (ji39)) x7_3)))) ?hg ?ho ?hn ?hr ?_; (case ho => rfl); (case hg => rfl); (case hn => rfl); (case hr => first | (go_simp; done) | (go_simp; rfl)); intro w53 hw; have hg : wr.grownBy w53 (some go51) := (by rw [hw]; exact HP52.2); have hz_ : Kd.R (Kd.int .i64) 3 w53 w.heap.size oki52 (.slice (some ⟨go51, 0, none⟩) (rd_L4 x4_3 x5_1).length c197_0) y200 := (by rw [hw, Ny200.out]; exact HP52.1); have hp_ : Kd.S (Kd.slice 3 (Kd.int .i64)) 26 w53 w.heap.size (fun _ => True) (.slice (some ⟨go10, 0, none⟩) x4_3.length co10) y202 := (by rw [Ny202.out]; exact hbk52 hg (fun k_ e_ => by injection e_ with e_; subst e_; exact ge52_0.1 _ rfl) (Kd.M_row hz_)); have hm_ := Kd.R_mono hz_ hok52; clear HP52 hbk52; have n0_ := Aside0.mk (hp_); have n1_ := Aside0.mk ((by rw [hw]; exact below_set (HB.out) GB51.out : Below w.heap.size w w53)); have n2_ := Aside0.mk (hm_); have n3_ := Aside0.mk ((Kd.R_reads' hm_).2.1); clear HO_4; clear HB; clear HL195_0; clear HL197_0; clear HL199_0; have HO_4 := n0_; have HB := n1_; have HL225 := n2_; have HC201 := n3_; clear n0_ n1_ n2_ n3_; clear hg hw hp_ hz_ hm_ hok52))
                                 (try simp only [← hl4_3])
                                 go_roundg k3
                                 case measure => have := HK1.out; have := HK2.out; have := HK3.out; omega
                                 case rel => exact ⟨(y202), (wrap64 (x7_3 + 1)), (by first | rfl | (simp; done) | (simp [*]; done)), H', ⟨by have := HK1.out; have := HK2.out; have := HK3.out; omega⟩, ⟨by (try simp only [hl4_2]); (try simp only [hl4_3]); (with_reducible repeat (first | apply Kd.S_alloc | apply Kd.S_drewN | apply Kd.S_drew)); exact HO_4.out⟩, ⟨by repeat (first | (with_reducible first | exact HB.out | apply below_alloc | apply pw_below_drewN | apply below_drew1) | exact HB.out)⟩⟩
                                ·
                                 rw [if_neg c50] at H; have c50b0 : decide ((rd (rd_L4 x4_3 x5_1) x6_2) < 0) = false := decide_eq_false c50; clear c50; by_cases c54 : (rd (rd_L4 x4_3 (ji39)) x7_3) < (rd (rd_L4 x4_3 x5_1) x6_2)
                                 ·
                                  rw [if_pos c54] at H; have c54b0 : decide ((rd (rd_L4 x4_3 (ji39)) x7_3) < (rd (rd_L4 x4_3 x5_1) x6_2)) = true := decide_eq_true c54; clear c54; obtain ⟨y206, hy206⟩ : ∃ y_ : List Int, y_ = ((rd_L4 x4_3 x5_1).set (x6_2 : Int).toNat (rd (rd_L4 x4_3 (ji39)) x7_3)) := ⟨_, rfl⟩
                                  replace H : (spec_l2Fewest.l2 k3 l0 (l0.length : Int) (x4_3.set (x5_1 : Int).toNat y206) x5_1 x6_2 (wrap64 (x7_3 + 1))) = some r := by first | (rw [hy206]; with_reducible exact H) | (have H2_ := (Option.bind_some _ _).symm.trans H; rw [hy206]; with_reducible exact H2_) | (have H2_ := (Option.bind_some _ _).symm.trans H; with_reducible exact H2_) | with_reducible exact H | (rw [hy206]; exact H) | exact H
                                  have Ny206 := Aside0.mk hy206; clear hy206; obtain ⟨y208, hy208⟩ : ∃ y_ : List (List Int), y_ = (x4_3.set (x5_1 : Int).toNat y206) := ⟨_, rfl⟩
                                  replace H : (spec_l2Fewest.l2 k3 l0 (l0.length : Int) y208 x5_1 x6_2 (wrap64 (x7_3 + 1))) = some r := by first | (rw [hy208]; with_reducible exact H) | (have H2_ := (Option.bind_some _ _).symm.trans H; rw [hy208]; with_reducible exact H2_) | (have H2_ := (Option.bind_some _ _).symm.trans H; with_reducible exact H2_) | with_reducible exact H | (rw [hy208]; exact H) | exact H
                                  have Ny208 := Aside0.mk hy208; clear hy208; have H' := Aside0.mk H; clear H; have p195 : 0 ≤ ((ji39) : Int) := of_decide_eq_true (by first | (with_reducible assumption) | assumption); have q195 : (ji39) < (x4_3.length : Int) := of_decide_eq_true (by first | (with_reducible assumption) | assumption); obtain ⟨ad195, A195_0, c195_0, e195, hx195_0, hl195_0, hi195_0⟩ := at_L4 (Kd.S_reads' HO_4.out).2.2 (ji39) p195 q195; obtain rfl : (⟨go10, 0, none⟩ : Addr) = ad195 := (by injection e195)
                                  obtain ⟨ce195, hce195, hMe195, hcc195⟩ := Kd.S_get HO_4.out [] (ji39) p195 (by first | exact q195 | exact of_decide_eq_true (by first | (with_reducible assumption) | assumption) | (have e_ := (Kd.S_reads' HO_4.out).1; omega)); obtain ⟨ve195_0, rfl, ge195_0⟩ := hMe195; have hv195_0 := hcc195 0 _ rfl; rw [Nat.add_zero, show ((Kd.slice 3 (Kd.int .i64))).sz = 1 from rfl, Nat.mul_one] at hv195_0; replace hv195_0 := Option.some.inj (hv195_0.symm.trans hx195_0); rw [hv195_0] at ge195_0; have HL195_0 := Aside0.mk (show Kd.R (Kd.int .i64) 3 _ _ _ _ (rd_L4 x4_3 (ji39)) from ge195_0); clear hv195_0 ge195_0; have HX195_0 := Aside0.mk hx195_0; clear hcc195 hce195; (first | simp only [add_plain] at hx195_0 | simp only [add_at] at hx195_0 | simp only [Addr.add, Nat.zero_add] at hx195_0 | skip)
                                  have HR195_0 := Aside0.mk hi195_0; have HC195_0 := Aside0.mk hl195_0; clear hi195_0 hl195_0; replace p195 := eq_true p195; replace q195 := eq_true q195; have p196 : 0 ≤ (x7_3 : Int) := of_decide_eq_true (by first | (with_reducible assumption) | assumption); have q196 : x7_3 < ((rd_L4 x4_3 (ji39)).length : Int) := of_decide_eq_true (by first | (with_reducible assumption) | assumption); obtain ⟨ad196, e196, hx196_0⟩ := Kd.at_int (by repeat (first | (with_reducible exact HR195_0.out) | (with_reducible refine Kd.C_alloc ?_ _) | (with_reducible refine Kd.C_drewN ?_ _) | (with_reducible refine Kd.C_drew ?_) | exact HR195_0.out)) x7_3 p196 q196; cases e196; replace p196 := eq_true p196; replace q196 := eq_true q196; have p197 : 0 ≤ (x5_1 : Int) := of_decide_eq_true (by first | (with_reducible assumption) | assumption); have q197 : x5_1 < (x4_3.length : Int) := of_decide_eq_true (by first | (with_reducible assumption) | assumption); obtain ⟨ad197, A197_0, c197_0, e197, hx197_0, hl197_0, hi197_0⟩ := at_L4 (Kd.S_reads' HO_4.out).2.2 x5_1 p197 q197; obtain rfl : (⟨go10, 0, none⟩ : Addr) = ad197 := (by injection e197)
                                  obtain ⟨ce197, hce197, hMe197, hcc197⟩ := Kd.S_get HO_4.out [] x5_1 p197 (by first | exact q197 | exact of_decide_eq_true (by first | (with_reducible assumption) | assumption) | (have e_ := (Kd.S_reads' HO_4.out).1; omega)); obtain ⟨ve197_0, rfl, ge197_0⟩ := hMe197; have hv197_0 := hcc197 0 _ rfl; rw [Nat.add_zero, show ((Kd.slice 3 (Kd.int .i64))).sz = 1 from rfl, Nat.mul_one] at hv197_0; replace hv197_0 := Option.some.inj (hv197_0.symm.trans hx197_0); rw [hv197_0] at ge197_0; have HL197_0 := Aside0.mk (show Kd.R (Kd.int .i64) 3 _ _ _ _ (rd_L4 x4_3 x5_1) from ge197_0); clear hv197_0 ge197_0; have HX197_0 := Aside0.mk hx197_0; clear hcc197 hce197; (first | simp only [add_plain] at hx197_0 | simp only [add_at] at hx197_0 | simp only [Addr.add, Nat.zero_add] at hx197_0 | skip)
                                  have HR197_0 := Aside0.mk hi197_0; have HC197_0 := Aside0.mk hl197_0; clear hi197_0 hl197_0; replace p197 := eq_true p197; replace q197 := eq_true q197; have p198 : 0 ≤ (x6_2 : Int) := of_decide_eq_true (by first | (with_reducible assumption) | assumption); have q198 : x6_2 < ((rd_L4 x4_3 x5_1).length : Int) := of_decide_eq_true (by first | (with_reducible assumption) | assumption); obtain ⟨ad198, e198, hx198_0⟩ := Kd.at_int (by repeat (first | (with_reducible exact HR197_0.out) | (with_reducible refine Kd.C_alloc ?_ _) | (with_reducible refine Kd.C_drewN ?_ _) | (with_reducible refine Kd.C_drew ?_) | exact HR197_0.out)) x6_2 p198 q198; cases e198; replace p198 := eq_true p198; replace q198 := eq_true q198; have p203 : 0 ≤ (x5_1 : Int) := of_decide_eq_true (by first | (with_reducible assumption) | assumption); have q203 : x5_1 < (x4_3.length : Int) := of_decide_eq_true (by first | (with_reducible assumption) | assumption); obtain ⟨ad203, A203_0, c203_0, e203, hx203_0, hl203_0, hi203_0⟩ := at_L4 (Kd.S_reads' HO_4.out).2.2 x5_1 p203 q203; obtain rfl : (⟨go10, 0, none⟩ : Addr) = ad203 := (by injection e203)
                                  obtain ⟨ce203, hce203, hMe203, hcc203⟩ := Kd.S_get HO_4.out [] x5_1 p203 (by first | exact q203 | exact of_decide_eq_true (by first | (with_reducible assumption) | assumption) | (have e_ := (Kd.S_reads' HO_4.out).1; omega)); obtain ⟨ve203_0, rfl, ge203_0⟩ := hMe203; have hv203_0 := hcc203 0 _ rfl; rw [Nat.add_zero, show ((Kd.slice 3 (Kd.int .i64))).sz = 1 from rfl, Nat.mul_one] at hv203_0; replace hv203_0 := Option.some.inj (hv203_0.symm.trans hx203_0); rw [hv203_0] at ge203_0; have HL203_0 := Aside0.mk (show Kd.R (Kd.int .i64) 3 _ _ _ _ (rd_L4 x4_3 x5_1) from ge203_0); clear hv203_0 ge203_0; have HX203_0 := Aside0.mk hx203_0; clear hcc203 hce203; (first | simp only [add_plain] at hx203_0 | simp only [add_at] at hx203_0 | simp only [Addr.add, Nat.zero_add] at hx203_0 | skip)
                                  have HR203_0 := Aside0.mk hi203_0; have HC203_0 := Aside0.mk hl203_0; clear hi203_0 hl203_0; replace p203 := eq_true p203; replace q203 := eq_true q203; have ea_ := Option.some.inj (hx197_0.symm.trans hx203_0); injection ea_ with ea_ en_ ec_
                                  subst ea_; subst ec_; clear en_; have p204 : 0 ≤ (x6_2 : Int) := of_decide_eq_true (by first | (with_reducible assumption) | assumption); have q204 : x6_2 < ((rd_L4 x4_3 x5_1).length : Int) := of_decide_eq_true (by first | (with_reducible assumption) | assumption); obtain ⟨ad204, e204, hx204_0⟩ := Kd.at_int (by repeat (first | (with_reducible exact HR203_0.out) | (with_reducible refine Kd.C_alloc ?_ _) | (with_reducible refine Kd.C_drewN ?_ _) | (with_reducible refine Kd.C_drew ?_) | exact HR203_0.out)) x6_2 p204 q204; cases e204; replace p204 := eq_true p204; replace q204 := eq_true q204; have p205 : 0 ≤ (x5_1 : Int) := of_decide_eq_true (by first | (with_reducible assumption) | assumption); have q205 : x5_1 < (x4_3.length : Int) := of_decide_eq_true (by first | (with_reducible assumption) | assumption); obtain ⟨ad205, A205_0, c205_0, e205, hx205_0, hl205_0, hi205_0⟩ := at_L4 (Kd.S_reads' HO_4.out).2.2 x5_1 p205 q205; obtain rfl : (⟨go10, 0, none⟩ : Addr) = ad205 := (by injection e205)
                                  obtain ⟨ce205, hce205, hMe205, hcc205⟩ := Kd.S_get HO_4.out [] x5_1 p205 (by first | exact q205 | exact of_decide_eq_true (by first | (with_reducible assumption) | assumption) | (have e_ := (Kd.S_reads' HO_4.out).1; omega)); obtain ⟨ve205_0, rfl, ge205_0⟩ := hMe205; have hv205_0 := hcc205 0 _ rfl; rw [Nat.add_zero, show ((Kd.slice 3 (Kd.int .i64))).sz = 1 from rfl, Nat.mul_one] at hv205_0; replace hv205_0 := Option.some.inj (hv205_0.symm.trans hx205_0); rw [hv205_0] at ge205_0; have HL205_0 := Aside0.mk (show Kd.R (Kd.int .i64) 3 _ _ _ _ (rd_L4 x4_3 x5_1) from ge205_0); clear hv205_0 ge205_0; have HX205_0 := Aside0.mk hx205_0; clear hcc205 hce205; (first | simp only [add_plain] at hx205_0 | simp only [add_at] at hx205_0 | simp only [Addr.add, Nat.zero_add] at hx205_0 | skip)
                                  have HR205_0 := Aside0.mk hi205_0; have HC205_0 := Aside0.mk hl205_0; clear hi205_0 hl205_0; replace p205 := eq_true p205; replace q205 := eq_true q205; have ea_ := Option.some.inj (hx197_0.symm.trans hx205_0); injection ea_ with ea_ en_ ec_
                                  subst ea_; subst ec_; clear en_; have p55 : 0 ≤ (x6_2 : Int) := of_decide_eq_true (by first | (with_reducible assumption) | assumption); have q55 : (x6_2 : Int) < (((rd_L4 x4_3 x5_1).length : Int) : Int) := of_decide_eq_true (by first | (with_reducible assumption) | assumption); obtain ⟨go55, co55, eo55, gb55, gl55, cl55, HG55⟩ := Kd.R_form HL205_0.out (by omega); (first | cases eo55 | (injection eo55 with ea_ en_ ec_; (first | subst ea_ | (injection ea_ with ea_; subst ea_)); subst ec_; clear en_))
                                  have GB55 := Aside0.mk gb55; have GG55 := Aside0.mk HG55; clear gb55 gl55 HG55; (first | simp only [add_plain] at hx204_0 | skip)
                                  obtain ⟨hx55_0, hf55_0⟩ := Kd.R_celln 0 HL205_0.out (x6_2 : Int) p55 q55; replace p55 := eq_true p55; replace q55 := eq_true q55; have hq56 : (x5_1 : Int) < (x4_3.length : Int) := (by have h_ : (x5_1 : Int) < ((x4_3.length : Int) : Int) := of_decide_eq_true (by first | (with_reducible assumption) | assumption); first | exact h_ | (have e_ := (Kd.S_reads' HO_4.out).1; omega) | simpa only [List.length_set, List.length_set] using h_)
                                  obtain ⟨oki56, ce56, hcl56, hM56, hcc56, hok56, hbk56⟩ := Kd.S_borrow HO_4.out [] (x5_1 : Int) (of_decide_eq_true (by first | (with_reducible assumption) | assumption)) (by first | exact hq56 | (have e_ := (Kd.S_reads' HO_4.out).1; have := hq56; omega)); obtain ⟨ve56_0, rfl, ge56_0⟩ := hM56; have hv56 := hcc56 0 _ rfl; rw [Nat.add_zero, show ((Kd.slice 3 (Kd.int .i64))).sz = 1 from rfl, Nat.mul_one] at hv56; replace hv56 := Option.some.inj (hv56.symm.trans HX205_0.out); subst hv56; clear hcc56 hcl56; replace ge56_0 := (show Kd.R (Kd.int .i64) 3 _ _ _ _ (rd_L4 x4_3 x5_1) from ge56_0)
                                  have HP56 := Kd.R_putg ge56_0 (x6_2 : Int) (rd (rd_L4 x4_3 (ji39)) x7_3); go_wp2_with (first | ((with_reducible refine gate_store (t := 3) (p := 94) rfl ?_); refine store_event (t := 3) (p := 94) (v := ?vo_w57) (w1 := (wr.setCell ⟨go55, (x6_2 : Int).toNat, none⟩ (.int .i64 (rd (rd_L4 x4_3 (ji39)) x7_3)))) ?hg ?ho ?hn ?hr ?_; (case ho => rfl); (case hg => rfl); (case hn => rfl); (case hr => first | (go_simp; done) | (go_simp; rfl)); intro w57 hw; have hg : wr.grownBy w57 (some go55) := (by rw [hw]; exact HP56.2); have hz_ : Kd.R (Kd.int .i64) 3 w57 w.heap.size oki56 (.slice (some ⟨go55, 0, none⟩) (rd_L4 x4_3 x5_1).length c197_0) y206 := (by rw [hw, Ny206.out]; exact HP56.1); have hp_ : Kd.S (Kd.slice 3 (Kd.int .i64)) 26 w57 w.heap.size (fun _ => True) (.slice (some ⟨go10, 0, none⟩) x4_3.length co10) y208 := (by rw [Ny208.out]; exact hbk56 hg (fun k_ e_ => by injection e_ with e_; subst e_; exact ge56_0.1 _ rfl) (Kd.M_row hz_)); have hm_ := Kd.R_mono hz_ hok56; clear HP56 hbk56; have n0_ := Aside0.mk (hp_); have n1_ := Aside0.mk ((by rw [hw]; exact below_set (HB.out) GB55.out : Below w.heap.size w w57)); have n2_ := Aside0.mk (hm_); have n3_ := Aside0.mk ((Kd.R_reads' hm_).2.1); clear HO_4; clear HB; clear HL195_0; clear HL197_0; clear HL203_0; clear HL205_0; have HO_4 := n0_; have HB := n1_; have HL226 := n2_; have HC207 := n3_; clear n0_ n1_ n2_ n3_; clear hg hw hp_ hz_ hm_ hok56))
                                  (try simp only [← hl4_3])
                                  go_roundg k3
                                  case measure => have := HK1.out; have := HK2.out; have := HK3.out; omega
                                  case rel => exact ⟨(y208), (wrap64 (x7_3 + 1)), (by first | rfl | (simp; done) | (simp [*]; done)), H', ⟨by have := HK1.out; have := HK2.out; have := HK3.out; omega⟩, ⟨by (try simp only [hl4_2]); (try simp only [hl4_3]); (with_reducible repeat (first | apply Kd.S_alloc | apply Kd.S_drewN | apply Kd.S_drew)); exact HO_4.out⟩, ⟨by repeat (first | (with_reducible first | exact HB.out | apply below_alloc | apply pw_below_drewN | apply below_drew1) | exact HB.out)⟩⟩
                                 ·
                                  rw [if_neg c54] at H; have c54b0 : decide ((rd (rd_L4 x4_3 (ji39)) x7_3) < (rd (rd_L4 x4_3 x5_1) x6_2)) = false := decide_eq_false c54; clear c54; have H' := Aside0.mk H; clear H; have p195 : 0 ≤ ((ji39) : Int) := of_decide_eq_true (by first | (with_reducible assumption) | assumption); have q195 : (ji39) < (x4_3.length : Int) := of_decide_eq_true (by first | (with_reducible assumption) | assumption); obtain ⟨ad195, A195_0, c195_0, e195, hx195_0, hl195_0, hi195_0⟩ := at_L4 (Kd.S_reads' HO_4.out).2.2 (ji39) p195 q195; obtain rfl : (⟨go10, 0, none⟩ : Addr) = ad195 := (by injection e195)
                                  obtain ⟨ce195, hce195, hMe195, hcc195⟩ := Kd.S_get HO_4.out [] (ji39) p195 (by first | exact q195 | exact of_decide_eq_true (by first | (with_reducible assumption) | assumption) | (have e_ := (Kd.S_reads' HO_4.out).1; omega)); obtain ⟨ve195_0, rfl, ge195_0⟩ := hMe195; have hv195_0 := hcc195 0 _ rfl; rw [Nat.add_zero, show ((Kd.slice 3 (Kd.int .i64))).sz = 1 from rfl, Nat.mul_one] at hv195_0; replace hv195_0 := Option.some.inj (hv195_0.symm.trans hx195_0); rw [hv195_0] at ge195_0; have HL195_0 := Aside0.mk (show Kd.R (Kd.int .i64) 3 _ _ _ _ (rd_L4 x4_3 (ji39)) from ge195_0); clear hv195_0 ge195_0; have HX195_0 := Aside0.mk hx195_0; clear hcc195 hce195; (first | simp only [add_plain] at hx195_0 | simp only [add_at] at hx195_0 | simp only [Addr.add, Nat.zero_add] at hx195_0 | skip)
                                  have HR195_0 := Aside0.mk hi195_0; have HC195_0 := Aside0.mk hl195_0; clear hi195_0 hl195_0; replace p195 := eq_true p195; replace q195 := eq_true q195; have p196 : 0 ≤ (x7_3 : Int) := of_decide_eq_true (by first | (with_reducible assumption) | assumption); have q196 : x7_3 < ((rd_L4 x4_3 (ji39)).length : Int) := of_decide_eq_true (by first | (with_reducible assumption) | assumption); obtain ⟨ad196, e196, hx196_0⟩ := Kd.at_int (by repeat (first | (with_reducible exact HR195_0.out) | (with_reducible refine Kd.C_alloc ?_ _) | (with_reducible refine Kd.C_drewN ?_ _) | (with_reducible refine Kd.C_drew ?_) | exact HR195_0.out)) x7_3 p196 q196; cases e196; replace p196 := eq_true p196; replace q196 := eq_true q196; have p197 : 0 ≤ (x5_1 : Int) := of_decide_eq_true (by first | (with_reducible assumption) | assumption); have q197 : x5_1 < (x4_3.length : Int) := of_decide_eq_true (by first | (with_reducible assumption) | assumption); obtain ⟨ad197, A197_0, c197_0, e197, hx197_0, hl197_0, hi197_0⟩ := at_L4 (Kd.S_reads' HO_4.out).2.2 x5_1 p197 q197; obtain rfl : (⟨go10, 0, none⟩ : Addr) = ad197 := (by injection e197)
                                  obtain ⟨ce197, hce197, hMe197, hcc197⟩ := Kd.S_get HO_4.out [] x5_1 p197 (by first | exact q197 | exact of_decide_eq_true (by first | (with_reducible assumption) | assumption) | (have e_ := (Kd.S_reads' HO_4.out).1; omega)); obtain ⟨ve197_0, rfl, ge197_0⟩ := hMe197; have hv197_0 := hcc197 0 _ rfl; rw [Nat.add_zero, show ((Kd.slice 3 (Kd.int .i64))).sz = 1 from rfl, Nat.mul_one] at hv197_0; replace hv197_0 := Option.some.inj (hv197_0.symm.trans hx197_0); rw [hv197_0] at ge197_0; have HL197_0 := Aside0.mk (show Kd.R (Kd.int .i64) 3 _ _ _ _ (rd_L4 x4_3 x5_1) from ge197_0); clear hv197_0 ge197_0; have HX197_0 := Aside0.mk hx197_0; clear hcc197 hce197; (first | simp only [add_plain] at hx197_0 | simp only [add_at] at hx197_0 | simp only [Addr.add, Nat.zero_add] at hx197_0 | skip)
                                  have HR197_0 := Aside0.mk hi197_0; have HC197_0 := Aside0.mk hl197_0; clear hi197_0 hl197_0; replace p197 := eq_true p197; replace q197 := eq_true q197; have p198 : 0 ≤ (x6_2 : Int) := of_decide_eq_true (by first | (with_reducible assumption) | assumption); have q198 : x6_2 < ((rd_L4 x4_3 x5_1).length : Int) := of_decide_eq_true (by first | (with_reducible assumption) | assumption); obtain ⟨ad198, e198, hx198_0⟩ := Kd.at_int (by repeat (first | (with_reducible exact HR197_0.out) | (with_reducible refine Kd.C_alloc ?_ _) | (with_reducible refine Kd.C_drewN ?_ _) | (with_reducible refine Kd.C_drew ?_) | exact HR197_0.out)) x6_2 p198 q198; cases e198; replace p198 := eq_true p198; replace q198 := eq_true q198; have p203 : 0 ≤ (x5_1 : Int) := of_decide_eq_true (by first | (with_reducible assumption) | assumption); have q203 : x5_1 < (x4_3.length : Int) := of_decide_eq_true (by first | (with_reducible assumption) | assumption); obtain ⟨ad203, A203_0, c203_0, e203, hx203_0, hl203_0, hi203_0⟩ := at_L4 (Kd.S_reads' HO_4.out).2.2 x5_1 p203 q203; obtain rfl : (⟨go10, 0, none⟩ : Addr) = ad203 := (by injection e203)
                                  obtain ⟨ce203, hce203, hMe203, hcc203⟩ := Kd.S_get HO_4.out [] x5_1 p203 (by first | exact q203 | exact of_decide_eq_true (by first | (with_reducible assumption) | assumption) | (have e_ := (Kd.S_reads' HO_4.out).1; omega)); obtain ⟨ve203_0, rfl, ge203_0⟩ := hMe203; have hv203_0 := hcc203 0 _ rfl; rw [Nat.add_zero, show ((Kd.slice 3 (Kd.int .i64))).sz = 1 from rfl, Nat.mul_one] at hv203_0; replace hv203_0 := Option.some.inj (hv203_0.symm.trans hx203_0); rw [hv203_0] at ge203_0; have HL203_0 := Aside0.mk (show Kd.R (Kd.int .i64) 3 _ _ _ _ (rd_L4 x4_3 x5_1) from ge203_0); clear hv203_0 ge203_0; have HX203_0 := Aside0.mk hx203_0; clear hcc203 hce203; (first | simp only [add_plain] at hx203_0 | simp only [add_at] at hx203_0 | simp only [Addr.add, Nat.zero_add] at hx203_0 | skip)
                                  have HR203_0 := Aside0.mk hi203_0; have HC203_0 := Aside0.mk hl203_0; clear hi203_0 hl203_0; replace p203 := eq_true p203; replace q203 := eq_true q203; have ea_ := Option.some.inj (hx197_0.symm.trans hx203_0); injection ea_ with ea_ en_ ec_
                                  subst ea_; subst ec_; clear en_; have p204 : 0 ≤ (x6_2 : Int) := of_decide_eq_true (by first | (with_reducible assumption) | assumption); have q204 : x6_2 < ((rd_L4 x4_3 x5_1).length : Int) := of_decide_eq_true (by first | (with_reducible assumption) | assumption); obtain ⟨ad204, e204, hx204_0⟩ := Kd.at_int (by repeat (first | (with_reducible exact HR203_0.out) | (with_reducible refine Kd.C_alloc ?_ _) | (with_reducible refine Kd.C_drewN ?_ _) | (with_reducible refine Kd.C_drew ?_) | exact HR203_0.out)) x6_2 p204 q204; cases e204; replace p204 := eq_true p204; replace q204 := eq_true q204; go_wp2; (try simp only [← hl4_3])
                                  go_roundg k3
                                  case measure => have := HK1.out; have := HK2.out; have := HK3.out; omega
                                  case rel => exact ⟨(x4_3), (wrap64 (x7_3 + 1)), (by first | rfl | (simp; done) | (simp [*]; done)), H', ⟨by have := HK1.out; have := HK2.out; have := HK3.out; omega⟩, ⟨by (try simp only [hl4_2]); (try simp only [hl4_3]); (with_reducible repeat (first | apply Kd.S_alloc | apply Kd.S_drewN | apply Kd.S_drew)); exact HO_4.out⟩, ⟨by repeat (first | (with_reducible first | exact HB.out | apply below_alloc | apply pw_below_drewN | apply below_drew1) | exact HB.out)⟩⟩
                               ·
                                rw [if_neg c49] at H; exact absurd H (by simp)
                              ·
                               rw [if_neg c48] at H; exact absurd H (by simp)
                             ·
                              rw [if_neg c47] at H; exact absurd H (by simp)
                            ·
                             rw [if_neg c46] at H; exact absurd H (by simp)
                           ·
                            rw [if_neg c45] at H; have c45b0 : (x7_3 == x6_2) = false := beq_eq_false_iff_ne.mpr c45; have c45b1 : (x7_3 != x6_2) = true := bne_iff_ne.mpr c45; by_cases c58 : 0 ≤ x5_1
                            ·
                             rw [if_pos c58] at H; have c58b0 : decide (0 ≤ x5_1) = true := decide_eq_true c58; clear c58; by_cases c59 : x5_1 < (x4_3.length : Int)
                             ·
                              rw [if_pos c59] at H; have c59b0 : decide (x5_1 < (x4_3.length : Int)) = true := decide_eq_true c59; clear c59; by_cases c60 : 0 ≤ x6_2
                              ·
                               rw [if_pos c60] at H; have c60b0 : decide (0 ≤ x6_2) = true := decide_eq_true c60; clear c60; by_cases c61 : x6_2 < ((rd_L4 x4_3 x5_1).length : Int)
                               ·
                                rw [if_pos c61] at H; have c61b0 : decide (x6_2 < ((rd_L4 x4_3 x5_1).length : Int)) = true := decide_eq_true c61; clear c61; by_cases c62 : (rd (rd_L4 x4_3 x5_1) x6_2) < 0
                                ·
                                 rw [if_pos c62] at H; have c62b0 : decide ((rd (rd_L4 x4_3 x5_1) x6_2) < 0) = true := decide_eq_true c62; clear c62; obtain ⟨y212, hy212⟩ : ∃ y_ : List Int, y_ = ((rd_L4 x4_3 x5_1).set (x6_2 : Int).toNat (wrap64 ((rd (rd_L4 x4_3 (ji39)) x7_3) + 1))) := ⟨_, rfl⟩
                                 replace H : (spec_l2Fewest.l2 k3 l0 (l0.length : Int) (x4_3.set (x5_1 : Int).toNat y212) x5_1 x6_2 (wrap64 (x7_3 + 1))) = some r := by first | (rw [hy212]; with_reducible exact H) | (have H2_ := (Option.bind_some _ _).symm.trans H; rw [hy212]; with_reducible exact H2_) | (have H2_ := (Option.bind_some _ _).symm.trans H; with_reducible exact H2_) | with_reducible exact H | (rw [hy212]; exact H) | exact H
                                 have Ny212 := Aside0.mk hy212; clear hy212; obtain ⟨y214, hy214⟩ : ∃ y_ : List (List Int), y_ = (x4_3.set (x5_1 : Int).toNat y212) := ⟨_, rfl⟩
                                 replace H : (spec_l2Fewest.l2 k3 l0 (l0.length : Int) y214 x5_1 x6_2 (wrap64 (x7_3 + 1))) = some r := by first | (rw [hy214]; with_reducible exact H) | (have H2_ := (Option.bind_some _ _).symm.trans H; rw [hy214]; with_reducible exact H2_) | (have H2_ := (Option.bind_some _ _).symm.trans H; with_reducible exact H2_) | with_reducible exact H | (rw [hy214]; exact H) | exact H
                                 have Ny214 := Aside0.mk hy214; clear hy214; have H' := Aside0.mk H; clear H; have p195 : 0 ≤ ((ji39) : Int) := of_decide_eq_true (by first | (with_reducible assumption) | assumption); have q195 : (ji39) < (x4_3.length : Int) := of_decide_eq_true (by first | (with_reducible assumption) | assumption); obtain ⟨ad195, A195_0, c195_0, e195, hx195_0, hl195_0, hi195_0⟩ := at_L4 (Kd.S_reads' HO_4.out).2.2 (ji39) p195 q195; obtain rfl : (⟨go10, 0, none⟩ : Addr) = ad195 := (by injection e195)
                                 obtain ⟨ce195, hce195, hMe195, hcc195⟩ := Kd.S_get HO_4.out [] (ji39) p195 (by first | exact q195 | exact of_decide_eq_true (by first | (with_reducible assumption) | assumption) | (have e_ := (Kd.S_reads' HO_4.out).1; omega)); obtain ⟨ve195_0, rfl, ge195_0⟩ := hMe195; have hv195_0 := hcc195 0 _ rfl; rw [Nat.add_zero, show ((Kd.slice 3 (Kd.int .i64))).sz = 1 from rfl, Nat.mul_one] at hv195_0; replace hv195_0 := Option.some.inj (hv195_0.symm.trans hx195_0); rw [hv195_0] at ge195_0; have HL195_0 := Aside0.mk (show Kd.R (Kd.int .i64) 3 _ _ _ _ (rd_L4 x4_3 (ji39)) from ge195_0); clear hv195_0 ge195_0; have HX195_0 := Aside0.mk hx195_0; clear hcc195 hce195; (first | simp only [add_plain] at hx195_0 | simp only [add_at] at hx195_0 | simp only [Addr.add, Nat.zero_add] at hx195_0 | skip)
                                 have HR195_0 := Aside0.mk hi195_0; have HC195_0 := Aside0.mk hl195_0; clear hi195_0 hl195_0; replace p195 := eq_true p195; replace q195 := eq_true q195; have p196 : 0 ≤ (x7_3 : Int) := of_decide_eq_true (by first | (with_reducible assumption) | assumption); have q196 : x7_3 < ((rd_L4 x4_3 (ji39)).length : Int) := of_decide_eq_true (by first | (with_reducible assumption) | assumption); obtain ⟨ad196, e196, hx196_0⟩ := Kd.at_int (by repeat (first | (with_reducible exact HR195_0.out) | (with_reducible refine Kd.C_alloc ?_ _) | (with_reducible refine Kd.C_drewN ?_ _) | (with_reducible refine Kd.C_drew ?_) | exact HR195_0.out)) x7_3 p196 q196; cases e196; replace p196 := eq_true p196; replace q196 := eq_true q196; have p209 : 0 ≤ (x5_1 : Int) := of_decide_eq_true (by first | (with_reducible assumption) | assumption); have q209 : x5_1 < (x4_3.length : Int) := of_decide_eq_true (by first | (with_reducible assumption) | assumption); obtain ⟨ad209, A209_0, c209_0, e209, hx209_0, hl209_0, hi209_0⟩ := at_L4 (Kd.S_reads' HO_4.out).2.2 x5_1 p209 q209; obtain rfl : (⟨go10, 0, none⟩ : Addr) = ad209 := (by injection e209)
                                 obtain ⟨ce209, hce209, hMe209, hcc209⟩ := Kd.S_get HO_4.out [] x5_1 p209 (by first | exact q209 | exact of_decide_eq_true (by first | (with_reducible assumption) | assumption) | (have e_ := (Kd.S_reads' HO_4.out).1; omega)); obtain ⟨ve209_0, rfl, ge209_0⟩ := hMe209; have hv209_0 := hcc209 0 _ rfl; rw [Nat.add_zero, show ((Kd.slice 3 (Kd.int .i64))).sz = 1 from rfl, Nat.mul_one] at hv209_0; replace hv209_0 := Option.some.inj (hv209_0.symm.trans hx209_0); rw [hv209_0] at ge209_0; have HL209_0 := Aside0.mk (show Kd.R (Kd.int .i64) 3 _ _ _ _ (rd_L4 x4_3 x5_1) from ge209_0); clear hv209_0 ge209_0; have HX209_0 := Aside0.mk hx209_0; clear hcc209 hce209; (first | simp only [add_plain] at hx209_0 | simp only [add_at] at hx209_0 | simp only [Addr.add, Nat.zero_add] at hx209_0 | skip)
                                 have HR209_0 := Aside0.mk hi209_0; have HC209_0 := Aside0.mk hl209_0; clear hi209_0 hl209_0; replace p209 := eq_true p209; replace q209 := eq_true q209; have p210 : 0 ≤ (x6_2 : Int) := of_decide_eq_true (by first | (with_reducible assumption) | assumption); have q210 : x6_2 < ((rd_L4 x4_3 x5_1).length : Int) := of_decide_eq_true (by first | (with_reducible assumption) | assumption); obtain ⟨ad210, e210, hx210_0⟩ := Kd.at_int (by repeat (first | (with_reducible exact HR209_0.out) | (with_reducible refine Kd.C_alloc ?_ _) | (with_reducible refine Kd.C_drewN ?_ _) | (with_reducible refine Kd.C_drew ?_) | exact HR209_0.out)) x6_2 p210 q210; cases e210; replace p210 := eq_true p210; replace q210 := eq_true q210; have p211 : 0 ≤ (x5_1 : Int) := of_decide_eq_true (by first | (with_reducible assumption) | assumption); have q211 : x5_1 < (x4_3.length : Int) := of_decide_eq_true (by first | (with_reducible assumption) | assumption); obtain ⟨ad211, A211_0, c211_0, e211, hx211_0, hl211_0, hi211_0⟩ := at_L4 (Kd.S_reads' HO_4.out).2.2 x5_1 p211 q211; obtain rfl : (⟨go10, 0, none⟩ : Addr) = ad211 := (by injection e211)
                                 obtain ⟨ce211, hce211, hMe211, hcc211⟩ := Kd.S_get HO_4.out [] x5_1 p211 (by first | exact q211 | exact of_decide_eq_true (by first | (with_reducible assumption) | assumption) | (have e_ := (Kd.S_reads' HO_4.out).1; omega)); obtain ⟨ve211_0, rfl, ge211_0⟩ := hMe211; have hv211_0 := hcc211 0 _ rfl; rw [Nat.add_zero, show ((Kd.slice 3 (Kd.int .i64))).sz = 1 from rfl, Nat.mul_one] at hv211_0; replace hv211_0 := Option.some.inj (hv211_0.symm.trans hx211_0); rw [hv211_0] at ge211_0; have HL211_0 := Aside0.mk (show Kd.R (Kd.int .i64) 3 _ _ _ _ (rd_L4 x4_3 x5_1) from ge211_0); clear hv211_0 ge211_0; have HX211_0 := Aside0.mk hx211_0; clear hcc211 hce211; (first | simp only [add_plain] at hx211_0 | simp only [add_at] at hx211_0 | simp only [Addr.add, Nat.zero_add] at hx211_0 | skip)
                                 have HR211_0 := Aside0.mk hi211_0; have HC211_0 := Aside0.mk hl211_0; clear hi211_0 hl211_0; replace p211 := eq_true p211; replace q211 := eq_true q211; have ea_ := Option.some.inj (hx209_0.symm.trans hx211_0); injection ea_ with ea_ en_ ec_
                                 subst ea_; subst ec_; clear en_; have p63 : 0 ≤ (x6_2 : Int) := of_decide_eq_true (by first | (with_reducible assumption) | assumption); have q63 : (x6_2 : Int) < (((rd_L4 x4_3 x5_1).length : Int) : Int) := of_decide_eq_true (by first | (with_reducible assumption) | assumption); obtain ⟨go63, co63, eo63, gb63, gl63, cl63, HG63⟩ := Kd.R_form HL211_0.out (by omega); (first | cases eo63 | (injection eo63 with ea_ en_ ec_; (first | subst ea_ | (injection ea_ with ea_; subst ea_)); subst ec_; clear en_))
                                 have GB63 := Aside0.mk gb63; have GG63 := Aside0.mk HG63; clear gb63 gl63 HG63; (first | simp only [add_plain] at hx210_0 | skip)
                                 obtain ⟨hx63_0, hf63_0⟩ := Kd.R_celln 0 HL211_0.out (x6_2 : Int) p63 q63; replace p63 := eq_true p63; replace q63 := eq_true q63; have hq64 : (x5_1 : Int) < (x4_3.length : Int) := (by have h_ : (x5_1 : Int) < ((x4_3.length : Int) : Int) := of_decide_eq_true (by first | (with_reducible assumption) | assumption); first | exact h_ | (have e_ := (Kd.S_reads' HO_4.out).1; omega) | simpa only [List.length_set, List.length_set] using h_)
                                 obtain ⟨oki64, ce64, hcl64, hM64, hcc64, hok64, hbk64⟩ := Kd.S_borrow HO_4.out [] (x5_1 : Int) (of_decide_eq_true (by first | (with_reducible assumption) | assumption)) (by first | exact hq64 | (have e_ := (Kd.S_reads' HO_4.out).1; have := hq64; omega)); obtain ⟨ve64_0, rfl, ge64_0⟩ := hM64; have hv64 := hcc64 0 _ rfl; rw [Nat.add_zero, show ((Kd.slice 3 (Kd.int .i64))).sz = 1 from rfl, Nat.mul_one] at hv64; replace hv64 := Option.some.inj (hv64.symm.trans HX211_0.out); subst hv64; clear hcc64 hcl64; replace ge64_0 := (show Kd.R (Kd.int .i64) 3 _ _ _ _ (rd_L4 x4_3 x5_1) from ge64_0)
                                 have HP64 := Kd.R_putg ge64_0 (x6_2 : Int) (wrap64 ((rd (rd_L4 x4_3 (ji39)) x7_3) + 1)); go_wp2_with (first | ((with_reducible refine gate_store (t := 3) (p := 94) rfl ?_); refine store_event (t := 3) (p := 94) (v := ?vo_w65) (w1 := (wr.setCell ⟨go63, (x6_2 : Int).toNat, none⟩ (.int .i64 (wrap64 ((rd (rd_L4 x4_3 (ji39)) x7_3) + 1))))) ?hg ?ho ?hn ?hr ?_; (case ho => rfl); (case hg => rfl); (case hn => rfl); (case hr => first | (go_simp; done) | (go_simp; rfl)); intro w65 hw; have hg : wr.grownBy w65 (some go63) := (by rw [hw]; exact HP64.2); have hz_ : Kd.R (Kd.int .i64) 3 w65 w.heap.size oki64 (.slice (some ⟨go63, 0, none⟩) (rd_L4 x4_3 x5_1).length c209_0) y212 := (by rw [hw, Ny212.out]; exact HP64.1); have hp_ : Kd.S (Kd.slice 3 (Kd.int .i64)) 26 w65 w.heap.size (fun _ => True) (.slice (some ⟨go10, 0, none⟩) x4_3.length co10) y214 := (by rw [Ny214.out]; exact hbk64 hg (fun k_ e_ => by injection e_ with e_; subst e_; exact ge64_0.1 _ rfl) (Kd.M_row hz_)); have hm_ := Kd.R_mono hz_ hok64; clear HP64 hbk64; have n0_ := Aside0.mk (hp_); have n1_ := Aside0.mk ((by rw [hw]; exact below_set (HB.out) GB63.out : Below w.heap.size w w65)); have n2_ := Aside0.mk (hm_); have n3_ := Aside0.mk ((Kd.R_reads' hm_).2.1); clear HO_4; clear HB; clear HL195_0; clear HL209_0; clear HL211_0; have HO_4 := n0_; have HB := n1_; have HL227 := n2_; have HC213 := n3_; clear n0_ n1_ n2_ n3_; clear hg hw hp_ hz_ hm_ hok64))
                                 (try simp only [← hl4_3])
                                 go_roundg k3
                                 case measure => have := HK1.out; have := HK2.out; have := HK3.out; omega
                                 case rel => exact ⟨(y214), (wrap64 (x7_3 + 1)), (by first | rfl | (simp; done) | (simp [*]; done)), H', ⟨by have := HK1.out; have := HK2.out; have := HK3.out; omega⟩, ⟨by (try simp only [hl4_2]); (try simp only [hl4_3]); (with_reducible repeat (first | apply Kd.S_alloc | apply Kd.S_drewN | apply Kd.S_drew)); exact HO_4.out⟩, ⟨by repeat (first | (with_reducible first | exact HB.out | apply below_alloc | apply pw_below_drewN | apply below_drew1) | exact HB.out)⟩⟩
                                ·
                                 rw [if_neg c62] at H; have c62b0 : decide ((rd (rd_L4 x4_3 x5_1) x6_2) < 0) = false := decide_eq_false c62; clear c62; by_cases c66 : (wrap64 ((rd (rd_L4 x4_3 (ji39)) x7_3) + 1)) < (rd (rd_L4 x4_3 x5_1) x6_2)
                                 ·
                                  rw [if_pos c66] at H; have c66b0 : decide ((wrap64 ((rd (rd_L4 x4_3 (ji39)) x7_3) + 1)) < (rd (rd_L4 x4_3 x5_1) x6_2)) = true := decide_eq_true c66; clear c66; obtain ⟨y218, hy218⟩ : ∃ y_ : List Int, y_ = ((rd_L4 x4_3 x5_1).set (x6_2 : Int).toNat (wrap64 ((rd (rd_L4 x4_3 (ji39)) x7_3) + 1))) := ⟨_, rfl⟩
                                  replace H : (spec_l2Fewest.l2 k3 l0 (l0.length : Int) (x4_3.set (x5_1 : Int).toNat y218) x5_1 x6_2 (wrap64 (x7_3 + 1))) = some r := by first | (rw [hy218]; with_reducible exact H) | (have H2_ := (Option.bind_some _ _).symm.trans H; rw [hy218]; with_reducible exact H2_) | (have H2_ := (Option.bind_some _ _).symm.trans H; with_reducible exact H2_) | with_reducible exact H | (rw [hy218]; exact H) | exact H
                                  have Ny218 := Aside0.mk hy218; clear hy218; obtain ⟨y220, hy220⟩ : ∃ y_ : List (List Int), y_ = (x4_3.set (x5_1 : Int).toNat y218) := ⟨_, rfl⟩
                                  replace H : (spec_l2Fewest.l2 k3 l0 (l0.length : Int) y220 x5_1 x6_2 (wrap64 (x7_3 + 1))) = some r := by first | (rw [hy220]; with_reducible exact H) | (have H2_ := (Option.bind_some _ _).symm.trans H; rw [hy220]; with_reducible exact H2_) | (have H2_ := (Option.bind_some _ _).symm.trans H; with_reducible exact H2_) | with_reducible exact H | (rw [hy220]; exact H) | exact H
                                  have Ny220 := Aside0.mk hy220; clear hy220; have H' := Aside0.mk H; clear H; have p195 : 0 ≤ ((ji39) : Int) := of_decide_eq_true (by first | (with_reducible assumption) | assumption); have q195 : (ji39) < (x4_3.length : Int) := of_decide_eq_true (by first | (with_reducible assumption) | assumption); obtain ⟨ad195, A195_0, c195_0, e195, hx195_0, hl195_0, hi195_0⟩ := at_L4 (Kd.S_reads' HO_4.out).2.2 (ji39) p195 q195; obtain rfl : (⟨go10, 0, none⟩ : Addr) = ad195 := (by injection e195)
                                  obtain ⟨ce195, hce195, hMe195, hcc195⟩ := Kd.S_get HO_4.out [] (ji39) p195 (by first | exact q195 | exact of_decide_eq_true (by first | (with_reducible assumption) | assumption) | (have e_ := (Kd.S_reads' HO_4.out).1; omega)); obtain ⟨ve195_0, rfl, ge195_0⟩ := hMe195; have hv195_0 := hcc195 0 _ rfl; rw [Nat.add_zero, show ((Kd.slice 3 (Kd.int .i64))).sz = 1 from rfl, Nat.mul_one] at hv195_0; replace hv195_0 := Option.some.inj (hv195_0.symm.trans hx195_0); rw [hv195_0] at ge195_0; have HL195_0 := Aside0.mk (show Kd.R (Kd.int .i64) 3 _ _ _ _ (rd_L4 x4_3 (ji39)) from ge195_0); clear hv195_0 ge195_0; have HX195_0 := Aside0.mk hx195_0; clear hcc195 hce195; (first | simp only [add_plain] at hx195_0 | simp only [add_at] at hx195_0 | simp only [Addr.add, Nat.zero_add] at hx195_0 | skip)
                                  have HR195_0 := Aside0.mk hi195_0; have HC195_0 := Aside0.mk hl195_0; clear hi195_0 hl195_0; replace p195 := eq_true p195; replace q195 := eq_true q195; have p196 : 0 ≤ (x7_3 : Int) := of_decide_eq_true (by first | (with_reducible assumption) | assumption); have q196 : x7_3 < ((rd_L4 x4_3 (ji39)).length : Int) := of_decide_eq_true (by first | (with_reducible assumption) | assumption); obtain ⟨ad196, e196, hx196_0⟩ := Kd.at_int (by repeat (first | (with_reducible exact HR195_0.out) | (with_reducible refine Kd.C_alloc ?_ _) | (with_reducible refine Kd.C_drewN ?_ _) | (with_reducible refine Kd.C_drew ?_) | exact HR195_0.out)) x7_3 p196 q196; cases e196; replace p196 := eq_true p196; replace q196 := eq_true q196; have p209 : 0 ≤ (x5_1 : Int) := of_decide_eq_true (by first | (with_reducible assumption) | assumption); have q209 : x5_1 < (x4_3.length : Int) := of_decide_eq_true (by first | (with_reducible assumption) | assumption); obtain ⟨ad209, A209_0, c209_0, e209, hx209_0, hl209_0, hi209_0⟩ := at_L4 (Kd.S_reads' HO_4.out).2.2 x5_1 p209 q209; obtain rfl : (⟨go10, 0, none⟩ : Addr) = ad209 := (by injection e209)
                                  obtain ⟨ce209, hce209, hMe209, hcc209⟩ := Kd.S_get HO_4.out [] x5_1 p209 (by first | exact q209 | exact of_decide_eq_true (by first | (with_reducible assumption) | assumption) | (have e_ := (Kd.S_reads' HO_4.out).1; omega)); obtain ⟨ve209_0, rfl, ge209_0⟩ := hMe209; have hv209_0 := hcc209 0 _ rfl; rw [Nat.add_zero, show ((Kd.slice 3 (Kd.int .i64))).sz = 1 from rfl, Nat.mul_one] at hv209_0; replace hv209_0 := Option.some.inj (hv209_0.symm.trans hx209_0); rw [hv209_0] at ge209_0; have HL209_0 := Aside0.mk (show Kd.R (Kd.int .i64) 3 _ _ _ _ (rd_L4 x4_3 x5_1) from ge209_0); clear hv209_0 ge209_0; have HX209_0 := Aside0.mk hx209_0; clear hcc209 hce209; (first | simp only [add_plain] at hx209_0 | simp only [add_at] at hx209_0 | simp only [Addr.add, Nat.zero_add] at hx209_0 | skip)
                                  have HR209_0 := Aside0.mk hi209_0; have HC209_0 := Aside0.mk hl209_0; clear hi209_0 hl209_0; replace p209 := eq_true p209; replace q209 := eq_true q209; have p210 : 0 ≤ (x6_2 : Int) := of_decide_eq_true (by first | (with_reducible assumption) | assumption); have q210 : x6_2 < ((rd_L4 x4_3 x5_1).length : Int) := of_decide_eq_true (by first | (with_reducible assumption) | assumption); obtain ⟨ad210, e210, hx210_0⟩ := Kd.at_int (by repeat (first | (with_reducible exact HR209_0.out) | (with_reducible refine Kd.C_alloc ?_ _) | (with_reducible refine Kd.C_drewN ?_ _) | (with_reducible refine Kd.C_drew ?_) | exact HR209_0.out)) x6_2 p210 q210; cases e210; replace p210 := eq_true p210; replace q210 := eq_true q210; have p215 : 0 ≤ (x5_1 : Int) := of_decide_eq_true (by first | (with_reducible assumption) | assumption); have q215 : x5_1 < (x4_3.length : Int) := of_decide_eq_true (by first | (with_reducible assumption) | assumption); obtain ⟨ad215, A215_0, c215_0, e215, hx215_0, hl215_0, hi215_0⟩ := at_L4 (Kd.S_reads' HO_4.out).2.2 x5_1 p215 q215; obtain rfl : (⟨go10, 0, none⟩ : Addr) = ad215 := (by injection e215)
                                  obtain ⟨ce215, hce215, hMe215, hcc215⟩ := Kd.S_get HO_4.out [] x5_1 p215 (by first | exact q215 | exact of_decide_eq_true (by first | (with_reducible assumption) | assumption) | (have e_ := (Kd.S_reads' HO_4.out).1; omega)); obtain ⟨ve215_0, rfl, ge215_0⟩ := hMe215; have hv215_0 := hcc215 0 _ rfl; rw [Nat.add_zero, show ((Kd.slice 3 (Kd.int .i64))).sz = 1 from rfl, Nat.mul_one] at hv215_0; replace hv215_0 := Option.some.inj (hv215_0.symm.trans hx215_0); rw [hv215_0] at ge215_0; have HL215_0 := Aside0.mk (show Kd.R (Kd.int .i64) 3 _ _ _ _ (rd_L4 x4_3 x5_1) from ge215_0); clear hv215_0 ge215_0; have HX215_0 := Aside0.mk hx215_0; clear hcc215 hce215; (first | simp only [add_plain] at hx215_0 | simp only [add_at] at hx215_0 | simp only [Addr.add, Nat.zero_add] at hx215_0 | skip)
                                  have HR215_0 := Aside0.mk hi215_0; have HC215_0 := Aside0.mk hl215_0; clear hi215_0 hl215_0; replace p215 := eq_true p215; replace q215 := eq_true q215; have ea_ := Option.some.inj (hx209_0.symm.trans hx215_0); injection ea_ with ea_ en_ ec_
                                  subst ea_; subst ec_; clear en_; have p216 : 0 ≤ (x6_2 : Int) := of_decide_eq_true (by first | (with_reducible assumption) | assumption); have q216 : x6_2 < ((rd_L4 x4_3 x5_1).length : Int) := of_decide_eq_true (by first | (with_reducible assumption) | assumption); obtain ⟨ad216, e216, hx216_0⟩ := Kd.at_int (by repeat (first | (with_reducible exact HR215_0.out) | (with_reducible refine Kd.C_alloc ?_ _) | (with_reducible refine Kd.C_drewN ?_ _) | (with_reducible refine Kd.C_drew ?_) | exact HR215_0.out)) x6_2 p216 q216; cases e216; replace p216 := eq_true p216; replace q216 := eq_true q216; have p217 : 0 ≤ (x5_1 : Int) := of_decide_eq_true (by first | (with_reducible assumption) | assumption); have q217 : x5_1 < (x4_3.length : Int) := of_decide_eq_true (by first | (with_reducible assumption) | assumption); obtain ⟨ad217, A217_0, c217_0, e217, hx217_0, hl217_0, hi217_0⟩ := at_L4 (Kd.S_reads' HO_4.out).2.2 x5_1 p217 q217; obtain rfl : (⟨go10, 0, none⟩ : Addr) = ad217 := (by injection e217)
                                  obtain ⟨ce217, hce217, hMe217, hcc217⟩ := Kd.S_get HO_4.out [] x5_1 p217 (by first | exact q217 | exact of_decide_eq_true (by first | (with_reducible assumption) | assumption) | (have e_ := (Kd.S_reads' HO_4.out).1; omega)); obtain ⟨ve217_0, rfl, ge217_0⟩ := hMe217; have hv217_0 := hcc217 0 _ rfl; rw [Nat.add_zero, show ((Kd.slice 3 (Kd.int .i64))).sz = 1 from rfl, Nat.mul_one] at hv217_0; replace hv217_0 := Option.some.inj (hv217_0.symm.trans hx217_0); rw [hv217_0] at ge217_0; have HL217_0 := Aside0.mk (show Kd.R (Kd.int .i64) 3 _ _ _ _ (rd_L4 x4_3 x5_1) from ge217_0); clear hv217_0 ge217_0; have HX217_0 := Aside0.mk hx217_0; clear hcc217 hce217; (first | simp only [add_plain] at hx217_0 | simp only [add_at] at hx217_0 | simp only [Addr.add, Nat.zero_add] at hx217_0 | skip)
                                  have HR217_0 := Aside0.mk hi217_0; have HC217_0 := Aside0.mk hl217_0; clear hi217_0 hl217_0; replace p217 := eq_true p217; replace q217 := eq_true q217; have ea_ := Option.some.inj (hx209_0.symm.trans hx217_0); injection ea_ with ea_ en_ ec_
                                  subst ea_; subst ec_; clear en_; have p67 : 0 ≤ (x6_2 : Int) := of_decide_eq_true (by first | (with_reducible assumption) | assumption); have q67 : (x6_2 : Int) < (((rd_L4 x4_3 x5_1).length : Int) : Int) := of_decide_eq_true (by first | (with_reducible assumption) | assumption); obtain ⟨go67, co67, eo67, gb67, gl67, cl67, HG67⟩ := Kd.R_form HL217_0.out (by omega); (first | cases eo67 | (injection eo67 with ea_ en_ ec_; (first | subst ea_ | (injection ea_ with ea_; subst ea_)); subst ec_; clear en_))
                                  have GB67 := Aside0.mk gb67; have GG67 := Aside0.mk HG67; clear gb67 gl67 HG67; (first | simp only [add_plain] at hx216_0 | skip)
                                  obtain ⟨hx67_0, hf67_0⟩ := Kd.R_celln 0 HL217_0.out (x6_2 : Int) p67 q67; replace p67 := eq_true p67; replace q67 := eq_true q67; have hq68 : (x5_1 : Int) < (x4_3.length : Int) := (by have h_ : (x5_1 : Int) < ((x4_3.length : Int) : Int) := of_decide_eq_true (by first | (with_reducible assumption) | assumption); first | exact h_ | (have e_ := (Kd.S_reads' HO_4.out).1; omega) | simpa only [List.length_set, List.length_set] using h_)
                                  obtain ⟨oki68, ce68, hcl68, hM68, hcc68, hok68, hbk68⟩ := Kd.S_borrow HO_4.out [] (x5_1 : Int) (of_decide_eq_true (by first | (with_reducible assumption) | assumption)) (by first | exact hq68 | (have e_ := (Kd.S_reads' HO_4.out).1; have := hq68; omega)); obtain ⟨ve68_0, rfl, ge68_0⟩ := hM68; have hv68 := hcc68 0 _ rfl; rw [Nat.add_zero, show ((Kd.slice 3 (Kd.int .i64))).sz = 1 from rfl, Nat.mul_one] at hv68; replace hv68 := Option.some.inj (hv68.symm.trans HX217_0.out); subst hv68; clear hcc68 hcl68; replace ge68_0 := (show Kd.R (Kd.int .i64) 3 _ _ _ _ (rd_L4 x4_3 x5_1) from ge68_0)
                                  have HP68 := Kd.R_putg ge68_0 (x6_2 : Int) (wrap64 ((rd (rd_L4 x4_3 (ji39)) x7_3) + 1)); go_wp2_with (first | ((with_reducible refine gate_store (t := 3) (p := 94) rfl ?_); refine store_event (t := 3) (p := 94) (v := ?vo_w69) (w1 := (wr.setCell ⟨go67, (x6_2 : Int).toNat, none⟩ (.int .i64 (wrap64 ((rd (rd_L4 x4_3 (ji39)) x7_3) + 1))))) ?hg ?ho ?hn ?hr ?_; (case ho => rfl); (case hg => rfl); (case hn => rfl); (case hr => first | (go_simp; done) | (go_simp; rfl)); intro w69 hw; have hg : wr.grownBy w69 (some go67) := (by rw [hw]; exact HP68.2); have hz_ : Kd.R (Kd.int .i64) 3 w69 w.heap.size oki68 (.slice (some ⟨go67, 0, none⟩) (rd_L4 x4_3 x5_1).length c209_0) y218 := (by rw [hw, Ny218.out]; exact HP68.1); have hp_ : Kd.S (Kd.slice 3 (Kd.int .i64)) 26 w69 w.heap.size (fun _ => True) (.slice (some ⟨go10, 0, none⟩) x4_3.length co10) y220 := (by rw [Ny220.out]; exact hbk68 hg (fun k_ e_ => by injection e_ with e_; subst e_; exact ge68_0.1 _ rfl) (Kd.M_row hz_)); have hm_ := Kd.R_mono hz_ hok68; clear HP68 hbk68; have n0_ := Aside0.mk (hp_); have n1_ := Aside0.mk ((by rw [hw]; exact below_set (HB.out) GB67.out : Below w.heap.size w w69)); have n2_ := Aside0.mk (hm_); have n3_ := Aside0.mk ((Kd.R_reads' hm_).2.1); clear HO_4; clear HB; clear HL195_0; clear HL209_0; clear HL215_0; clear HL217_0; have HO_4 := n0_; have HB := n1_; have HL228 := n2_; have HC219 := n3_; clear n0_ n1_ n2_ n3_; clear hg hw hp_ hz_ hm_ hok68))
                                  (try simp only [← hl4_3])
                                  go_roundg k3
                                  case measure => have := HK1.out; have := HK2.out; have := HK3.out; omega
                                  case rel => exact ⟨(y220), (wrap64 (x7_3 + 1)), (by first | rfl | (simp; done) | (simp [*]; done)), H', ⟨by have := HK1.out; have := HK2.out; have := HK3.out; omega⟩, ⟨by (try simp only [hl4_2]); (try simp only [hl4_3]); (with_reducible repeat (first | apply Kd.S_alloc | apply Kd.S_drewN | apply Kd.S_drew)); exact HO_4.out⟩, ⟨by repeat (first | (with_reducible first | exact HB.out | apply below_alloc | apply pw_below_drewN | apply below_drew1) | exact HB.out)⟩⟩
                                 ·
                                  rw [if_neg c66] at H; have c66b0 : decide ((wrap64 ((rd (rd_L4 x4_3 (ji39)) x7_3) + 1)) < (rd (rd_L4 x4_3 x5_1) x6_2)) = false := decide_eq_false c66; clear c66; have H' := Aside0.mk H; clear H; have p195 : 0 ≤ ((ji39) : Int) := of_decide_eq_true (by first | (with_reducible assumption) | assumption); have q195 : (ji39) < (x4_3.length : Int) := of_decide_eq_true (by first | (with_reducible assumption) | assumption); obtain ⟨ad195, A195_0, c195_0, e195, hx195_0, hl195_0, hi195_0⟩ := at_L4 (Kd.S_reads' HO_4.out).2.2 (ji39) p195 q195; obtain rfl : (⟨go10, 0, none⟩ : Addr) = ad195 := (by injection e195)
                                  obtain ⟨ce195, hce195, hMe195, hcc195⟩ := Kd.S_get HO_4.out [] (ji39) p195 (by first | exact q195 | exact of_decide_eq_true (by first | (with_reducible assumption) | assumption) | (have e_ := (Kd.S_reads' HO_4.out).1; omega)); obtain ⟨ve195_0, rfl, ge195_0⟩ := hMe195; have hv195_0 := hcc195 0 _ rfl; rw [Nat.add_zero, show ((Kd.slice 3 (Kd.int .i64))).sz = 1 from rfl, Nat.mul_one] at hv195_0; replace hv195_0 := Option.some.inj (hv195_0.symm.trans hx195_0); rw [hv195_0] at ge195_0; have HL195_0 := Aside0.mk (show Kd.R (Kd.int .i64) 3 _ _ _ _ (rd_L4 x4_3 (ji39)) from ge195_0); clear hv195_0 ge195_0; have HX195_0 := Aside0.mk hx195_0; clear hcc195 hce195; (first | simp only [add_plain] at hx195_0 | simp only [add_at] at hx195_0 | simp only [Addr.add, Nat.zero_add] at hx195_0 | skip)
                                  have HR195_0 := Aside0.mk hi195_0; have HC195_0 := Aside0.mk hl195_0; clear hi195_0 hl195_0; replace p195 := eq_true p195; replace q195 := eq_true q195; have p196 : 0 ≤ (x7_3 : Int) := of_decide_eq_true (by first | (with_reducible assumption) | assumption); have q196 : x7_3 < ((rd_L4 x4_3 (ji39)).length : Int) := of_decide_eq_true (by first | (with_reducible assumption) | assumption); obtain ⟨ad196, e196, hx196_0⟩ := Kd.at_int (by repeat (first | (with_reducible exact HR195_0.out) | (with_reducible refine Kd.C_alloc ?_ _) | (with_reducible refine Kd.C_drewN ?_ _) | (with_reducible refine Kd.C_drew ?_) | exact HR195_0.out)) x7_3 p196 q196; cases e196; replace p196 := eq_true p196; replace q196 := eq_true q196; have p209 : 0 ≤ (x5_1 : Int) := of_decide_eq_true (by first | (with_reducible assumption) | assumption); have q209 : x5_1 < (x4_3.length : Int) := of_decide_eq_true (by first | (with_reducible assumption) | assumption); obtain ⟨ad209, A209_0, c209_0, e209, hx209_0, hl209_0, hi209_0⟩ := at_L4 (Kd.S_reads' HO_4.out).2.2 x5_1 p209 q209; obtain rfl : (⟨go10, 0, none⟩ : Addr) = ad209 := (by injection e209)
                                  obtain ⟨ce209, hce209, hMe209, hcc209⟩ := Kd.S_get HO_4.out [] x5_1 p209 (by first | exact q209 | exact of_decide_eq_true (by first | (with_reducible assumption) | assumption) | (have e_ := (Kd.S_reads' HO_4.out).1; omega)); obtain ⟨ve209_0, rfl, ge209_0⟩ := hMe209; have hv209_0 := hcc209 0 _ rfl; rw [Nat.add_zero, show ((Kd.slice 3 (Kd.int .i64))).sz = 1 from rfl, Nat.mul_one] at hv209_0; replace hv209_0 := Option.some.inj (hv209_0.symm.trans hx209_0); rw [hv209_0] at ge209_0; have HL209_0 := Aside0.mk (show Kd.R (Kd.int .i64) 3 _ _ _ _ (rd_L4 x4_3 x5_1) from ge209_0); clear hv209_0 ge209_0; have HX209_0 := Aside0.mk hx209_0; clear hcc209 hce209; (first | simp only [add_plain] at hx209_0 | simp only [add_at] at hx209_0 | simp only [Addr.add, Nat.zero_add] at hx209_0 | skip)
                                  have HR209_0 := Aside0.mk hi209_0; have HC209_0 := Aside0.mk hl209_0; clear hi209_0 hl209_0; replace p209 := eq_true p209; replace q209 := eq_true q209; have p210 : 0 ≤ (x6_2 : Int) := of_decide_eq_true (by first | (with_reducible assumption) | assumption); have q210 : x6_2 < ((rd_L4 x4_3 x5_1).length : Int) := of_decide_eq_true (by first | (with_reducible assumption) | assumption); obtain ⟨ad210, e210, hx210_0⟩ := Kd.at_int (by repeat (first | (with_reducible exact HR209_0.out) | (with_reducible refine Kd.C_alloc ?_ _) | (with_reducible refine Kd.C_drewN ?_ _) | (with_reducible refine Kd.C_drew ?_) | exact HR209_0.out)) x6_2 p210 q210; cases e210; replace p210 := eq_true p210; replace q210 := eq_true q210; have p215 : 0 ≤ (x5_1 : Int) := of_decide_eq_true (by first | (with_reducible assumption) | assumption); have q215 : x5_1 < (x4_3.length : Int) := of_decide_eq_true (by first | (with_reducible assumption) | assumption); obtain ⟨ad215, A215_0, c215_0, e215, hx215_0, hl215_0, hi215_0⟩ := at_L4 (Kd.S_reads' HO_4.out).2.2 x5_1 p215 q215; obtain rfl : (⟨go10, 0, none⟩ : Addr) = ad215 := (by injection e215)
                                  obtain ⟨ce215, hce215, hMe215, hcc215⟩ := Kd.S_get HO_4.out [] x5_1 p215 (by first | exact q215 | exact of_decide_eq_true (by first | (with_reducible assumption) | assumption) | (have e_ := (Kd.S_reads' HO_4.out).1; omega)); obtain ⟨ve215_0, rfl, ge215_0⟩ := hMe215; have hv215_0 := hcc215 0 _ rfl; rw [Nat.add_zero, show ((Kd.slice 3 (Kd.int .i64))).sz = 1 from rfl, Nat.mul_one] at hv215_0; replace hv215_0 := Option.some.inj (hv215_0.symm.trans hx215_0); rw [hv215_0] at ge215_0; have HL215_0 := Aside0.mk (show Kd.R (Kd.int .i64) 3 _ _ _ _ (rd_L4 x4_3 x5_1) from ge215_0); clear hv215_0 ge215_0; have HX215_0 := Aside0.mk hx215_0; clear hcc215 hce215; (first | simp only [add_plain] at hx215_0 | simp only [add_at] at hx215_0 | simp only [Addr.add, Nat.zero_add] at hx215_0 | skip)
                                  have HR215_0 := Aside0.mk hi215_0; have HC215_0 := Aside0.mk hl215_0; clear hi215_0 hl215_0; replace p215 := eq_true p215; replace q215 := eq_true q215; have ea_ := Option.some.inj (hx209_0.symm.trans hx215_0); injection ea_ with ea_ en_ ec_
                                  subst ea_; subst ec_; clear en_; have p216 : 0 ≤ (x6_2 : Int) := of_decide_eq_true (by first | (with_reducible assumption) | assumption); have q216 : x6_2 < ((rd_L4 x4_3 x5_1).length : Int) := of_decide_eq_true (by first | (with_reducible assumption) | assumption); obtain ⟨ad216, e216, hx216_0⟩ := Kd.at_int (by repeat (first | (with_reducible exact HR215_0.out) | (with_reducible refine Kd.C_alloc ?_ _) | (with_reducible refine Kd.C_drewN ?_ _) | (with_reducible refine Kd.C_drew ?_) | exact HR215_0.out)) x6_2 p216 q216; cases e216; replace p216 := eq_true p216; replace q216 := eq_true q216; go_wp2; (try simp only [← hl4_3])
                                  go_roundg k3
                                  case measure => have := HK1.out; have := HK2.out; have := HK3.out; omega
                                  case rel => exact ⟨(x4_3), (wrap64 (x7_3 + 1)), (by first | rfl | (simp; done) | (simp [*]; done)), H', ⟨by have := HK1.out; have := HK2.out; have := HK3.out; omega⟩, ⟨by (try simp only [hl4_2]); (try simp only [hl4_3]); (with_reducible repeat (first | apply Kd.S_alloc | apply Kd.S_drewN | apply Kd.S_drew)); exact HO_4.out⟩, ⟨by repeat (first | (with_reducible first | exact HB.out | apply below_alloc | apply pw_below_drewN | apply below_drew1) | exact HB.out)⟩⟩
                               ·
                                rw [if_neg c61] at H; exact absurd H (by simp)
                              ·
                               rw [if_neg c60] at H; exact absurd H (by simp)
                             ·
                              rw [if_neg c59] at H; exact absurd H (by simp)
                            ·
                             rw [if_neg c58] at H; exact absurd H (by simp)
                         ·
                          rw [if_neg c43] at H; exact absurd H (by simp)
                        ·
                         rw [if_neg c42] at H; exact absurd H (by simp)
                       ·
                        rw [if_neg c41] at H; exact absurd H (by simp)
                      ·
                       rw [if_neg c40] at H; exact absurd H (by simp)
                     ·
                      rw [if_neg c38] at H; have c38b0 : decide (x7_3 ≤ 20) = false := decide_eq_false c38; clear c38; have H' := Aside0.mk H; clear H; go_wp2; (try simp only [← hl4_2, ← hl4_3])
                      go_roundg k3
                      case measure => have := HK1.out; have := HK2.out; have := HK3.out; omega
                      case rel => exact ⟨(x4_3), (wrap64 (x6_2 + 1)), (by first | rfl | (simp; done) | (simp [*]; done)), H', ⟨by have := HK1.out; have := HK2.out; have := HK3.out; omega⟩, ⟨by (try simp only [hl4_2]); (try simp only [hl4_3]); (with_reducible repeat (first | apply Kd.S_alloc | apply Kd.S_drewN | apply Kd.S_drew)); exact HO_4.out⟩, ⟨by repeat (first | (with_reducible first | exact HB.out | apply below_alloc | apply pw_below_drewN | apply below_drew1) | exact HB.out)⟩⟩
                ·
                 rw [if_neg c21] at H; exact absurd H (by simp)
               ·
                rw [if_neg c19] at H; exact absurd H (by simp)
              ·
               rw [if_neg c18] at H; exact absurd H (by simp)
             ·
              rw [if_neg c17] at H; exact absurd H (by simp)
            ·
             rw [if_neg c16] at H; exact absurd H (by simp)
           ·
            rw [if_neg c15] at H; have c15b0 : decide (x6_2 ≤ 20) = false := decide_eq_false c15; clear c15; have H' := Aside0.mk H; clear H; go_wp2; (try simp only [← hl4_2])
            go_roundg k2
            case measure => have := HK1.out; have := HK2.out; omega
            case rel => exact ⟨(x4_2), (wrap64 (x5_1 - 1)), (by first | rfl | (simp; done) | (simp [*]; done)), H', ⟨by have := HK1.out; have := HK2.out; omega⟩, ⟨by (try simp only [hl4_2]); (with_reducible repeat (first | apply Kd.S_alloc | apply Kd.S_drewN | apply Kd.S_drew)); exact HO_4.out⟩, ⟨by repeat (first | (with_reducible first | exact HB.out | apply below_alloc | apply pw_below_drewN | apply below_drew1) | exact HB.out)⟩⟩
        ·
         rw [if_neg c9] at H; exact absurd H (by simp)
       ·
        rw [if_neg c8] at H; exact absurd H (by simp)
      ·
       rw [if_neg c7] at H; exact absurd H (by simp)
     ·
      rw [if_neg c6] at H; have c6b0 : decide (0 ≤ x5_1) = false := decide_eq_false c6; clear c6; obtain rfl := Option.some.inj H; go_wp2; go_ret
      exact ⟨_, by first | rfl | (simp [errW_none, errW_some] <;> rfl) | (simp [*, errW_none, errW_some] <;> rfl), by (with_reducible repeat (first | apply Kd.S_alloc | apply Kd.S_drewN | apply Kd.S_drew)); exact HO_4.out, by repeat (first | (with_reducible first | exact HB.out | apply below_alloc | apply pw_below_drewN | apply below_drew1) | exact HB.out)⟩
  ·
   rw [if_neg c3] at H; exact absurd H (by simp)
 ·
  rw [if_neg c2] at H; exact absurd H (by simp)

end Go.Proofs.YtiagfjbngpbejaaDoor.PFnExactSingBest
namespace Go.Proofs.YtiagfjbngpbejaaDoor.PFnExactSingBest
open Go.RowKit Go.Proofs.YtiagfjbngpbejaaDoorW.PrintWords Go.Proofs.YtiagfjbngpbejaaDoorW.PrintLast Go.Proofs.YtiagfjbngpbejaaDoorW.PrintMore
attribute [local go_sem] max2_int min2_int max_two min_two max_three min_three max_four min_four   -- for this text's walks alone
set_option linter.unusedVariables false
set_option linter.unusedSimpArgs false

mutual
def spec_SingBest.l0 : Nat → List (S29) → List Int → Int → Option (List Int × Bool)
 | 0, _, _, _ => none
 | k + 1, x0, x4, x5 => if x5 < (x0.length : Int) then (if 0 ≤ x5 then ((spec_HexAll.f k ((rd_T29 x0 x5).f0) ((rd_T29 x0 x5).f1)).bind fun t234 => (if (t234.length : Int) = 0 then (some ((([] : List Int)), false)) else (spec_SingBest.l0 k x0 x4 (wrap64 (x5 + 1))))) else (none)) else ((spec_l2Fewest.f k x0).bind fun t240 => (spec_SingBest.l1 k x0 x4 t240 0))
def spec_SingBest.l1 : Nat → List (S29) → List Int → List (List Int) → Int → Option (List Int × Bool)
 | 0, _, _, _, _ => none
 | k + 1, x0, x4, x6, x7 => if x7 < (x0.length : Int) then (spec_SingBest.l2 k x0 x4 x6 x7 (-1) (-1) 0) else (some (x4, true))
def spec_SingBest.l2 : Nat → List (S29) → List Int → List (List Int) → Int → Int → Int → Int → Option (List Int × Bool)
 | 0, _, _, _, _, _, _, _ => none
 | k + 1, x0, x4, x6, x7, x8, x9, x10 => if x10 ≤ 20 then (if 0 ≤ x7 then (if x7 < (x6.length : Int) then (if 0 ≤ x10 then (if x10 < ((rd_L4 x6 x7).length : Int) then (if (rd (rd_L4 x6 x7) x10) < 0 then (spec_SingBest.l2 k x0 x4 x6 x7 x8 x9 (wrap64 (x10 + 1))) else (if x7 > 0 then (if 0 ≤ (wrap64 (x7 - 1)) then (if (wrap64 (x7 - 1)) < (x4.length : Int) then (spec_SingBest.j3 k x0 x4 x6 x7 x8 x9 x10 (rd (rd_L4 x6 x7) x10) (x10 != (rd x4 (wrap64 (x7 - 1))))) else (none)) else (none)) else (spec_SingBest.j3 k x0 x4 x6 x7 x8 x9 x10 (rd (rd_L4 x6 x7) x10) false))) else (none)) else (none)) else (none)) else (none)) else (if x4.length < 17592186044416 then (spec_SingBest.l1 k x0 (x4 ++ [x8]) x6 (wrap64 (x7 + 1))) else (none))
def spec_SingBest.j3 : Nat → List (S29) → List Int → List (List Int) → Int → Int → Int → Int → Int → Bool → Option (List Int × Bool)
 | 0, _, _, _, _, _, _, _, _, _ => none
 | k + 1, x0, x4, x6, x7, x8, x9, x10, x11, x62 => if x62 = true then (if x8 < 0 then (spec_SingBest.l2 k x0 x4 x6 x7 x10 (wrap64 (x11 + 1)) (wrap64 (x10 + 1))) else (if (wrap64 (x11 + 1)) < x9 then (spec_SingBest.l2 k x0 x4 x6 x7 x10 (wrap64 (x11 + 1)) (wrap64 (x10 + 1))) else (spec_SingBest.l2 k x0 x4 x6 x7 x8 x9 (wrap64 (x10 + 1))))) else (if x8 < 0 then (spec_SingBest.l2 k x0 x4 x6 x7 x10 x11 (wrap64 (x10 + 1))) else (if x11 < x9 then (spec_SingBest.l2 k x0 x4 x6 x7 x10 x11 (wrap64 (x10 + 1))) else (spec_SingBest.l2 k x0 x4 x6 x7 x8 x9 (wrap64 (x10 + 1)))))
end
def spec_SingBest.f (k : Nat) (l0 : List (S29)) : Option (List Int × Bool) := (some (([] : List Int) : List Int)).bind fun y229 => ((spec_MelodyValid.f k l0).bind fun t232 => (if t232 = true then (spec_SingBest.l0 k l0 y229 0) else (some (y229, false))))
set_option maxHeartbeats 8000000 in
set_option maxRecDepth 100000 in
theorem spec_SingBest.calls (k : Nat) (A0 : Option Addr) (c0 : Nat) (l0 : List (S29)) (r1 : List Int) (r2 : Bool) (w : World) (hr0 : Kd.C k29 w A0 l0.length l0) (hc0 : l0.length ≤ c0) (h : spec_SingBest.f k l0 = some (r1, r2)) :
 Calls Tryd.prog 11 #[.slice A0 l0.length c0] w fun e w' => ∃ v0_ : Value, e = .returned (.tuple #[v0_, .bool r2]) ∧ Kd.R (Kd.int .i64) 3 w' w.heap.size (fun _ => True) v0_ r1 ∧ Below w.heap.size w w' := by
 have hu29 := Tryd.underlying29; have HR0 := Aside0.mk hr0; have HC0 := Aside0.mk hc0; clear hr0 hc0; have HB := Aside0.mk (Below.refl w.heap.size w); have H : ((some (([] : List Int) : List Int)).bind fun y229 => ((spec_MelodyValid.f k l0).bind fun t232 => (if t232 = true then (spec_SingBest.l0 k l0 y229 0) else (some (y229, false))))) = some (r1, r2) := h; clear h; obtain ⟨y229, hy229⟩ : ∃ y_ : List Int, y_ = (([] : List Int)) := ⟨_, rfl⟩
 replace H : ((spec_MelodyValid.f k l0).bind fun t232 => (if t232 = true then (spec_SingBest.l0 k l0 y229 0) else (some (y229, false)))) = some (r1, r2) := by first | (rw [hy229]; with_reducible exact H) | (have H2_ := (Option.bind_some _ _).symm.trans H; rw [hy229]; with_reducible exact H2_) | (have H2_ := (Option.bind_some _ _).symm.trans H; with_reducible exact H2_) | with_reducible exact H | (rw [hy229]; exact H) | exact H
 have Ny229 := Aside0.mk hy229; clear hy229; replace H := Option.bind_eq_some_iff.mp H; obtain ⟨t232, A20, H⟩ := H; replace H : (if t232 = true then (spec_SingBest.l0 k l0 y229 0) else (some (y229, false))) = some (r1, r2) := H; have A2 := Aside0.mk A20; clear A20; by_cases c3 : t232 = true
 ·
  subst c3; have H1 : (spec_SingBest.l0 k l0 y229 0) = some (r1, r2) := by rw [if_pos rfl] at H; exact H
  clear H; have H := H1; clear H1; have H' := Aside0.mk H; clear H; go_enter Tryd.func11, Tryd.ntmps11
  go_wp2_with (first | ((with_reducible refine gate_dst (N := 12) rfl ?_); refine Kd.R_lit (Kd.int .i64) _ 3 ?hg (N := 12) ?hd (xs := ([] : List Int)) (inner := []) (ok := fun _ => True) (okp := fun _ => True) ?hr ?hp (fun _ hk => hk) trivial (Below.refl _ _) (Nat.le_refl _) (by simp) ?_; (case hd => rfl); (case hg => rfl); (case hr => first | (go_simp; done) | (go_simp; rfl)); (case hp => exact (Reps.none _ _)); intro v230 w4 ho5 hb hg_ hnew_; clear hg_ hnew_; (first | rw [← Ny229.out] at ho5 | (simp only [Int.reduceToNat] at ho5; rw [← Ny229.out] at ho5)); have n0_ := Aside0.mk (Kd.R_lower ho5 (below_size (by repeat (first | (with_reducible first | exact HB.out | apply below_alloc | apply pw_below_drewN | apply below_drew1) | exact HB.out)))); have n1_ := Aside0.mk (below_step (by repeat (first | (with_reducible first | exact HB.out | apply below_alloc | apply pw_below_drewN | apply below_drew1) | exact HB.out)) hb); clear HB; have HO231 := n0_; have HB := n1_; clear n0_ n1_; clear hb ho5) | ((with_reducible refine gate_callee (f := 21) rfl ?_); refine goesL_ (some 14) rfl rfl Tryd.func21 (by kernel_rfl) rfl #[.slice A0 l0.length c0] rfl (by (try simp only [List.map_toArray, List.map_cons, List.map_nil]); first | done | rfl | (simp only [List.length_drop, List.length_take]; rfl)) ?_; (with_reducible refine (spec_MelodyValid.calls k _ _ l0 true _ ?side1 ?side2 A2.out).mono ?_); (case side1 => repeat (first | exact (Kd.C_below HR0.out HB.out) | (with_reducible refine Kd.C_alloc ?_ _) | (with_reducible refine Kd.C_drewN ?_ _) | (with_reducible refine Kd.C_drew ?_))); (case side2 => exact HC0.out); rintro e w6 ⟨rfl, hb⟩; refine ⟨_, rfl, ?_⟩; have n0_ := Aside0.mk (Kd.R_below (by (with_reducible repeat (first | apply Kd.R_alloc | apply Kd.R_drewN | apply Kd.R_drew)); exact HO231.out) hb); have n1_ := Aside0.mk (below_step (by repeat (first | (with_reducible first | exact HB.out | apply below_alloc | apply pw_below_drewN | apply below_drew1) | exact HB.out)) hb); clear HO231; clear HB; have HO231 := n0_; have HB := n1_; clear n0_ n1_; (try clear hb); (try clear hb2); (try clear hk); (try clear hi)))
  go_loopg [5] k (fun kq v5 w' => ∃ (x5_1 : Int), v5 = .int .i64 x5_1 ∧ Aside0 (spec_SingBest.l0 kq l0 y229 x5_1 = some (r1, r2)) ∧ Aside0 (kq ≤ k) ∧ Aside0 (Kd.R (Kd.int .i64) 3 w' w.heap.size (fun _ => True) v230 y229) ∧ Aside0 (Below w.heap.size w w'))
  case atStart => exact ⟨(0), (by first | rfl | (simp; done) | (simp [*]; done)), H', ⟨Nat.le_refl _⟩, ⟨by (with_reducible repeat (first | apply Kd.R_alloc | apply Kd.R_drewN | apply Kd.R_drew)); exact HO231.out⟩, ⟨by repeat (first | (with_reducible first | exact HB.out | apply below_alloc | apply pw_below_drewN | apply below_drew1) | exact HB.out)⟩⟩
  case round =>
   clear H'; try clear c1
   try clear c2
   try clear p2
   try clear c3
   obtain ⟨x5_1, rfl, HA, HK1, HO_4, HB⟩ := hrel; cases gk with
   | zero => exact absurd HA.out (by simp [spec_SingBest.l0])
   | succ k1 =>
    have H := HA.out; clear HA; simp only [spec_SingBest.l0] at H; by_cases c7 : x5_1 < (l0.length : Int)
    ·
     rw [if_pos c7] at H; have c7b0 : decide (x5_1 < (l0.length : Int)) = true := decide_eq_true c7; clear c7; by_cases c8 : 0 ≤ x5_1
     ·
      rw [if_pos c8] at H; have c8b0 : decide (0 ≤ x5_1) = true := decide_eq_true c8; clear c8; replace H := Option.bind_eq_some_iff.mp H; obtain ⟨t234, A90, H⟩ := H; replace H : (if (t234.length : Int) = 0 then (some ((([] : List Int)), false)) else (spec_SingBest.l0 k1 l0 y229 (wrap64 (x5_1 + 1)))) = some (r1, r2) := H; have A9 := Aside0.mk A90; clear A90; by_cases c10 : (t234.length : Int) = 0
      ·
       rw [if_pos c10] at H; have c10b0 : ((t234.length : Int) == 0) = true := beq_iff_eq.mpr c10; have c10b1 : ((t234.length : Int) != 0) = false := bne_eq_false_iff_eq.mpr c10; clear c10; obtain ⟨y237, hy237⟩ : ∃ y_ : List Int, y_ = (([] : List Int)) := ⟨_, rfl⟩
       replace H : (some (y237, false)) = some (r1, r2) := by first | (rw [hy237]; with_reducible exact H) | (have H2_ := (Option.bind_some _ _).symm.trans H; rw [hy237]; with_reducible exact H2_) | (have H2_ := (Option.bind_some _ _).symm.trans H; with_reducible exact H2_) | with_reducible exact H | (rw [hy237]; exact H) | exact H
       have Ny237 := Aside0.mk hy237; clear hy237; simp only [Option.some.injEq, Prod.mk.injEq] at H; obtain ⟨rfl, rfl⟩ := H; have p233 : 0 ≤ (x5_1 : Int) := of_decide_eq_true (by first | (with_reducible assumption) | assumption); have q233 : x5_1 < (l0.length : Int) := of_decide_eq_true (by first | (with_reducible assumption) | assumption); obtain ⟨ad233, e233, hx233_0, hx233_1⟩ := at_T29 HR0.out x5_1 p233 q233; cases e233; replace hx233_0 := (HB.out.cell (World.block_lt_of_cell? w _ hx233_0)).trans hx233_0; replace hx233_1 := (HB.out.cell (World.block_lt_of_cell? w _ hx233_1)).trans hx233_1; replace p233 := eq_true p233; replace q233 := eq_true q233; go_wp2_with (first | ((with_reducible refine gate_callee (f := 22) rfl ?_); refine goesL_ (some 27) rfl rfl Tryd.func22 (by kernel_rfl) rfl #[.agg #[.int .i64 ((rd_T29 l0 x5_1).f0), .bool ((rd_T29 l0 x5_1).f1)]] rfl (by (try simp only [List.map_toArray, List.map_cons, List.map_nil]); first | done | rfl | (simp only [List.length_drop, List.length_take]; rfl)) ?_; (with_reducible refine (spec_HexAll.calls k1 ((rd_T29 l0 x5_1).f0) ((rd_T29 l0 x5_1).f1) t234 _ A9.out).mono ?_); rintro e w11 ⟨v235, rfl, ho0, hb⟩; refine ⟨_, rfl, ?_⟩; have n0_ := Aside0.mk (Kd.R_elder' (by (with_reducible repeat (first | apply Kd.R_alloc | apply Kd.R_drewN | apply Kd.R_drew)); exact HO_4.out) (Kd.R_base ho0) hb); have n1_ := Aside0.mk (Kd.R_lower (Kd.R_new' ho0 (Kd.R_lt (by (with_reducible repeat (first | apply Kd.R_alloc | apply Kd.R_drewN | apply Kd.R_drew)); exact HO_4.out))) (below_size (by repeat (first | (with_reducible first | exact HB.out | apply below_alloc | apply pw_below_drewN | apply below_drew1) | exact HB.out)))); have n2_ := Aside0.mk (below_step (by repeat (first | (with_reducible first | exact HB.out | apply below_alloc | apply pw_below_drewN | apply below_drew1) | exact HB.out)) hb); clear HO_4; clear HB; have HO_4 := n0_; have HO236 := n1_; have HB := n2_; clear n0_ n1_ n2_; (try clear hb); (try clear hb2); (try clear hk); (try clear hi); (try clear ho0); obtain ⟨Ao12, co12, eo12⟩ := Kd.R_slice HO236.out; subst eo12) | ((with_reducible refine gate_dst (N := 30) rfl ?_); refine Kd.R_lit (Kd.int .i64) _ 3 ?hg (N := 30) ?hd (xs := ([] : List Int)) (inner := []) (ok := fun _ => True) (okp := fun _ => True) ?hr ?hp (fun _ hk => hk) trivial (Below.refl _ _) (Nat.le_refl _) (by simp) ?_; (case hd => rfl); (case hg => rfl); (case hr => first | (go_simp; done) | (go_simp; rfl)); (case hp => exact (Reps.none _ _)); intro v238 w13 ho14 hb hg_ hnew_; clear hg_ hnew_; (first | rw [← Ny237.out] at ho14 | (simp only [Int.reduceToNat] at ho14; rw [← Ny237.out] at ho14)); have n0_ := Aside0.mk (Kd.R_elder' (by (with_reducible repeat (first | apply Kd.R_alloc | apply Kd.R_drewN | apply Kd.R_drew)); exact HO_4.out) (Kd.R_base ho14) hb); have n1_ := Aside0.mk (Kd.R_elder' (by (with_reducible repeat (first | apply Kd.R_alloc | apply Kd.R_drewN | apply Kd.R_drew)); exact HO236.out) (Kd.R_base ho14) hb); have n2_ := Aside0.mk (Kd.R_lower (Kd.R_new' (Kd.R_new' ho14 (Kd.R_lt (by (with_reducible repeat (first | apply Kd.R_alloc | apply Kd.R_drewN | apply Kd.R_drew)); exact HO_4.out))) (Kd.R_lt (by (with_reducible repeat (first | apply Kd.R_alloc | apply Kd.R_drewN | apply Kd.R_drew)); exact HO236.out))) (below_size (by repeat (first | (with_reducible first | exact HB.out | apply below_alloc | apply pw_below_drewN | apply below_drew1) | exact HB.out)))); have n3_ := Aside0.mk (below_step (by repeat (first | (with_reducible first | exact HB.out | apply below_alloc | apply pw_below_drewN | apply below_drew1) | exact HB.out)) hb); clear HO_4; clear HO236; clear HB; have HO_4 := n0_; have HO236 := n1_; have HO239 := n2_; have HB := n3_; clear n0_ n1_ n2_ n3_; clear hb ho14))
       go_ret2
       exact ⟨_, by first | rfl | (simp [errW_none, errW_some] <;> rfl) | (simp [*, errW_none, errW_some] <;> rfl), by (with_reducible repeat (first | apply Kd.R_alloc | apply Kd.R_drewN | apply Kd.R_drew)); exact Kd.R_mono HO239.out (fun _ hk => trivial), by repeat (first | (with_reducible first | exact HB.out | apply below_alloc | apply pw_below_drewN | apply below_drew1) | exact HB.out)⟩
      ·
       rw [if_neg c10] at H; have c10b0 : ((t234.length : Int) == 0) = false := beq_eq_false_iff_ne.mpr c10; have c10b1 : ((t234.length : Int) != 0) = true := bne_iff_ne.mpr c10; have c10b2 : ¬ (t234 = []) := fun h_ => c10 (by rw [h_]; rfl)
       have H' := Aside0.mk H; clear H; have p233 : 0 ≤ (x5_1 : Int) := of_decide_eq_true (by first | (with_reducible assumption) | assumption); have q233 : x5_1 < (l0.length : Int) := of_decide_eq_true (by first | (with_reducible assumption) | assumption); obtain ⟨ad233, e233, hx233_0, hx233_1⟩ := at_T29 HR0.out x5_1 p233 q233; cases e233; replace hx233_0 := (HB.out.cell (World.block_lt_of_cell? w _ hx233_0)).trans hx233_0; replace hx233_1 := (HB.out.cell (World.block_lt_of_cell? w _ hx233_1)).trans hx233_1; replace p233 := eq_true p233; replace q233 := eq_true q233; go_wp2_with (first | ((with_reducible refine gate_callee (f := 22) rfl ?_); refine goesL_ (some 27) rfl rfl Tryd.func22 (by kernel_rfl) rfl #[.agg #[.int .i64 ((rd_T29 l0 x5_1).f0), .bool ((rd_T29 l0 x5_1).f1)]] rfl (by (try simp only [List.map_toArray, List.map_cons, List.map_nil]); first | done | rfl | (simp only [List.length_drop, List.length_take]; rfl)) ?_; (with_reducible refine (spec_HexAll.calls k1 ((rd_T29 l0 x5_1).f0) ((rd_T29 l0 x5_1).f1) t234 _ A9.out).mono ?_); rintro e w15 ⟨v235, rfl, ho0, hb⟩; refine ⟨_, rfl, ?_⟩; have n0_ := Aside0.mk (Kd.R_elder' (by (with_reducible repeat (first | apply Kd.R_alloc | apply Kd.R_drewN | apply Kd.R_drew)); exact HO_4.out) (Kd.R_base ho0) hb); have n1_ := Aside0.mk (Kd.R_lower (Kd.R_new' ho0 (Kd.R_lt (by (with_reducible repeat (first | apply Kd.R_alloc | apply Kd.R_drewN | apply Kd.R_drew)); exact HO_4.out))) (below_size (by repeat (first | (with_reducible first | exact HB.out | apply below_alloc | apply pw_below_drewN | apply below_drew1) | exact HB.out)))); have n2_ := Aside0.mk (below_step (by repeat (first | (with_reducible first | exact HB.out | apply below_alloc | apply pw_below_drewN | apply below_drew1) | exact HB.out)) hb); clear HO_4; clear HB; have HO_4 := n0_; have HO236 := n1_; have HB := n2_; clear n0_ n1_ n2_; (try clear hb); (try clear hb2); (try clear hk); (try clear hi); (try clear ho0); obtain ⟨Ao16, co16, eo16⟩ := Kd.R_slice HO236.out; subst eo16))
       go_roundg k1
       case measure => have := HK1.out; omega
       case rel => exact ⟨(wrap64 (x5_1 + 1)), (by first | rfl | (simp; done) | (simp [*]; done)), H', ⟨by have := HK1.out; omega⟩, ⟨by (with_reducible repeat (first | apply Kd.R_alloc | apply Kd.R_drewN | apply Kd.R_drew)); exact Kd.R_mono HO_4.out (fun _ hk => trivial)⟩, ⟨by repeat (first | (with_reducible first | exact HB.out | apply below_alloc | apply pw_below_drewN | apply below_drew1) | exact HB.out)⟩⟩
     ·
      rw [if_neg c8] at H; exact absurd H (by simp)
    ·
     rw [if_neg c7] at H; have c7b0 : decide (x5_1 < (l0.length : Int)) = false := decide_eq_false c7; clear c7; replace H := Option.bind_eq_some_iff.mp H; obtain ⟨t240, A170, H⟩ := H; replace H : (spec_SingBest.l1 k1 l0 y229 t240 0) = some (r1, r2) := H; have A17 := Aside0.mk A170; clear A170; have H' := Aside0.mk H; clear H; go_wp2_with (first | ((with_reducible refine gate_callee (f := 27) rfl ?_); refine goesL_ (some 32) rfl rfl Tryd.func27 (by kernel_rfl) rfl #[.slice A0 l0.length c0] rfl (by (try simp only [List.map_toArray, List.map_cons, List.map_nil]); first | done | rfl | (simp only [List.length_drop, List.length_take]; rfl)) ?_; (with_reducible refine (spec_l2Fewest.calls k1 _ _ l0 t240 _ ?side1 ?side2 A17.out).mono ?_); (case side1 => repeat (first | exact (Kd.C_below HR0.out HB.out) | (with_reducible refine Kd.C_alloc ?_ _) | (with_reducible refine Kd.C_drewN ?_ _) | (with_reducible refine Kd.C_drew ?_))); (case side2 => exact HC0.out); rintro e w18 ⟨v241, rfl, ho0, hb⟩; refine ⟨_, rfl, ?_⟩; have n0_ := Aside0.mk (Kd.R_below (by (with_reducible repeat (first | apply Kd.R_alloc | apply Kd.R_drewN | apply Kd.R_drew)); exact HO_4.out) hb); have n1_ := Aside0.mk (Kd.S_lower (Kd.S_new' ho0 (Kd.R_lt (by (with_reducible repeat (first | apply Kd.R_alloc | apply Kd.R_drewN | apply Kd.R_drew)); exact HO_4.out))) (below_size (by repeat (first | (with_reducible first | exact HB.out | apply below_alloc | apply pw_below_drewN | apply below_drew1) | exact HB.out)))); have n2_ := Aside0.mk (below_step (by repeat (first | (with_reducible first | exact HB.out | apply below_alloc | apply pw_below_drewN | apply below_drew1) | exact HB.out)) hb); clear HO_4; clear HB; have HO_4 := n0_; have HO242 := n1_; have HB := n2_; clear n0_ n1_ n2_; (try clear hb); (try clear hb2); (try clear hk); (try clear hi); (try clear ho0)))
     go_loopg [4, 7] k1 (fun kq v4 v7 w' => ∃ (x4_2 : List Int) (x7_2 : Int), v7 = .int .i64 x7_2 ∧ Aside0 (spec_SingBest.l1 kq l0 x4_2 t240 x7_2 = some (r1, r2)) ∧ Aside0 (kq ≤ k1) ∧ Aside0 (Kd.R (Kd.int .i64) 3 w' w.heap.size (fun _ => True) v4 x4_2) ∧ Aside0 (Kd.S (Kd.slice 3 (Kd.int .i64)) 26 w' w.heap.size (fun k_ => some k_ ≠ (v4 : Value).ownBlock) v241 t240) ∧ Aside0 (Below w.heap.size w w'))
     case atStart => exact ⟨(y229), (0), (by first | rfl | (simp; done) | (simp [*]; done)), H', ⟨Nat.le_refl _⟩, ⟨by (with_reducible repeat (first | apply Kd.R_alloc | apply Kd.R_drewN | apply Kd.R_drew)); exact HO_4.out⟩, ⟨by (with_reducible repeat (first | apply Kd.S_alloc | apply Kd.S_drewN | apply Kd.S_drew)); exact Kd.S_mono HO242.out (fun _ hk => hk.2)⟩, ⟨by repeat (first | (with_reducible first | exact HB.out | apply below_alloc | apply pw_below_drewN | apply below_drew1) | exact HB.out)⟩⟩
     case round =>
      clear H'; try clear c1
      try clear c2
      try clear p2
      try clear q2
      try clear hx2
      try clear c3
      try clear p6
      try clear c7
      try clear c7b0
      try clear c8
      try clear c8b0
      try clear c10
      try clear c10b0
      try clear c10b1
      try clear c10b2
      try clear c11
      try clear hx233_0
      try clear hx233_1
      try clear p2
      try clear p233
      try clear q233
      obtain ⟨x4_2, x7_2, rfl, HA, HK2, HO_4, HO_6, HB⟩ := hrel; cases gk with
      | zero => exact absurd HA.out (by simp [spec_SingBest.l1])
      | succ k2 =>
       have H := HA.out; clear HA; simp only [spec_SingBest.l1] at H; by_cases c19 : x7_2 < (l0.length : Int)
       ·
        rw [if_pos c19] at H; have c19b0 : decide (x7_2 < (l0.length : Int)) = true := decide_eq_true c19; clear c19; have H' := Aside0.mk H; clear H; go_wp2; go_loopg [8, 9, 10] k2 (fun kq v8 v9 v10 w' => ∃ (x8_3 : Int) (x9_3 : Int) (x10_3 : Int), v8 = .int .i64 x8_3 ∧ v9 = .int .i64 x9_3 ∧ v10 = .int .i64 x10_3 ∧ Aside0 (spec_SingBest.l2 kq l0 x4_2 t240 x7_2 x8_3 x9_3 x10_3 = some (r1, r2)) ∧ Aside0 (kq ≤ k2) ∧ Aside0 (Kd.R (Kd.int .i64) 3 w' w.heap.size (fun _ => True) u4 x4_2) ∧ Aside0 (Kd.S (Kd.slice 3 (Kd.int .i64)) 26 w' w.heap.size (fun k_ => some k_ ≠ (u4 : Value).ownBlock) v241 t240) ∧ Aside0 (Below w.heap.size w w'))
        case atStart => exact ⟨((-1)), ((-1)), (0), (by first | rfl | (simp; done) | (simp [*]; done)), (by first | rfl | (simp; done) | (simp [*]; done)), (by first | rfl | (simp; done) | (simp [*]; done)), H', ⟨Nat.le_refl _⟩, ⟨by (with_reducible repeat (first | apply Kd.R_alloc | apply Kd.R_drewN | apply Kd.R_drew)); exact HO_4.out⟩, ⟨by (with_reducible repeat (first | apply Kd.S_alloc | apply Kd.S_drewN | apply Kd.S_drew)); exact HO_6.out⟩, ⟨by repeat (first | (with_reducible first | exact HB.out | apply below_alloc | apply pw_below_drewN | apply below_drew1) | exact HB.out)⟩⟩
        case round =>
         clear H'; try clear c1
         try clear c2
         try clear p2
         try clear q2
         try clear hx2
         try clear c3
         try clear p6
         try clear c7
         try clear c7b0
         try clear c8
         try clear c8b0
         try clear c10
         try clear c10b0
         try clear c10b1
         try clear c10b2
         try clear c11
         try clear c19
         try clear c19b0
         try clear hx233_0
         try clear hx233_1
         try clear p2
         try clear p233
         try clear p6
         try clear q2
         try clear q233
         obtain ⟨x8_3, x9_3, x10_3, rfl, rfl, rfl, HA, HK3, HO_4, HO_6, HB⟩ := hrel; cases gk with
         | zero => exact absurd HA.out (by simp [spec_SingBest.l2])
         | succ k3 =>
          have H := HA.out; clear HA; simp only [spec_SingBest.l2] at H; by_cases c20 : x10_3 ≤ 20
          ·
           rw [if_pos c20] at H; have c20b0 : decide (x10_3 ≤ 20) = true := decide_eq_true c20; clear c20; by_cases c21 : 0 ≤ x7_2
           ·
            rw [if_pos c21] at H; have c21b0 : decide (0 ≤ x7_2) = true := decide_eq_true c21; clear c21; by_cases c22 : x7_2 < (t240.length : Int)
            ·
             rw [if_pos c22] at H; have c22b0 : decide (x7_2 < (t240.length : Int)) = true := decide_eq_true c22; clear c22; by_cases c23 : 0 ≤ x10_3
             ·
              rw [if_pos c23] at H; have c23b0 : decide (0 ≤ x10_3) = true := decide_eq_true c23; clear c23; by_cases c24 : x10_3 < ((rd_L4 t240 x7_2).length : Int)
              ·
               rw [if_pos c24] at H; have c24b0 : decide (x10_3 < ((rd_L4 t240 x7_2).length : Int)) = true := decide_eq_true c24; clear c24; by_cases c25 : (rd (rd_L4 t240 x7_2) x10_3) < 0
               ·
                rw [if_pos c25] at H; have c25b0 : decide ((rd (rd_L4 t240 x7_2) x10_3) < 0) = true := decide_eq_true c25; clear c25; have H' := Aside0.mk H; clear H; obtain ⟨Ao26, co26, eo26⟩ := Kd.S_slice HO_6.out; subst eo26; have p246 : 0 ≤ (x7_2 : Int) := of_decide_eq_true (by first | (with_reducible assumption) | assumption); have q246 : x7_2 < (t240.length : Int) := of_decide_eq_true (by first | (with_reducible assumption) | assumption); obtain ⟨ad246, A246_0, c246_0, e246, hx246_0, hl246_0, hi246_0⟩ := at_L4 (Kd.S_reads' HO_6.out).2.2 x7_2 p246 q246; cases e246; obtain ⟨ce246, hce246, hMe246, hcc246⟩ := Kd.S_get HO_6.out [] x7_2 p246 (by first | exact q246 | exact of_decide_eq_true (by first | (with_reducible assumption) | assumption) | (have e_ := (Kd.S_reads' HO_6.out).1; omega)); obtain ⟨ve246_0, rfl, ge246_0⟩ := hMe246; have hv246_0 := hcc246 0 _ rfl; rw [Nat.add_zero, show ((Kd.slice 3 (Kd.int .i64))).sz = 1 from rfl, Nat.mul_one] at hv246_0; replace hv246_0 := Option.some.inj (hv246_0.symm.trans hx246_0); rw [hv246_0] at ge246_0; have HL246_0 := Aside0.mk (show Kd.R (Kd.int .i64) 3 _ _ _ _ (rd_L4 t240 x7_2) from ge246_0); clear hv246_0 ge246_0; clear hcc246 hce246; have HR246_0 := Aside0.mk hi246_0; have HC246_0 := Aside0.mk hl246_0; clear hi246_0 hl246_0; replace p246 := eq_true p246; replace q246 := eq_true q246; have p247 : 0 ≤ (x10_3 : Int) := of_decide_eq_true (by first | (with_reducible assumption) | assumption); have q247 : x10_3 < ((rd_L4 t240 x7_2).length : Int) := of_decide_eq_true (by first | (with_reducible assumption) | assumption); obtain ⟨ad247, e247, hx247_0⟩ := Kd.at_int (by repeat (first | (with_reducible exact HR246_0.out) | (with_reducible refine Kd.C_alloc ?_ _) | (with_reducible refine Kd.C_drewN ?_ _) | (with_reducible refine Kd.C_drew ?_) | exact HR246_0.out)) x10_3 p247 q247; cases e247; replace p247 := eq_true p247; replace q247 := eq_true q247; go_wp2; go_roundg k3
                case measure => have := HK1.out; have := HK2.out; have := HK3.out; omega
                case rel => exact ⟨(x8_3), (x9_3), (wrap64 (x10_3 + 1)), (by first | rfl | (simp; done) | (simp [*]; done)), (by first | rfl | (simp; done) | (simp [*]; done)), (by first | rfl | (simp; done) | (simp [*]; done)), H', ⟨by have := HK1.out; have := HK2.out; have := HK3.out; omega⟩, ⟨by (with_reducible repeat (first | apply Kd.R_alloc | apply Kd.R_drewN | apply Kd.R_drew)); exact HO_4.out⟩, ⟨by (with_reducible repeat (first | apply Kd.S_alloc | apply Kd.S_drewN | apply Kd.S_drew)); exact HO_6.out⟩, ⟨by repeat (first | (with_reducible first | exact HB.out | apply below_alloc | apply pw_below_drewN | apply below_drew1) | exact HB.out)⟩⟩
               ·
                rw [if_neg c25] at H; have c25b0 : decide ((rd (rd_L4 t240 x7_2) x10_3) < 0) = false := decide_eq_false c25; clear c25; have HC27 := Aside0.mk H; clear H; obtain ⟨Ao28, co28, eo28⟩ := Kd.S_slice HO_6.out; subst eo28; have p246 : 0 ≤ (x7_2 : Int) := of_decide_eq_true (by first | (with_reducible assumption) | assumption); have q246 : x7_2 < (t240.length : Int) := of_decide_eq_true (by first | (with_reducible assumption) | assumption); obtain ⟨ad246, A246_0, c246_0, e246, hx246_0, hl246_0, hi246_0⟩ := at_L4 (Kd.S_reads' HO_6.out).2.2 x7_2 p246 q246; cases e246; obtain ⟨ce246, hce246, hMe246, hcc246⟩ := Kd.S_get HO_6.out [] x7_2 p246 (by first | exact q246 | exact of_decide_eq_true (by first | (with_reducible assumption) | assumption) | (have e_ := (Kd.S_reads' HO_6.out).1; omega)); obtain ⟨ve246_0, rfl, ge246_0⟩ := hMe246; have hv246_0 := hcc246 0 _ rfl; rw [Nat.add_zero, show ((Kd.slice 3 (Kd.int .i64))).sz = 1 from rfl, Nat.mul_one] at hv246_0; replace hv246_0 := Option.some.inj (hv246_0.symm.trans hx246_0); rw [hv246_0] at ge246_0; have HL246_0 := Aside0.mk (show Kd.R (Kd.int .i64) 3 _ _ _ _ (rd_L4 t240 x7_2) from ge246_0); clear hv246_0 ge246_0; clear hcc246 hce246; have HR246_0 := Aside0.mk hi246_0; have HC246_0 := Aside0.mk hl246_0; clear hi246_0 hl246_0; replace p246 := eq_true p246; replace q246 := eq_true q246; have p247 : 0 ≤ (x10_3 : Int) := of_decide_eq_true (by first | (with_reducible assumption) | assumption); have q247 : x10_3 < ((rd_L4 t240 x7_2).length : Int) := of_decide_eq_true (by first | (with_reducible assumption) | assumption); obtain ⟨ad247, e247, hx247_0⟩ := Kd.at_int (by repeat (first | (with_reducible exact HR246_0.out) | (with_reducible refine Kd.C_alloc ?_ _) | (with_reducible refine Kd.C_drewN ?_ _) | (with_reducible refine Kd.C_drew ?_) | exact HR246_0.out)) x10_3 p247 q247; cases e247; replace p247 := eq_true p247; replace q247 := eq_true q247; go_upto_region 20 with (fail)
                go_cut [62] (fun v62 wc => ∃ (kq : Nat) (x62_26 : Bool), v62 = .bool x62_26 ∧ Aside0 (spec_SingBest.j3 kq l0 x4_2 t240 x7_2 x8_3 x9_3 x10_3 (rd (rd_L4 t240 x7_2) x10_3) x62_26 = some (r1, r2)) ∧ Aside0 (kq ≤ k3) ∧ Aside0 (Kd.R (Kd.int .i64) 3 wc w.heap.size (fun _ => True) u4 x4_2) ∧ Aside0 (Kd.S (Kd.slice 3 (Kd.int .i64)) 26 wc w.heap.size (fun k_ => some k_ ≠ (u4 : Value).ownBlock) (.slice (some ad246) t240.length co28) t240) ∧ Aside0 (Kd.C (Kd.int .i64) wc (some ad247) (rd_L4 t240 x7_2).length (rd_L4 t240 x7_2)) ∧ Aside0 (Below w.heap.size w wc))
                case first =>
                 have H := HC27.out; clear HC27; by_cases c29 : x7_2 > 0
                 ·
                  rw [if_pos c29] at H; have c29b0 : decide (0 < x7_2) = true := decide_eq_true c29; clear c29; (first | rw [c29b0] | (simp only [i64_w, i32_w]; rw [c29b0]) | skip)
                  obtain ⟨ji30, hji30⟩ : ∃ j_ : Int, (wrap64 (x7_2 - 1)) = j_ := ⟨_, rfl⟩
                  replace H : (if 0 ≤ (ji30) then (if (ji30) < (x4_2.length : Int) then (spec_SingBest.j3 k3 l0 x4_2 t240 x7_2 x8_3 x9_3 x10_3 (rd (rd_L4 t240 x7_2) x10_3) (x10_3 != (rd x4_2 (ji30)))) else (none)) else (none)) = some (r1, r2) := by first | (rw [hji30] at H; exact H) | (simp only [hji30] at H ⊢; exact H)
                  have hji30w : (IntKind.i64.wrap (x7_2 - 1)) = ji30 := (i64_w _).trans hji30; by_cases c31 : 0 ≤ (ji30)
                  ·
                   rw [if_pos c31] at H; have c31b0 : decide (0 ≤ (ji30)) = true := decide_eq_true c31; clear c31; by_cases c32 : (ji30) < (x4_2.length : Int)
                   ·
                    rw [if_pos c32] at H; have c32b0 : decide ((ji30) < (x4_2.length : Int)) = true := decide_eq_true c32; clear c32; have H' := Aside0.mk H; clear H; obtain ⟨Ao33, co33, eo33⟩ := Kd.R_slice HO_4.out; subst eo33; have p248 : 0 ≤ ((ji30) : Int) := of_decide_eq_true (by first | (with_reducible assumption) | assumption); have q248 : (ji30) < (x4_2.length : Int) := of_decide_eq_true (by first | (with_reducible assumption) | assumption); obtain ⟨ad248, e248, hx248_0⟩ := Kd.at_int (Kd.R_reads' HO_4.out).2.2 (ji30) p248 q248; cases e248; replace p248 := eq_true p248; replace q248 := eq_true q248; go_wp2; go_meet
                    case rel => exact ⟨_, ((x10_3 != (rd x4_2 (ji30)))), (by first | rfl | (simp; done) | (simp only [← hji30] <;> (first | rfl | simp)) | (simp [*]; done)), H', ⟨by have := HK1.out; have := HK2.out; have := HK3.out; first | omega | exact Nat.le_refl _⟩, ⟨by (with_reducible repeat (first | apply Kd.R_alloc | apply Kd.R_drewN | apply Kd.R_drew)); exact HO_4.out⟩, ⟨by (with_reducible repeat (first | apply Kd.S_alloc | apply Kd.S_drewN | apply Kd.S_drew)); exact HO_6.out⟩, ⟨by repeat (first | (with_reducible exact HR246_0.out) | (with_reducible refine Kd.C_alloc ?_ _) | (with_reducible refine Kd.C_drewN ?_ _) | (with_reducible refine Kd.C_drew ?_) | exact HR246_0.out)⟩, ⟨by repeat (first | (with_reducible first | exact HB.out | apply below_alloc | apply pw_below_drewN | apply below_drew1) | exact HB.out)⟩⟩
                   ·
                    rw [if_neg c32] at H; exact absurd H (by simp)
                  ·
                   rw [if_neg c31] at H; exact absurd H (by simp)
                 ·
                  rw [if_neg c29] at H; have c29b0 : decide (0 < x7_2) = false := decide_eq_false c29; clear c29; (first | rw [c29b0] | (simp only [i64_w, i32_w]; rw [c29b0]) | skip)
                  have H' := Aside0.mk H; clear H; go_wp2; go_meet
                  case rel => exact ⟨_, (false), (by first | rfl | (simp; done) | (simp [*]; done)), H', ⟨by have := HK1.out; have := HK2.out; have := HK3.out; first | omega | exact Nat.le_refl _⟩, ⟨by (with_reducible repeat (first | apply Kd.R_alloc | apply Kd.R_drewN | apply Kd.R_drew)); exact HO_4.out⟩, ⟨by (with_reducible repeat (first | apply Kd.S_alloc | apply Kd.S_drewN | apply Kd.S_drew)); exact HO_6.out⟩, ⟨by repeat (first | (with_reducible exact HR246_0.out) | (with_reducible refine Kd.C_alloc ?_ _) | (with_reducible refine Kd.C_drewN ?_ _) | (with_reducible refine Kd.C_drew ?_) | exact HR246_0.out)⟩, ⟨by repeat (first | (with_reducible first | exact HB.out | apply below_alloc | apply pw_below_drewN | apply below_drew1) | exact HB.out)⟩⟩
                case rest =>
                 clear HC27; try clear c1
                 try clear c2
                 try clear p2
                 try clear q2
                 try clear hx2
                 try clear c3
                 try clear p6
                 try clear c7
                 try clear c7b0
                 try clear c8
                 try clear c8b0
                 try clear c10
                 try clear c10b0
                 try clear c10b1
                 try clear c10b2
                 try clear c11
                 try clear c19
                 try clear c19b0
                 try clear c20
                 try clear c20b0
                 try clear c21
                 try clear c21b0
                 try clear c22
                 try clear c22b0
                 try clear c23
                 try clear c23b0
                 try clear p23
                 try clear q23
                 try clear hx23
                 try clear c24
                 try clear c24b0
                 try clear p24
                 try clear q24
                 try clear hx24
                 try clear c25
                 try clear c25b0
                 try clear c27
                 try clear c29
                 try clear c29b0
                 try clear c31
                 try clear c31b0
                 try clear c32
                 try clear c32b0
                 try clear hx233_0
                 try clear hx233_1
                 try clear hx246_0
                 try clear hx247_0
                 try clear hx248_0
                 try clear p2
                 try clear p233
                 try clear p246
                 try clear p247
                 try clear p248
                 try clear p6
                 try clear q2
                 try clear q233
                 try clear q246
                 try clear q247
                 try clear q248
                 obtain ⟨kq, x62_26, rfl, HA, HJ26, HO_4, HO_6, HR246_0, HB⟩ := hcut; cases kq with
                 | zero => exact absurd HA.out (by simp [spec_SingBest.j3])
                 | succ kj26 =>
                  have H := HA.out; clear HA; simp only [spec_SingBest.j3] at H; by_cases c34 : x62_26 = true
                  ·
                   subst c34; have H1 : (if x8_3 < 0 then (spec_SingBest.l2 kj26 l0 x4_2 t240 x7_2 x10_3 (wrap64 ((rd (rd_L4 t240 x7_2) x10_3) + 1)) (wrap64 (x10_3 + 1))) else (if (wrap64 ((rd (rd_L4 t240 x7_2) x10_3) + 1)) < x9_3 then (spec_SingBest.l2 kj26 l0 x4_2 t240 x7_2 x10_3 (wrap64 ((rd (rd_L4 t240 x7_2) x10_3) + 1)) (wrap64 (x10_3 + 1))) else (spec_SingBest.l2 kj26 l0 x4_2 t240 x7_2 x8_3 x9_3 (wrap64 (x10_3 + 1))))) = some (r1, r2) := by rw [if_pos rfl] at H; exact H
                   clear H; have H := H1; clear H1; by_cases c35 : x8_3 < 0
                   ·
                    rw [if_pos c35] at H; have c35b0 : decide (x8_3 < 0) = true := decide_eq_true c35; clear c35; have H' := Aside0.mk H; clear H; go_wp2; go_roundg kj26
                    case measure => have := HK1.out; have := HK2.out; have := HK3.out; have := HJ26.out; omega
                    case rel => exact ⟨(x10_3), (wrap64 ((rd (rd_L4 t240 x7_2) x10_3) + 1)), (wrap64 (x10_3 + 1)), (by first | rfl | (simp; done) | (simp [*]; done)), (by first | rfl | (simp; done) | (simp [*]; done)), (by first | rfl | (simp; done) | (simp [*]; done)), H', ⟨by have := HK1.out; have := HK2.out; have := HK3.out; have := HJ26.out; omega⟩, ⟨by (with_reducible repeat (first | apply Kd.R_alloc | apply Kd.R_drewN | apply Kd.R_drew)); exact HO_4.out⟩, ⟨by (with_reducible repeat (first | apply Kd.S_alloc | apply Kd.S_drewN | apply Kd.S_drew)); exact HO_6.out⟩, ⟨by repeat (first | (with_reducible first | exact HB.out | apply below_alloc | apply pw_below_drewN | apply below_drew1) | exact HB.out)⟩⟩
                   ·
                    rw [if_neg c35] at H; have c35b0 : decide (x8_3 < 0) = false := decide_eq_false c35; clear c35; by_cases c36 : (wrap64 ((rd (rd_L4 t240 x7_2) x10_3) + 1)) < x9_3
                    ·
                     rw [if_pos c36] at H; have c36b0 : decide ((wrap64 ((rd (rd_L4 t240 x7_2) x10_3) + 1)) < x9_3) = true := decide_eq_true c36; clear c36; have H' := Aside0.mk H; clear H; go_wp2; go_roundg kj26
                     case measure => have := HK1.out; have := HK2.out; have := HK3.out; have := HJ26.out; omega
                     case rel => exact ⟨(x10_3), (wrap64 ((rd (rd_L4 t240 x7_2) x10_3) + 1)), (wrap64 (x10_3 + 1)), (by first | rfl | (simp; done) | (simp [*]; done)), (by first | rfl | (simp; done) | (simp [*]; done)), (by first | rfl | (simp; done) | (simp [*]; done)), H', ⟨by have := HK1.out; have := HK2.out; have := HK3.out; have := HJ26.out; omega⟩, ⟨by (with_reducible repeat (first | apply Kd.R_alloc | apply Kd.R_drewN | apply Kd.R_drew)); exact HO_4.out⟩, ⟨by (with_reducible repeat (first | apply Kd.S_alloc | apply Kd.S_drewN | apply Kd.S_drew)); exact HO_6.out⟩, ⟨by repeat (first | (with_reducible first | exact HB.out | apply below_alloc | apply pw_below_drewN | apply below_drew1) | exact HB.out)⟩⟩
                    ·
                     rw [if_neg c36] at H; have c36b0 : decide ((wrap64 ((rd (rd_L4 t240 x7_2) x10_3) + 1)) < x9_3) = false := decide_eq_false c36; clear c36; have H' := Aside0.mk H; clear H; go_wp2; go_roundg kj26
                     case measure => have := HK1.out; have := HK2.out; have := HK3.out; have := HJ26.out; omega
                     case rel => exact ⟨(x8_3), (x9_3), (wrap64 (x10_3 + 1)), (by first | rfl | (simp; done) | (simp [*]; done)), (by first | rfl | (simp; done) | (simp [*]; done)), (by first | rfl | (simp; done) | (simp [*]; done)), H', ⟨by have := HK1.out; have := HK2.out; have := HK3.out; have := HJ26.out; omega⟩, ⟨by (with_reducible repeat (first | apply Kd.R_alloc | apply Kd.R_drewN | apply Kd.R_drew)); exact HO_4.out⟩, ⟨by (with_reducible repeat (first | apply Kd.S_alloc | apply Kd.S_drewN | apply Kd.S_drew)); exact HO_6.out⟩, ⟨by repeat (first | (with_reducible first | exact HB.out | apply below_alloc | apply pw_below_drewN | apply below_drew1) | exact HB.out)⟩⟩
                  ·
                   replace c34 := Bool.eq_false_iff.mpr c34; subst c34; have H1 : (if x8_3 < 0 then (spec_SingBest.l2 kj26 l0 x4_2 t240 x7_2 x10_3 (rd (rd_L4 t240 x7_2) x10_3) (wrap64 (x10_3 + 1))) else (if (rd (rd_L4 t240 x7_2) x10_3) < x9_3 then (spec_SingBest.l2 kj26 l0 x4_2 t240 x7_2 x10_3 (rd (rd_L4 t240 x7_2) x10_3) (wrap64 (x10_3 + 1))) else (spec_SingBest.l2 kj26 l0 x4_2 t240 x7_2 x8_3 x9_3 (wrap64 (x10_3 + 1))))) = some (r1, r2) := by rw [if_neg (show ¬ (false = true) by decide)] at H; exact H
                   clear H; have H := H1; clear H1; by_cases c37 : x8_3 < 0
                   ·
                    rw [if_pos c37] at H; have c37b0 : decide (x8_3 < 0) = true := decide_eq_true c37; clear c37; have H' := Aside0.mk H; clear H; go_wp2; go_roundg kj26
                    case measure => have := HK1.out; have := HK2.out; have := HK3.out; have := HJ26.out; omega
                    case rel => exact ⟨(x10_3), ((rd (rd_L4 t240 x7_2) x10_3)), (wrap64 (x10_3 + 1)), (by first | rfl | (simp; done) | (simp [*]; done)), (by first | rfl | (simp; done) | (simp [*]; done)), (by first | rfl | (simp; done) | (simp [*]; done)), H', ⟨by have := HK1.out; have := HK2.out; have := HK3.out; have := HJ26.out; omega⟩, ⟨by (with_reducible repeat (first | apply Kd.R_alloc | apply Kd.R_drewN | apply Kd.R_drew)); exact HO_4.out⟩, ⟨by (with_reducible repeat (first | apply Kd.S_alloc | apply Kd.S_drewN | apply Kd.S_drew)); exact HO_6.out⟩, ⟨by repeat (first | (with_reducible first | exact HB.out | apply below_alloc | apply pw_below_drewN | apply below_drew1) | exact HB.out)⟩⟩
                   ·
                    rw [if_neg c37] at H; have c37b0 : decide (x8_3 < 0) = false := decide_eq_false c37; clear c37; by_cases c38 : (rd (rd_L4 t240 x7_2) x10_3) < x9_3
                    ·
                     rw [if_pos c38] at H; have c38b0 : decide ((rd (rd_L4 t240 x7_2) x10_3) < x9_3) = true := decide_eq_true c38; clear c38; have H' := Aside0.mk H; clear H; go_wp2; go_roundg kj26
                     case measure => have := HK1.out; have := HK2.out; have := HK3.out; have := HJ26.out; omega
                     case rel => exact ⟨(x10_3), ((rd (rd_L4 t240 x7_2) x10_3)), (wrap64 (x10_3 + 1)), (by first | rfl | (simp; done) | (simp [*]; done)), (by first | rfl | (simp; done) | (simp [*]; done)), (by first | rfl | (simp; done) | (simp [*]; done)), H', ⟨by have := HK1.out; have := HK2.out; have := HK3.out; have := HJ26.out; omega⟩, ⟨by (with_reducible repeat (first | apply Kd.R_alloc | apply Kd.R_drewN | apply Kd.R_drew)); exact HO_4.out⟩, ⟨by (with_reducible repeat (first | apply Kd.S_alloc | apply Kd.S_drewN | apply Kd.S_drew)); exact HO_6.out⟩, ⟨by repeat (first | (with_reducible first | exact HB.out | apply below_alloc | apply pw_below_drewN | apply below_drew1) | exact HB.out)⟩⟩
                    ·
                     rw [if_neg c38] at H; have c38b0 : decide ((rd (rd_L4 t240 x7_2) x10_3) < x9_3) = false := decide_eq_false c38; clear c38; have H' := Aside0.mk H; clear H; go_wp2; go_roundg kj26
                     case measure => have := HK1.out; have := HK2.out; have := HK3.out; have := HJ26.out; omega
                     case rel => exact ⟨(x8_3), (x9_3), (wrap64 (x10_3 + 1)), (by first | rfl | (simp; done) | (simp [*]; done)), (by first | rfl | (simp; done) | (simp [*]; done)), (by first | rfl | (simp; done) | (simp [*]; done)), H', ⟨by have := HK1.out; have := HK2.out; have := HK3.out; have := HJ26.out; omega⟩, ⟨by (with_reducible repeat (first | apply Kd.R_alloc | apply Kd.R_drewN | apply Kd.R_drew)); exact HO_4.out⟩, ⟨by (with_reducible repeat (first | apply Kd.S_alloc | apply Kd.S_drewN | apply Kd.S_drew)); exact HO_6.out⟩, ⟨by repeat (first | (with_reducible first | exact HB.out | apply below_alloc | apply pw_below_drewN | apply below_drew1) | exact HB.out)⟩⟩
              ·
               rw [if_neg c24] at H; exact absurd H (by simp)
             ·
              rw [if_neg c23] at H; exact absurd H (by simp)
            ·
             rw [if_neg c22] at H; exact absurd H (by simp)
           ·
            rw [if_neg c21] at H; exact absurd H (by simp)
          ·
           rw [if_neg c20] at H; have c20b0 : decide (x10_3 ≤ 20) = false := decide_eq_false c20; clear c20; by_cases c39 : x4_2.length < 17592186044416
           ·
            rw [if_pos c39] at H; have LMc39 := Aside0.mk c39; clear c39; obtain ⟨y243, hy243⟩ : ∃ y_ : List Int, y_ = (x4_2 ++ [x8_3]) := ⟨_, rfl⟩
            replace H : (spec_SingBest.l1 k3 l0 y243 t240 (wrap64 (x7_2 + 1))) = some (r1, r2) := by first | (rw [hy243]; with_reducible exact H) | (have H2_ := (Option.bind_some _ _).symm.trans H; rw [hy243]; with_reducible exact H2_) | (have H2_ := (Option.bind_some _ _).symm.trans H; with_reducible exact H2_) | with_reducible exact H | (rw [hy243]; exact H) | exact H
            have Ny243 := Aside0.mk hy243; clear hy243; have H' := Aside0.mk H; clear H; go_wp2_with (first | ((with_reducible refine gate_builtin (b := .append) (xs := #[.tmp 74, .tmp 76]) rfl ?_); at_builtin; refine Kd.R_append (Kd.int .i64) (w0 := w) w.heap.size rfl (.tmp 74) (.tmp 76) 26 3 (.int .i64 0) 8 rfl Tryd.underlying26 info3 rfl (by decide) (by omega) u4 x4_2 x8_3 [.int .i64 x8_3] (fun _ => True) (fun _ => False) rfl rfl ?aP (fun _ hk => hk.elim) ?aF ?aO ?aB ?aS ?aL ?_; (case aP => exact rfl); (case aB => exact (by repeat (first | (with_reducible first | exact HB.out | apply below_alloc | apply pw_below_drewN | apply below_drew1) | exact HB.out))); (case aF => exact (fun _ _ => trivial)); (case aO => exact (by (with_reducible repeat (first | apply Kd.R_alloc | apply Kd.R_drewN | apply Kd.R_drew)); exact HO_4.out)); (case aS => exact (below_size (by repeat (first | (with_reducible first | exact HB.out | apply below_alloc | apply pw_below_drewN | apply below_drew1) | exact HB.out)))); (case aL => have := LMc39.out; omega); intro v244 w40 ho hb hg hat; rw [← Ny243.out] at ho; have n0_ := Aside0.mk (Kd.S_after (ok := (fun _ => True)) (by (with_reducible repeat (first | apply Kd.S_alloc | apply Kd.S_drewN | apply Kd.S_drew)); exact Kd.S_mono HO_6.out (fun _ hk => ⟨trivial, hk⟩)) hg hat); have n1_ := Aside0.mk (hb); have n2_ := Aside0.mk (ho); clear HO_6; clear HB; clear HO_4; have HO_6 := n0_; have HB := n1_; have HO245 := n2_; clear n0_ n1_ n2_; clear ho hb hg hat))
            go_roundg k3
            case measure => have := HK1.out; have := HK2.out; have := HK3.out; omega
            case rel => exact ⟨(y243), (wrap64 (x7_2 + 1)), (by first | rfl | (simp; done) | (simp [*]; done)), H', ⟨by have := HK1.out; have := HK2.out; have := HK3.out; omega⟩, ⟨by (with_reducible repeat (first | apply Kd.R_alloc | apply Kd.R_drewN | apply Kd.R_drew)); exact HO245.out⟩, ⟨by (with_reducible repeat (first | apply Kd.S_alloc | apply Kd.S_drewN | apply Kd.S_drew)); exact Kd.S_mono HO_6.out (fun _ hk => hk.2)⟩, ⟨by repeat (first | (with_reducible first | exact HB.out | apply below_alloc | apply pw_below_drewN | apply below_drew1) | exact HB.out)⟩⟩
           ·
            rw [if_neg c39] at H; exact absurd H (by simp)
       ·
        rw [if_neg c19] at H; have c19b0 : decide (x7_2 < (l0.length : Int)) = false := decide_eq_false c19; clear c19; simp only [Option.some.injEq, Prod.mk.injEq] at H; obtain ⟨rfl, rfl⟩ := H; go_wp2; go_ret2
        exact ⟨_, by first | rfl | (simp [errW_none, errW_some] <;> rfl) | (simp [*, errW_none, errW_some] <;> rfl), by (with_reducible repeat (first | apply Kd.R_alloc | apply Kd.R_drewN | apply Kd.R_drew)); exact HO_4.out, by repeat (first | (with_reducible first | exact HB.out | apply below_alloc | apply pw_below_drewN | apply below_drew1) | exact HB.out)⟩
 ·
  replace c3 := Bool.eq_false_iff.mpr c3; subst c3; have H1 : (some (y229, false)) = some (r1, r2) := by rw [if_neg (show ¬ (false = true) by decide)] at H; exact H
  clear H; have H := H1; clear H1; simp only [Option.some.injEq, Prod.mk.injEq] at H; obtain ⟨rfl, rfl⟩ := H; go_enter Tryd.func11, Tryd.ntmps11
  go_wp2_with (first | ((with_reducible refine gate_dst (N := 12) rfl ?_); refine Kd.R_lit (Kd.int .i64) _ 3 ?hg (N := 12) ?hd (xs := ([] : List Int)) (inner := []) (ok := fun _ => True) (okp := fun _ => True) ?hr ?hp (fun _ hk => hk) trivial (Below.refl _ _) (Nat.le_refl _) (by simp) ?_; (case hd => rfl); (case hg => rfl); (case hr => first | (go_simp; done) | (go_simp; rfl)); (case hp => exact (Reps.none _ _)); intro v230 w41 ho42 hb hg_ hnew_; clear hg_ hnew_; (first | rw [← Ny229.out] at ho42 | (simp only [Int.reduceToNat] at ho42; rw [← Ny229.out] at ho42)); have n0_ := Aside0.mk (Kd.R_lower ho42 (below_size (by repeat (first | (with_reducible first | exact HB.out | apply below_alloc | apply pw_below_drewN | apply below_drew1) | exact HB.out)))); have n1_ := Aside0.mk (below_step (by repeat (first | (with_reducible first | exact HB.out | apply below_alloc | apply pw_below_drewN | apply below_drew1) | exact HB.out)) hb); clear HB; have HO231 := n0_; have HB := n1_; clear n0_ n1_; clear hb ho42) | ((with_reducible refine gate_callee (f := 21) rfl ?_); refine goesL_ (some 14) rfl rfl Tryd.func21 (by kernel_rfl) rfl #[.slice A0 l0.length c0] rfl (by (try simp only [List.map_toArray, List.map_cons, List.map_nil]); first | done | rfl | (simp only [List.length_drop, List.length_take]; rfl)) ?_; (with_reducible refine (spec_MelodyValid.calls k _ _ l0 false _ ?side1 ?side2 A2.out).mono ?_); (case side1 => repeat (first | exact (Kd.C_below HR0.out HB.out) | (with_reducible refine Kd.C_alloc ?_ _) | (with_reducible refine Kd.C_drewN ?_ _) | (with_reducible refine Kd.C_drew ?_))); (case side2 => exact HC0.out); rintro e w43 ⟨rfl, hb⟩; refine ⟨_, rfl, ?_⟩; have n0_ := Aside0.mk (Kd.R_below (by (with_reducible repeat (first | apply Kd.R_alloc | apply Kd.R_drewN | apply Kd.R_drew)); exact HO231.out) hb); have n1_ := Aside0.mk (below_step (by repeat (first | (with_reducible first | exact HB.out | apply below_alloc | apply pw_below_drewN | apply below_drew1) | exact HB.out)) hb); clear HO231; clear HB; have HO231 := n0_; have HB := n1_; clear n0_ n1_; (try clear hb); (try clear hb2); (try clear hk); (try clear hi)))
  go_ret2
  exact ⟨_, by first | rfl | (simp [errW_none, errW_some] <;> rfl) | (simp [*, errW_none, errW_some] <;> rfl), by (with_reducible repeat (first | apply Kd.R_alloc | apply Kd.R_drewN | apply Kd.R_drew)); exact HO231.out, by repeat (first | (with_reducible first | exact HB.out | apply below_alloc | apply pw_below_drewN | apply below_drew1) | exact HB.out)⟩

end Go.Proofs.YtiagfjbngpbejaaDoor.PFnExactSingBest
namespace Go.Proofs.YtiagfjbngpbejaaDoor.Pure
set_option linter.unusedVariables false
set_option linter.unusedSimpArgs false
open Go Go.RowKit Go.Proofs.YtiagfjbngpbejaaDoor.PFnExactSingBest Go.Proofs.YtiagfjbngpbejaaDoorW.PrintWords Go.Proofs.YtiagfjbngpbejaaDoorW.PrintLast Go.Proofs.YtiagfjbngpbejaaDoorW.PrintMore

def fold2 {σ : Type} (g : σ → Int → Int → σ) : σ → List Int → List Int → σ
 | s, x :: h, v :: c => fold2 g (g s x v) h c
 | s, _, _ => s
def Asc (R : Nat → Int) : Nat → List Int → List Int → Prop
 | a, [], [] => ∀ b, a ≤ b → b ≤ 20 → R b < 0
 | a, x :: h, v :: c => ∃ b : Nat, x = (b : Int) ∧ a ≤ b ∧ b ≤ 20 ∧ R b = v ∧ 0 ≤ v ∧ (∀ b', a ≤ b' → b' < b → R b' < 0) ∧ Asc R (b + 1) h c
 | _, _, _ => False
theorem steps_fold {σ ρ : Type} (L : Nat → σ → Int → Option ρ) (g : σ → Int → Int → σ) (R : Nat → Int) (r : ρ)
 (hskip : ∀ s (a : Nat), a ≤ 20 → R a < 0 → Ev (fun k => L k s ((a : Int) + 1)) r → Ev (fun k => L k s (a : Int)) r)
 (hdo : ∀ s (a : Nat), a ≤ 20 → 0 ≤ R a → Ev (fun k => L k (g s (a : Int) (R a)) ((a : Int) + 1)) r → Ev (fun k => L k s (a : Int)) r) :
 ∀ (n a : Nat) (s : σ) (h c : List Int), a + n = 21 → Asc R a h c → Ev (fun k => L k (fold2 g s h c) 21) r → Ev (fun k => L k s (a : Int)) r
 | 0, a, s, h, c, ha, hA, he => by
  obtain rfl : a = 21 := by omega
  match h, c, hA, he with
  | [], [], _, he => exact he
  | x :: h, v :: c, ⟨b, _, h1, h2, _⟩, _ => omega
 | n + 1, a, s, h, c, ha, hA, he => by
  have e : ((a + 1 : Nat) : Int) = (a : Int) + 1 := rfl
  match h, c, hA, he with
  | [], [], hA, he =>
   refine hskip s a (by omega) (hA a (Nat.le_refl _) (by omega)) ?_
   have := steps_fold L g R r hskip hdo n (a + 1) s [] [] (by omega) (fun b h1 h2 => hA b (by omega) h2) he
   rw [e] at this
   exact this
  | x :: h, v :: c, ⟨b, hx, h1, h2, hv, h0, hlo, hA⟩, he =>
   rcases Nat.lt_or_ge a b with hab | hab
   ·
    refine hskip s a (by omega) (hlo a (Nat.le_refl _) hab) ?_
    have := steps_fold L g R r hskip hdo n (a + 1) s (x :: h) (v :: c) (by omega) ⟨b, hx, by omega, h2, hv, h0, fun b' p q => hlo b' (by omega) q, hA⟩ he
    rw [e] at this
    exact this
   ·
    obtain rfl : a = b := by omega
    refine hdo s a h2 (by rw [hv]; exact h0) ?_
    rw [hv, ← hx]
    have := steps_fold L g R r hskip hdo n (a + 1) (g s x v) h c (by omega) hA he
    rw [e, ← hx] at this
    exact this
def spread : List Int → List Int → Int → Int
 | x :: h, v :: c, s => if s = x then v else spread h c s
 | _, _, _ => -1
theorem spread_no : ∀ (h c : List Int) (s : Int), (∀ y ∈ h, s ≠ y) → spread h c s = -1
 | [], [], _, _ => rfl
 | [], _ :: _, _, _ => rfl
 | _ :: _, [], _, _ => rfl
 | x :: h, v :: c, s, hn => by
  unfold spread
  rw [if_neg (hn x (by simp))]
  exact spread_no h c s (fun y hy => hn y (by simp [hy]))
theorem spread_at : ∀ (h c : List Int) (j : Nat), h.length = c.length → h.Pairwise (· < ·) → j < h.length → spread h c (h.getD j 0) = c.getD j 0
 | [], _, _, _, _, hj => by simp at hj
 | _ :: _, [], _, hl, _, _ => by simp at hl
 | x :: h, v :: c, 0, _, _, _ => by
  show (if x = x then v else spread h c x) = v
  rw [if_pos rfl]
 | x :: h, v :: c, j + 1, hl, hp, hj => by
  have hj2 : j < h.length := by simpa using hj
  have hm : h.getD j 0 ∈ h := by
   rw [List.getD_eq_getElem?_getD, List.getElem?_eq_getElem hj2]
   exact List.getElem_mem _
  have hlt := (List.pairwise_cons.1 hp).1 _ hm
  show (if h.getD j 0 = x then v else spread h c (h.getD j 0)) = c.getD j 0
  rw [if_neg (by omega)]
  exact spread_at h c j (by simpa using hl) (List.pairwise_cons.1 hp).2 hj2
theorem asc_spread : ∀ (h c : List Int) (a : Nat) (R : Nat → Int), h.length = c.length → h.Pairwise (· < ·) → (∀ y ∈ h, (a : Int) ≤ y ∧ y ≤ 20) → (∀ v ∈ c, 0 ≤ v) → (∀ b, a ≤ b → b ≤ 20 → R b = spread h c (b : Int)) → Asc R a h c
 | [], [], a, R, _, _, _, _, hR => fun b h1 h2 => by rw [hR b h1 h2]; show (-1 : Int) < 0; decide
 | [], _ :: _, _, _, hl, _, _, _, _ => by simp at hl
 | _ :: _, [], _, _, hl, _, _, _, _ => by simp at hl
 | x :: h, v :: c, a, R, hl, hp, hy, hv, hR => by
  obtain ⟨hx0, hx1⟩ := hy x (by simp)
  obtain ⟨b, hb⟩ : ∃ b : Nat, x = (b : Int) := ⟨x.toNat, by omega⟩
  have hlt := (List.pairwise_cons.1 hp).1
  refine ⟨b, hb, by omega, by omega, ?_, hv v (by simp), fun b' h1 h2 => ?_, ?_⟩
  ·
   rw [hR b (by omega) (by omega)]
   show (if (b : Int) = x then v else _) = v
   rw [if_pos hb.symm]
  ·
   rw [hR b' h1 (by omega), spread_no]
   ·
    decide
   ·
    intro y hym
    rcases List.mem_cons.1 hym with rfl | hym
    ·
     omega
    ·
     have := hlt y hym
     omega
  ·
   refine asc_spread h c (b + 1) R (by simpa using hl) (List.pairwise_cons.1 hp).2 (fun y hym => ⟨by have := hlt y hym; omega, (hy y (by simp [hym])).2⟩) (fun v' hv' => hv v' (by simp [hv'])) (fun b2 h1 h2 => ?_)
   rw [hR b2 (by omega) h2]
   show (if (b2 : Int) = x then v else spread h c (b2 : Int)) = _
   rw [if_neg (by omega)]
/-- The program's row out of the row behind it, as one fold. -/
theorem fold_stepRow (h h2 c2 : List Int) (i : Nat) (hi : i < h.length) (hl : c2.length = h2.length) : ∀ (n j : Nat), j + n = h2.length → fold2 (fun acc x v => updC v x (h.getD i 0) acc) ((stepRow h h2 c2 j).getD i 0) (h2.drop j) (c2.drop j) = (stepRow h h2 c2 h2.length).getD i 0
 | 0, j, hj => by
  obtain rfl : j = h2.length := by omega
  rw [List.drop_length]
  rfl
 | n + 1, j, hj => by
  rw [drop_cons h2 0 j (by omega), drop_cons c2 0 j (by omega)]
  show fold2 _ (updC (c2.getD j 0) (h2.getD j 0) (h.getD i 0) ((stepRow h h2 c2 j).getD i 0)) _ _ = _
  rw [← stepRow_succ h h2 c2 j i hi]
  exact fold_stepRow h h2 c2 i hi hl n (j + 1) (by omega)
def g2 (i : Nat) (y : Int) (p : Int × Int) (x v : Int) : Int × Int := if p.1 < 0 ∨ v + (if i = 0 then 0 else if y = x then 0 else 1) < p.2 then (x, v + (if i = 0 then 0 else if y = x then 0 else 1)) else p
def PRel (h : List Int) (q p : Int × Int) : Prop := (q.1 < 0 ∧ p.1 < 0) ∨ (0 ≤ q.1 ∧ p.1 = h.getD q.1.toNat 0 ∧ 0 ≤ p.1 ∧ p.2 = q.2)
theorem fold_pick (i : Nat) (y : Int) (h c : List Int) (f : Nat → Int) (hf : ∀ j, f j = c.getD j 0 + (if i = 0 then 0 else if y = h.getD j 0 then 0 else 1)) (hl : c.length = h.length) (h0 : ∀ j, j < h.length → 0 ≤ h.getD j 0) : ∀ (n j : Nat) (p : Int × Int), j + n = h.length → PRel h (pickB f j) p → PRel h (pickB f h.length) (fold2 (g2 i y) p (h.drop j) (c.drop j))
 | 0, j, p, hj, hp => by
  obtain rfl : j = h.length := by omega
  rw [List.drop_length]
  exact hp
 | n + 1, j, p, hj, hp => by
  rw [drop_cons h 0 j (by omega), drop_cons c 0 j (by omega)]
  refine fold_pick i y h c f hf hl h0 n (j + 1) _ (by omega) ?_
  unfold g2 pickB
  rw [← hf j]
  have hj0 := h0 j (by omega)
  rcases hp with ⟨h1, h2⟩ | ⟨h1, h2, h3, h4⟩
  ·
   rw [if_pos (.inl h1), if_pos (.inl h2)]
   exact .inr ⟨Int.natCast_nonneg j, by rw [Int.toNat_natCast], hj0, rfl⟩
  ·
   rw [h4]
   by_cases hc : f j < (pickB f j).2
   ·
    rw [if_pos (.inr hc), if_pos (.inr hc)]
    exact .inr ⟨Int.natCast_nonneg j, by rw [Int.toNat_natCast], hj0, rfl⟩
   ·
    rw [if_neg (by omega), if_neg (by omega)]
    exact .inr ⟨h1, h2, h3, h4⟩
def rowL (hs : List (List Int)) (i : Nat) : List Int := (List.range 21).map (fun s : Nat => spread (hs.getD i []) (finC (hs.drop i)) (s : Int))
def part (hs : List (List Int)) (i s : Nat) : List Int := (List.range s).map (fun s : Nat => spread (hs.getD i []) (finC (hs.drop i)) (s : Int)) ++ List.replicate (21 - s) 0
theorem part_len (hs : List (List Int)) (i s : Nat) (h : s ≤ 21) : (part hs i s).length = 21 := by
 unfold part
 rw [List.length_append, List.length_map, List.length_range, List.length_replicate]
 omega
theorem part_all (hs : List (List Int)) (i : Nat) : part hs i 21 = rowL hs i := by
 unfold part rowL
 simp
theorem part_set (hs : List (List Int)) (i s : Nat) (h : s ≤ 20) : (part hs i s).set s (spread (hs.getD i []) (finC (hs.drop i)) (s : Int)) = part hs i (s + 1) := by
 unfold part
 rw [List.set_append_right _ _ (by simp), List.length_map, List.length_range, Nat.sub_self, show 21 - s = (21 - (s + 1)) + 1 by omega, List.replicate_succ, List.set_cons_zero, List.range_succ, List.map_append, List.append_assoc]
 rfl
theorem set_get (P : List Int) (s : Nat) (v : Int) (h : s < P.length) : rd (P.set s v) (s : Int) = v := by
 unfold rd
 rw [Int.toNat_natCast, List.getD_eq_getElem?_getD, List.getElem?_set, if_pos rfl, if_pos h]
 rfl
theorem rowL_get (hs : List (List Int)) (i a : Nat) (h : a ≤ 20) : rd (rowL hs i) (a : Int) = spread (hs.getD i []) (finC (hs.drop i)) (a : Int) := by
 unfold rd rowL
 rw [Int.toNat_natCast, List.getD_eq_getElem?_getD, List.getElem?_map, List.getElem?_range (by omega)]
 rfl
theorem rowL_len (hs : List (List Int)) (i : Nat) : (rowL hs i).length = 21 := by simp [rowL]
theorem rdL_set (T : List (List Int)) (i : Nat) (X : List Int) (h : i < T.length) : rd_L4 (T.set i X) (i : Int) = X := by
 unfold rd_L4
 rw [Int.toNat_natCast, List.getD_eq_getElem?_getD, List.getElem?_set, if_pos rfl, if_pos h]
 rfl
theorem rdL_ne (T : List (List Int)) (i : Nat) (X : List Int) : rd_L4 (T.set i X) ((i : Int) + 1) = T.getD (i + 1) [] := by
 unfold rd_L4
 rw [show ((i : Int) + 1).toNat = i + 1 by omega, List.getD_eq_getElem?_getD, List.getElem?_set, if_neg (by omega), ← List.getD_eq_getElem?_getD]
theorem hexAll_lt (t : S29) : (hexAll t).Pairwise (· < ·) := List.Pairwise.filter _ (by decide)
theorem hexAll_in (t : S29) : ∀ y ∈ hexAll t, 0 ≤ y ∧ y ≤ 20 := by
 intro y hy
 have := (List.mem_filter.1 hy).1
 unfold hexSt at this
 simp only [List.mem_cons, List.not_mem_nil, or_false] at this
 omega
def hexP2 (t : S29) : Bool := !(toneOk t) || (List.range 21).all fun s => match spec_HexSyllable.f 20 (s : Int) t.f0 t.f1 with | some y => decide (0 ≤ y) == (hexAll t).contains (s : Int) | none => false
theorem hexP2_holds : hexBrute hexP2 = true := by kernel_rfl
theorem hexSyl_ev (t : S29) (ht : toneOk t = true) (s : Nat) (hs : s ≤ 20) : ∃ y : Int, Ev (fun k => spec_HexSyllable.f k (s : Int) t.f0 t.f1) y ∧ (0 ≤ y ↔ (s : Int) ∈ hexAll t) := by
 have h := hexBrute_ok hexP2_holds ht
 unfold hexP2 at h
 rw [ht] at h
 simp only [Bool.not_true, Bool.false_or] at h
 have h1 := List.all_eq_true.1 h s (List.mem_range.2 (by omega))
 split at h1
 ·
  rename_i y hy
  refine ⟨y, Ev.of (spec_HexSyllable.mono _ _ _) hy, ?_⟩
  have h2 := eq_of_beq h1
  rw [← decide_eq_true_iff (p := 0 ≤ y), h2, List.contains_iff_mem]
 ·
  cases h1
section
variable {m : List S29}
theorem mel_row (hall : ∀ t ∈ m, toneOk t = true) (hne : ∀ t ∈ m, hexAll t ≠ []) (i : Nat) (hi : i < m.length) :
 (hsOf m).getD i [] = hexAll (rd_T29 m (i : Int)) ∧ rd_T29 m (i : Int) ∈ m := by
 refine ⟨hsOf_at m i hi, ?_⟩
 unfold rd_T29
 rw [Int.toNat_natCast, List.getD_eq_getElem?_getD, List.getElem?_eq_getElem hi]
 exact List.getElem_mem _
theorem hs_ne (hne : ∀ t ∈ m, hexAll t ≠ []) : ∀ h ∈ hsOf m, h ≠ [] := by
 intro h hh
 obtain ⟨t, ht, rfl⟩ := List.mem_map.1 hh
 exact hne t ht
theorem row_facts (hne : ∀ t ∈ m, hexAll t ≠ []) (i : Nat) (hi : i < m.length) :
 (finC ((hsOf m).drop i)).length = ((hsOf m).getD i []).length ∧ ((hsOf m).getD i []).Pairwise (· < ·) ∧ (∀ y ∈ (hsOf m).getD i [], 0 ≤ y ∧ y ≤ 20) ∧ (∀ v ∈ finC ((hsOf m).drop i), 0 ≤ v ∧ v ≤ (m.length : Int)) := by
 have hl : (hsOf m).length = m.length := List.length_map ..
 obtain ⟨h1, h2⟩ := finC_at (hsOf m) (hs_ne hne) i (by omega)
 refine ⟨h1, by rw [hsOf_at m i hi]; exact hexAll_lt _, by rw [hsOf_at m i hi]; exact hexAll_in _, fun v hv => ?_⟩
 obtain ⟨j, hj, rfl⟩ := List.mem_iff_getElem.1 hv
 have := h2 j (by omega)
 rw [List.getD_eq_getElem?_getD, List.getElem?_eq_getElem hj, hl] at this
 exact this
theorem row_asc (hne : ∀ t ∈ m, hexAll t ≠ []) (i : Nat) (hi : i < m.length) : Asc (fun a => spread ((hsOf m).getD i []) (finC ((hsOf m).drop i)) (a : Int)) 0 ((hsOf m).getD i []) (finC ((hsOf m).drop i)) := by
 obtain ⟨h1, h2, h3, h4⟩ := row_facts hne i hi
 exact asc_spread _ _ 0 _ h1.symm h2 (fun y hy => h3 y hy) (fun v hv => (h4 v hv).1) (fun b _ _ => rfl)
theorem spread_bd : ∀ (h c : List Int) (s b : Int), -1 ≤ b → (∀ v ∈ c, 0 ≤ v ∧ v ≤ b) → -1 ≤ spread h c s ∧ spread h c s ≤ b
 | [], [], s, b, hb, _ => by unfold spread; omega
 | [], _ :: _, s, b, hb, _ => by unfold spread; omega
 | _ :: _, [], s, b, hb, _ => by unfold spread; omega
 | x :: h, v :: c, s, b, hb, hv => by
  unfold spread
  split
  ·
   have := hv v (by simp)
   omega
  ·
   exact spread_bd h c s b hb (fun v' hv' => hv v' (by simp [hv']))
end

end Go.Proofs.YtiagfjbngpbejaaDoor.Pure
namespace Go.Proofs.YtiagfjbngpbejaaDoor.Pure
set_option linter.unusedVariables false
set_option linter.unusedSimpArgs false
open Go Go.RowKit Go.Proofs.YtiagfjbngpbejaaDoor.PFnExactSingBest Go.Proofs.YtiagfjbngpbejaaDoorW.PrintWords Go.Proofs.YtiagfjbngpbejaaDoorW.PrintLast Go.Proofs.YtiagfjbngpbejaaDoorW.PrintMore

section
variable {m : List S29}
theorem spread_row (hne : ∀ t ∈ m, hexAll t ≠ []) (i : Nat) (hi : i < m.length) (a : Nat) : spread ((hsOf m).getD i []) (finC ((hsOf m).drop i)) (a : Int) ≤ m.length := by
 obtain ⟨_, _, _, h4⟩ := row_facts hne i hi
 exact (spread_bd _ _ _ _ (by omega) h4).2
theorem l2F_next (hne : ∀ t ∈ m, hexAll t ≠ []) (hm : m.length ≤ 24) (i s : Nat) (T : List (List Int)) (P : List Int) (r : List (List Int)) (hT : T.length = m.length) (hi : i + 1 < m.length) (hs : s ≤ 20) (hP : P.length = 21) (hrow : T.getD (i + 1) [] = rowL (hsOf m) (i + 1)) (idx : Nat) (hidx : idx < ((hsOf m).getD i []).length) (hsx : ((hsOf m).getD i []).getD idx 0 = (s : Int))
 (hend : Ev (fun k => spec_l2Fewest.l1 k m m.length (T.set i (P.set s (spread ((hsOf m).getD i []) (finC ((hsOf m).drop i)) (s : Int)))) i ((s : Int) + 1)) r) :
 Ev (fun k => spec_l2Fewest.l2 k m m.length (T.set i (P.set s (-1))) i s 0) r := by
 have hTi : i < T.length := by omega
 have hsP : ∀ v, s < (P.set s v).length := fun v => by rw [List.length_set]; omega
 have hl : (hsOf m).length = m.length := List.length_map ..
 obtain ⟨f1, f2, f3, f4⟩ := row_facts hne i (by omega)
 obtain ⟨e1, _, _, _⟩ := row_facts hne (i + 1) hi
 refine steps_fold (fun k (acc : Int) a => spec_l2Fewest.l2 k m m.length (T.set i (P.set s acc)) i s a) (fun acc x v => updC v x (s : Int) acc) (fun a => spread ((hsOf m).getD (i + 1) []) (finC ((hsOf m).drop (i + 1))) (a : Int)) r ?_ ?_ 21 0 (-1) ((hsOf m).getD (i + 1) []) (finC ((hsOf m).drop (i + 1))) rfl (row_asc hne (i + 1) hi) ?_
 ·
  intro acc a ha hR h
  have hR : spread ((hsOf m).getD (i + 1) []) (finC ((hsOf m).drop (i + 1))) (a : Int) < 0 := hR
  refine Ev.succ ?_
  simp only [spec_l2Fewest.l2]
  rw [w64 (x := (i : Int) + 1) (by omega) (by omega), w64 (x := (a : Int) + 1) (by omega) (by omega), rdL_ne, hrow]
  refine Ev.pos (by omega) (Ev.pos (by omega) (Ev.pos (by rw [List.length_set]; omega) (Ev.pos (by omega) (Ev.pos (by rw [rowL_len]; omega) (Ev.pos (by rw [rowL_get _ _ _ ha]; exact hR) h)))))
 ·
  intro acc a ha hR h
  have hR : 0 ≤ spread ((hsOf m).getD (i + 1) []) (finC ((hsOf m).drop (i + 1))) (a : Int) := hR
  have hB := spread_row hne (i + 1) hi a
  obtain ⟨v, hv⟩ : ∃ v, v = spread ((hsOf m).getD (i + 1) []) (finC ((hsOf m).drop (i + 1))) (a : Int) := ⟨_, rfl⟩
  have h : Ev (fun k => spec_l2Fewest.l2 k m m.length (T.set i (P.set s (updC v (a : Int) (s : Int) acc))) i s ((a : Int) + 1)) r := by rw [hv]; exact h
  rw [← hv] at hR hB
  refine Ev.succ ?_
  simp only [spec_l2Fewest.l2]
  rw [w64 (x := (i : Int) + 1) (by omega) (by omega), w64 (x := (a : Int) + 1) (by omega) (by omega), rdL_ne, hrow, rowL_get _ _ _ ha, ← hv, w64 (x := v + 1) (by omega) (by omega), rdL_set T i _ hTi, set_get P s acc (by omega), Int.toNat_natCast, Int.toNat_natCast, List.set_set, List.set_set, List.set_set, List.set_set]
  refine Ev.pos (by omega) (Ev.pos (by omega) (Ev.pos (by rw [List.length_set]; omega) (Ev.pos (by omega) (Ev.pos (by rw [rowL_len]; omega) (Ev.neg (by omega) ?_)))))
  by_cases hsa : (a : Int) = (s : Int)
  ·
   have hu : updC v (a : Int) (s : Int) acc = if acc < 0 ∨ v < acc then v else acc := by
    have e2 : (if (s : Int) = (a : Int) then (0 : Int) else 1) = 0 := if_pos hsa.symm
    unfold updC
    rw [e2, Int.add_zero]
   rw [hu] at h
   refine Ev.pos hsa (Ev.pos (by omega) (Ev.pos (by rw [List.length_set]; omega) (Ev.pos (by omega) (Ev.pos (by have := hsP acc; omega) ?_))))
   by_cases h1 : acc < 0
   ·
    rw [if_pos (.inl h1)] at h
    exact Ev.pos h1 h
   ·
    refine Ev.neg h1 ?_
    by_cases h2 : v < acc
    ·
     rw [if_pos (.inr h2)] at h
     exact Ev.pos h2 h
    ·
     rw [if_neg (by omega)] at h
     exact Ev.neg h2 h
  ·
   have hu : updC v (a : Int) (s : Int) acc = if acc < 0 ∨ v + 1 < acc then v + 1 else acc := by
    have e2 : (if (s : Int) = (a : Int) then (0 : Int) else 1) = 1 := if_neg (fun e => hsa e.symm)
    unfold updC
    rw [e2]
   rw [hu] at h
   refine Ev.neg hsa (Ev.pos (by omega) (Ev.pos (by rw [List.length_set]; omega) (Ev.pos (by omega) (Ev.pos (by have := hsP acc; omega) ?_))))
   by_cases h1 : acc < 0
   ·
    rw [if_pos (.inl h1)] at h
    exact Ev.pos h1 h
   ·
    refine Ev.neg h1 ?_
    by_cases h2 : v + 1 < acc
    ·
     rw [if_pos (.inr h2)] at h
     exact Ev.pos h2 h
    ·
     rw [if_neg (by omega)] at h
     exact Ev.neg h2 h
 ·
  have hfold := fold_stepRow ((hsOf m).getD i []) ((hsOf m).getD (i + 1) []) (finC ((hsOf m).drop (i + 1))) idx hidx e1 ((hsOf m).getD (i + 1) []).length 0 (Nat.zero_add _)
  rw [stepRow_zero _ _ _ idx hidx, hsx, List.drop_zero, List.drop_zero, ← finC_step (hsOf m) i (by omega)] at hfold
  have hsp := spread_at ((hsOf m).getD i []) (finC ((hsOf m).drop i)) idx f1.symm f2 hidx
  rw [hsx] at hsp
  rw [hfold, ← hsp]
  refine Ev.succ ?_
  simp only [spec_l2Fewest.l2]
  rw [w64 (x := (s : Int) + 1) (by omega) (by omega)]
  exact Ev.neg (by omega) hend
theorem l2F_row (hall : ∀ t ∈ m, toneOk t = true) (hne : ∀ t ∈ m, hexAll t ≠ []) (hm : m.length ≤ 24) (i : Nat) (T : List (List Int)) (r : List (List Int)) (hT : T.length = m.length) (hi : i < m.length) (hrow : ∀ k, i < k → k < m.length → T.getD k [] = rowL (hsOf m) k)
 (hend : Ev (fun k => spec_l2Fewest.l0 k m m.length (T.set i (rowL (hsOf m) i)) ((i : Int) - 1)) r) : ∀ (q s : Nat), s + q = 21 → Ev (fun k => spec_l2Fewest.l1 k m m.length (T.set i (part (hsOf m) i s)) i s) r
 | 0, s, hs => by
  obtain rfl : s = 21 := by omega
  rw [part_all]
  refine Ev.succ ?_
  simp only [spec_l2Fewest.l1]
  rw [w64 (x := (i : Int) - 1) (by omega) (by omega)]
  exact Ev.neg (by omega) hend
 | q + 1, s, hs => by
  have ih := l2F_row hall hne hm i T r hT hi hrow hend q (s + 1) (by omega)
  have hs20 : s ≤ 20 := by omega
  have hTi : i < T.length := by omega
  have hpl := part_len (hsOf m) i s (by omega)
  have ih : Ev (fun k => spec_l2Fewest.l1 k m m.length (T.set i (part (hsOf m) i (s + 1))) i ((s : Int) + 1)) r := ih
  rw [← part_set (hsOf m) i s hs20] at ih
  obtain ⟨g1, g2⟩ := mel_row hall hne i hi
  obtain ⟨y, hy, hyi⟩ := hexSyl_ev (rd_T29 m (i : Int)) (hall _ g2) s hs20
  obtain ⟨f1, f2, f3, f4⟩ := row_facts hne i hi
  refine Ev.succ ?_
  simp only [spec_l2Fewest.l1]
  rw [rdL_set T i _ hTi, Int.toNat_natCast, Int.toNat_natCast, List.set_set, w64 (x := (s : Int) + 1) (by omega) (by omega), w64 (x := (m.length : Int) - 1) (by omega) (by omega)]
  refine Ev.pos (by omega) (Ev.pos (by omega) (Ev.pos (by rw [List.length_set]; omega) (Ev.pos (by omega) (Ev.pos (by omega) (Ev.conb rfl (Ev.pos (by omega) (Ev.bind hy ?_)))))))
  by_cases hy0 : y < 0
  ·
   refine Ev.pos hy0 ?_
   rw [spread_no] at ih
   ·
    exact ih
   ·
    intro x hx e
    rw [g1] at hx
    have := hyi.2 (by rw [e]; exact hx)
    omega
  refine Ev.neg hy0 ?_
  have hmem : (s : Int) ∈ (hsOf m).getD i [] := by rw [g1]; exact hyi.1 (by omega)
  obtain ⟨idx, hidx, hsx⟩ := List.mem_iff_getElem.1 hmem
  have hsx : ((hsOf m).getD i []).getD idx 0 = (s : Int) := by rw [List.getD_eq_getElem?_getD, List.getElem?_eq_getElem hidx, hsx]; rfl
  have hsp := spread_at ((hsOf m).getD i []) (finC ((hsOf m).drop i)) idx f1.symm f2 hidx
  rw [hsx] at hsp
  by_cases hl : (i : Int) = (m.length : Int) - 1
  ·
   refine Ev.pos hl ?_
   rw [rdL_set T i _ hTi, List.set_set, List.set_set]
   refine Ev.pos (by rw [List.length_set]; omega) ?_
   have hz : spread ((hsOf m).getD i []) (finC ((hsOf m).drop i)) (s : Int) = 0 := by
    rw [hsp, drop_cons (hsOf m) [] i (by show i < (m.map hexAll).length; rw [List.length_map]; exact hi), List.drop_eq_nil_of_le (by show (m.map hexAll).length ≤ i + 1; rw [List.length_map]; omega)]
    unfold finC
    rw [List.getD_eq_getElem?_getD, List.getElem?_replicate, if_pos hidx]
    rfl
   rw [hz] at ih
   exact ih
  ·
   refine Ev.neg hl ?_
   exact l2F_next hne hm i s T (part (hsOf m) i s) r hT (by omega) hs20 hpl (hrow (i + 1) (by omega) (by omega)) idx hidx hsx ih
theorem l2F_all (hall : ∀ t ∈ m, toneOk t = true) (hne : ∀ t ∈ m, hexAll t ≠ []) (hm : m.length ≤ 24) : ∀ (i : Nat) (T : List (List Int)), i ≤ m.length → T.length = m.length → (∀ k, i ≤ k → k < m.length → T.getD k [] = rowL (hsOf m) k) → Ev (fun k => spec_l2Fewest.l0 k m m.length T ((i : Int) - 1)) ((List.range m.length).map (rowL (hsOf m)))
 | 0, T, _, hT, hrow => by
  refine Ev.succ ?_
  simp only [spec_l2Fewest.l0]
  refine Ev.neg (by omega) (Ev.eqr (Ev.now _) ?_)
  refine List.ext_getElem? (fun k => ?_)
  rcases Nat.lt_or_ge k m.length with hk | hk
  ·
   have := hrow k (Nat.zero_le _) hk
   rw [List.getD_eq_getElem?_getD, List.getElem?_eq_getElem (by omega)] at this
   rw [List.getElem?_eq_getElem (by omega), List.getElem?_map, List.getElem?_range hk]
   exact congrArg some this
  ·
   rw [List.getElem?_eq_none (by omega), List.getElem?_eq_none (by rw [List.length_map, List.length_range]; exact hk)]
 | i + 1, T, hi, hT, hrow => by
  rw [show ((i + 1 : Nat) : Int) - 1 = (i : Int) by omega]
  refine Ev.succ ?_
  simp only [spec_l2Fewest.l0]
  rw [Int.toNat_natCast]
  refine Ev.pos (by omega) (Ev.pos (by decide) (Ev.pos (by omega) (Ev.pos (by omega) ?_)))
  refine l2F_row hall hne hm i T _ hT (by omega) (fun k h1 h2 => hrow k (by omega) h2) ?_ 21 0 rfl
  refine l2F_all hall hne hm i (T.set i (rowL (hsOf m) i)) (by omega) (by rw [List.length_set]; exact hT) (fun k h1 h2 => ?_)
  rw [List.getD_eq_getElem?_getD, List.getElem?_set]
  by_cases e : i = k
  ·
   subst e
   rw [if_pos rfl, if_pos (by omega)]
   rfl
  ·
   rw [if_neg e, ← List.getD_eq_getElem?_getD]
   exact hrow k (by omega) h2
theorem spec_l2Fewest_ev (hall : ∀ t ∈ m, toneOk t = true) (hne : ∀ t ∈ m, hexAll t ≠ []) (hm : m.length ≤ 24) : Ev (fun k => spec_l2Fewest.f k m) ((List.range m.length).map (rowL (hsOf m))) := by
 unfold spec_l2Fewest.f
 rw [Int.toNat_natCast, w64 (x := (m.length : Int) - 1) (by omega) (by omega)]
 exact Ev.pos (by omega) (Ev.pos (by omega) (l2F_all hall hne hm m.length (List.replicate m.length []) (Nat.le_refl _) (by simp) (fun k h1 h2 => by omega)))
end

end Go.Proofs.YtiagfjbngpbejaaDoor.Pure
namespace Go.Proofs.YtiagfjbngpbejaaDoor.Pure
set_option linter.unusedVariables false
set_option linter.unusedSimpArgs false
open Go Go.RowKit Go.Proofs.YtiagfjbngpbejaaDoor.PFnExactSingBest Go.Proofs.YtiagfjbngpbejaaDoorW.PrintWords Go.Proofs.YtiagfjbngpbejaaDoorW.PrintLast Go.Proofs.YtiagfjbngpbejaaDoorW.PrintMore

section
variable {m : List S29}
theorem rdL_rows (hs : List (List Int)) (n i : Nat) (hi : i < n) : rd_L4 ((List.range n).map (rowL hs)) (i : Int) = rowL hs i := by
 unfold rd_L4
 rw [Int.toNat_natCast, List.getD_eq_getElem?_getD, List.getElem?_map, List.getElem?_range hi]
 rfl
theorem last_get (hs : List (List Int)) (i : Nat) (hi : 0 < i) : rd (singB hs i) ((i : Int) - 1) = lastOf (singB hs i) := by
 obtain ⟨j, rfl⟩ : ∃ j, i = j + 1 := ⟨i - 1, by omega⟩
 unfold rd
 rw [show (((j + 1 : Nat) : Int) - 1).toNat = j by omega]
 rw [singB, lastOf_snoc, List.getD_eq_getElem?_getD, List.getElem?_append_right (by rw [singB_len]; exact Nat.le_refl _), singB_len, Nat.sub_self]
 rfl
theorem sB_row (hne : ∀ t ∈ m, hexAll t ≠ []) (hm : m.length ≤ 24) (i : Nat) (hi : i < m.length) (r : List Int × Bool)
 (hend : Ev (fun k => spec_SingBest.l1 k m (singB (hsOf m) (i + 1)) ((List.range m.length).map (rowL (hsOf m))) ((i : Int) + 1)) r) :
 Ev (fun k => spec_SingBest.l2 k m (singB (hsOf m) i) ((List.range m.length).map (rowL (hsOf m))) i (-1) (-1) 0) r := by
 obtain ⟨f1, f2, f3, f4⟩ := row_facts hne i hi
 obtain ⟨y, hy0⟩ : ∃ y, y = lastOf (singB (hsOf m) i) := ⟨_, rfl⟩
 have HY := Aside0.mk hy0
 clear hy0
 have hTl : ((List.range m.length).map (rowL (hsOf m))).length = m.length := by rw [List.length_map, List.length_range]
 refine steps_fold (fun k (p : Int × Int) a => spec_SingBest.l2 k m (singB (hsOf m) i) ((List.range m.length).map (rowL (hsOf m))) i p.1 p.2 a) (g2 i y) (fun a => spread ((hsOf m).getD i []) (finC ((hsOf m).drop i)) (a : Int)) r ?_ ?_ 21 0 (-1, -1) ((hsOf m).getD i []) (finC ((hsOf m).drop i)) rfl (row_asc hne i hi) ?_
 ·
  rintro ⟨b, l⟩ a ha hR h
  have hR : spread ((hsOf m).getD i []) (finC ((hsOf m).drop i)) (a : Int) < 0 := hR
  refine Ev.succ ?_
  simp only [spec_SingBest.l2]
  rw [w64 (x := (a : Int) + 1) (by omega) (by omega), rdL_rows _ _ _ hi]
  exact Ev.pos (by omega) (Ev.pos (by omega) (Ev.pos (by rw [hTl]; omega) (Ev.pos (by omega) (Ev.pos (by rw [rowL_len]; omega) (Ev.pos (by rw [rowL_get _ _ _ ha]; exact hR) h)))))
 ·
  rintro ⟨b, l⟩ a ha hR h
  have hR : 0 ≤ spread ((hsOf m).getD i []) (finC ((hsOf m).drop i)) (a : Int) := hR
  have hB := spread_row hne i hi a
  obtain ⟨v, hv⟩ : ∃ v, v = spread ((hsOf m).getD i []) (finC ((hsOf m).drop i)) (a : Int) := ⟨_, rfl⟩
  have h : Ev (fun k => spec_SingBest.l2 k m (singB (hsOf m) i) ((List.range m.length).map (rowL (hsOf m))) i (g2 i y (b, l) (a : Int) v).1 (g2 i y (b, l) (a : Int) v).2 ((a : Int) + 1)) r := by rw [hv]; exact h
  rw [← hv] at hR hB
  have HV := Aside0.mk hv
  clear hv
  have choose : ∀ x : Int, x = v + (if i = 0 then 0 else if y = (a : Int) then 0 else 1) → Ev (fun k => if b < 0 then spec_SingBest.l2 k m (singB (hsOf m) i) ((List.range m.length).map (rowL (hsOf m))) i (a : Int) x ((a : Int) + 1) else if x < l then spec_SingBest.l2 k m (singB (hsOf m) i) ((List.range m.length).map (rowL (hsOf m))) i (a : Int) x ((a : Int) + 1) else spec_SingBest.l2 k m (singB (hsOf m) i) ((List.range m.length).map (rowL (hsOf m))) i b l ((a : Int) + 1)) r := by
   intro x hx
   unfold g2 at h
   simp only [] at h
   rw [← hx] at h
   by_cases h1 : b < 0
   ·
    rw [if_pos (.inl h1)] at h
    exact Ev.pos h1 h
   ·
    refine Ev.neg h1 ?_
    by_cases h2 : x < l
    ·
     rw [if_pos (.inr h2)] at h
     exact Ev.pos h2 h
    ·
     rw [if_neg (by omega)] at h
     exact Ev.neg h2 h
  have wa : wrap64 ((a : Int) + 1) = (a : Int) + 1 := w64 (by omega) (by omega)
  refine Ev.succ ?_
  simp only [spec_SingBest.l2]
  rw [wa, rdL_rows _ _ _ hi, rowL_get _ _ _ ha, ← HV.out]
  refine Ev.pos (by omega) (Ev.pos (by omega) (Ev.pos (by rw [hTl]; omega) (Ev.pos (by omega) (Ev.pos (by rw [rowL_len]; omega) (Ev.neg (by omega) ?_)))))
  by_cases hi0 : i = 0
  ·
   refine Ev.neg (by omega) (Ev.succ ?_)
   simp only [spec_SingBest.j3]
   rw [wa]
   exact Ev.neg (by simp) (choose v (by rw [if_pos hi0, Int.add_zero]))
  ·
   rw [w64 (x := (i : Int) - 1) (by omega) (by omega)]
   refine Ev.pos (by omega) (Ev.pos (by omega) (Ev.pos (by rw [singB_len]; omega) (Ev.succ ?_)))
   simp only [spec_SingBest.j3]
   rw [wa, last_get _ _ (by omega), ← HY.out, w64 (x := v + 1) (by omega) (by omega)]
   by_cases hya : y = (a : Int)
   ·
    exact Ev.neg (by simp [hya]) (choose v (by rw [if_neg hi0, if_pos hya, Int.add_zero]))
   ·
    refine Ev.pos (by simp; exact fun e => hya e.symm) (choose (v + 1) (by rw [if_neg hi0, if_neg hya]))
 ·
  have hp := fold_pick i y ((hsOf m).getD i []) (finC ((hsOf m).drop i)) (stepF (hsOf m) i y) (fun j => rfl) f1 (fun j hj => by
   have := f3 (((hsOf m).getD i []).getD j 0) (by rw [List.getD_eq_getElem?_getD (l := (hsOf m).getD i []), List.getElem?_eq_getElem hj]; exact List.getElem_mem _)
   omega) ((hsOf m).getD i []).length 0 (-1, -1) (Nat.zero_add _) (.inl ⟨by show (-1 : Int) < 0; decide, by show (-1 : Int) < 0; decide⟩)
  rw [List.drop_zero, List.drop_zero] at hp
  have hpos : 0 < ((hsOf m).getD i []).length := by
   exact List.length_pos_iff.2 (hs_ne hne _ (by rw [List.getD_eq_getElem?_getD, List.getElem?_eq_getElem (show i < (hsOf m).length by show i < (m.map hexAll).length; rw [List.length_map]; exact hi)]; exact List.getElem_mem _))
  have hrg := pickB_range (stepF (hsOf m) i y) ((hsOf m).getD i []).length
  obtain ⟨p, hpe⟩ : ∃ p, p = fold2 (g2 i y) (-1, -1) ((hsOf m).getD i []) (finC ((hsOf m).drop i)) := ⟨_, rfl⟩
  rw [← hpe] at hp ⊢
  have hb : p.1 = ((hsOf m).getD i []).getD (bAt (hsOf m) i y) 0 := by
   rcases hp with ⟨h1, _⟩ | ⟨_, h2, _, _⟩
   ·
    omega
   ·
    exact h2
  refine Ev.succ ?_
  simp only [spec_SingBest.l2]
  rw [w64 (x := (i : Int) + 1) (by omega) (by omega), hb, HY.out]
  exact Ev.neg (by omega) (Ev.pos (by rw [singB_len]; omega) hend)
theorem sB_rows (hne : ∀ t ∈ m, hexAll t ≠ []) (hm : m.length ≤ 24) : ∀ (d i : Nat), i + d = m.length → Ev (fun k => spec_SingBest.l1 k m (singB (hsOf m) i) ((List.range m.length).map (rowL (hsOf m))) (i : Int)) (singB (hsOf m) m.length, true)
 | 0, i, h => by
  obtain rfl : i = m.length := by omega
  refine Ev.succ ?_
  simp only [spec_SingBest.l1]
  exact Ev.neg (by omega) (Ev.now _)
 | d + 1, i, h => by
  have ih := sB_rows hne hm d (i + 1) (by omega)
  refine Ev.succ ?_
  simp only [spec_SingBest.l1]
  exact Ev.pos (by omega) (sB_row hne hm i (by omega) _ ih)
theorem sProd_pos : ∀ (ts : List S29) (x : Nat), (∀ t ∈ ts, hexAll t ≠ [] ∧ (hexAll t).length ≤ 3) → 0 < x → x * 3 ^ ts.length ≤ 4611686018427387904 → 0 < sProd (x : Int) ts
 | [], x, _, hx, _ => by
  show 0 < (x : Int)
  omega
 | t :: ts, x, h, hx, hb => by
  obtain ⟨h1, h2⟩ := h t (by simp)
  have h3 : 0 < (hexAll t).length := List.length_pos_iff.2 h1
  rw [List.length_cons, Nat.pow_succ, Nat.mul_comm (3 ^ ts.length) 3, ← Nat.mul_assoc] at hb
  have hle : x * (hexAll t).length ≤ x * 3 := Nat.mul_le_mul_left x h2
  have hb2 : x * (hexAll t).length * 3 ^ ts.length ≤ 4611686018427387904 := Nat.le_trans (Nat.mul_le_mul_right _ hle) hb
  have hp3 : 0 < 3 ^ ts.length := Nat.pow_pos (by decide)
  have hb3 : x * (hexAll t).length ≤ 4611686018427387904 := Nat.le_trans (Nat.le_mul_of_pos_right _ hp3) hb2
  have e : ((x : Int) * ((hexAll t).length : Int)) = ((x * (hexAll t).length : Nat) : Int) := (Int.natCast_mul _ _).symm
  unfold sProd
  rw [e, w64 (by omega) (by omega)]
  exact sProd_pos ts _ (fun u hu => h u (by simp [hu])) (Nat.mul_pos hx h3) hb2
theorem spec_SingBest_ev (m : List S29) (hm : m.length ≤ 1000000000000) : Ev (fun k => spec_SingBest.f k m) (sBest m) := by
 unfold spec_SingBest.f
 refine Ev.conb rfl (Ev.bind (spec_MelodyValid_ev m hm) ?_)
 by_cases hok : melOk m = true
 rotate_left
 ·
  refine Ev.neg hok (Ev.eqr (Ev.now _) ?_)
  unfold sBest sMany
  rw [if_neg hok]
  rfl
 have hl := melOk_len hok
 have hall : ∀ t ∈ m, toneOk t = true := by
  unfold melOk at hok
  rw [Bool.and_eq_true] at hok
  exact List.all_eq_true.1 hok.2
 refine Ev.pos hok ?_
 have hmem : ∀ i, i < m.length → rd_T29 m (i : Int) ∈ m := by
  intro i hi
  unfold rd_T29
  rw [Int.toNat_natCast, List.getD_eq_getElem?_getD, List.getElem?_eq_getElem hi]
  exact List.getElem_mem _
 by_cases hne : ∀ t ∈ m, hexAll t ≠ []
 ·
  have hpos : 0 < sMany m := by
   unfold sMany
   rw [if_pos hok]
   refine sProd_pos m 1 (fun t ht => ⟨hne t ht, (hexP1_at (hall t ht)).2⟩) (by decide) ?_
   rw [Nat.one_mul]
   exact Nat.le_trans (Nat.pow_le_pow_right (by decide) hl) (by decide)
  have e : sBest m = (singB (hsOf m) m.length, true) := by unfold sBest; rw [if_pos hpos]
  rw [e]
  have := Ev.over z29 m (fun k (_ : Unit) i => spec_SingBest.l0 k m [] i) (fun _ _ => (singB (hsOf m) m.length, true)) (fun _ _ => True) (by
   intro _ _
   refine Ev.succ ?_
   simp only [spec_SingBest.l0]
   exact Ev.neg (by omega) (Ev.bind (spec_l2Fewest_ev hall hne hl) (sB_rows hne hl m.length 0 (Nat.zero_add _)))) (by
   rintro _ i rest _ hi hdr ih
   refine Ev.succ ?_
   simp only [spec_SingBest.l0]
   rw [w64 (x := (i : Int) + 1) (by omega) (by omega)]
   have hn := List.length_pos_iff.2 (hne _ (hmem i hi))
   exact Ev.pos (by omega) (Ev.pos (by omega) (Ev.bind (spec_HexAll_ev _ (hall _ (hmem i hi))) (Ev.neg (by omega) (ih () trivial))))) 0 () (Nat.zero_le _) trivial
  exact this
 ·
  have h0 : ¬ 0 < sMany m := by
   intro h
   refine hne (sProd_ne m 1 ?_)
   unfold sMany at h
   rw [if_pos hok] at h
   omega
  have e : sBest m = ([], false) := by unfold sBest; rw [if_neg h0]
  rw [e]
  have := Ev.over z29 m (fun k (_ : Unit) i => spec_SingBest.l0 k m [] i) (fun _ _ => (([], false) : List Int × Bool)) (fun i _ => ¬ ∀ t ∈ m.drop i, hexAll t ≠ []) (by
   intro _ h
   rw [List.drop_length] at h
   exact absurd (fun t ht => by cases ht) h) (by
   rintro _ i rest hn hi hdr ih
   refine Ev.succ ?_
   simp only [spec_SingBest.l0]
   rw [w64 (x := (i : Int) + 1) (by omega) (by omega)]
   refine Ev.pos (by omega) (Ev.pos (by omega) (Ev.bind (spec_HexAll_ev _ (hall _ (hmem i hi))) ?_))
   by_cases hz : hexAll (rd_T29 m (i : Int)) = []
   ·
    exact Ev.pos (by rw [hz]; rfl) (Ev.now _)
   ·
    have hz2 := List.length_pos_iff.2 hz
    refine Ev.neg (by omega) (ih () (fun hr => hn ?_))
    rw [List.drop_eq_getElem_cons hi]
    intro t ht
    rcases List.mem_cons.1 ht with rfl | ht
    ·
     have e : rd_T29 m (i : Int) = m[i] := by
      unfold rd_T29
      rw [Int.toNat_natCast, List.getD_eq_getElem?_getD, List.getElem?_eq_getElem hi]
      rfl
     rw [← e]
     exact hz
    ·
     exact hr t ht) 0 () (Nat.zero_le _) (by rw [List.drop_zero]; exact hne)
  exact this
theorem sBest_len (m : List S29) : (sBest m).1.length ≤ 24 := by
 unfold sBest
 split
 ·
  rename_i h
  have hok : melOk m = true := by
   unfold sMany at h
   split at h
   ·
    assumption
   ·
    omega
  have := melOk_len hok
  rw [singB_len]
  exact this
 ·
  exact Nat.zero_le _
theorem spec_SingBest_x (m : List S29) (A0 : Option Addr) (c0 : Nat) (w : World) (hr0 : Kd.C k29 w A0 m.length m) (hc0 : m.length ≤ c0) (hm : m.length ≤ 1000000000000) :
 Calls Tryd.prog 11 #[.slice A0 m.length c0] w fun e w' => ∃ v, e = .returned (.tuple #[v, .bool (sBest m).2]) ∧ Kd.R (Kd.int .i64) 3 w' w.heap.size (fun _ => True) v (sBest m).1 ∧ Below w.heap.size w w' := by
 obtain ⟨kk, h⟩ := Ev.rounds (spec_SingBest_ev m hm)
 exact spec_SingBest.calls kk _ _ m _ _ w hr0 hc0 h
end

end Go.Proofs.YtiagfjbngpbejaaDoor.Pure
namespace Go.Proofs.YtiagfjbngpbejaaDoor.PFnExactSingBest
open Go.RowKit Go.Proofs.YtiagfjbngpbejaaDoorW.PrintWords Go.Proofs.YtiagfjbngpbejaaDoorW.PrintLast Go.Proofs.YtiagfjbngpbejaaDoorW.PrintMore
attribute [local go_sem] max2_int min2_int max_two min_two max_three min_three max_four min_four   -- for this text's walks alone
set_option linter.unusedVariables false
set_option linter.unusedSimpArgs false

def laws_szToneS.f (l0 : List (S64)) (a1 : Int) : Option (Int) := if (wrap64 (a1 - (l0.length : Int))) < 0 then (some (-1)) else (some (wrap64 (a1 - (l0.length : Int))))
set_option maxHeartbeats 8000000 in
set_option maxRecDepth 100000 in
theorem laws_szToneS.calls (A0 : Option Addr) (c0 : Nat) (l0 : List (S64)) (a1 : Int) (r : Int) (w : World) (hr0 : Kd.C k64 w A0 l0.length l0) (hc0 : l0.length ≤ c0) (h : laws_szToneS.f l0 a1 = some r) :
 Calls Tryd.prog 10 #[.slice A0 l0.length c0, .int .i64 a1] w fun e w' => e = .returned (.int .i64 r) ∧ Drawn0 w w' := by
 have HR0 := Aside0.mk hr0; have HC0 := Aside0.mk hc0; clear hr0 hc0; have H : (if (wrap64 (a1 - (l0.length : Int))) < 0 then (some (-1)) else (some (wrap64 (a1 - (l0.length : Int))))) = some r := h; clear h; by_cases c3 : (wrap64 (a1 - (l0.length : Int))) < 0
 ·
  rw [if_pos c3] at H; have c3b0 : decide ((wrap64 (a1 - (l0.length : Int))) < 0) = true := decide_eq_true c3; clear c3; obtain rfl := Option.some.inj H; go_enter Tryd.func10, Tryd.ntmps10
  go_wp2; go_ret
  exact ⟨by first | rfl | (simp; done) | (simp [*]; done), by repeat (first | exact Drawn0.refl _ | apply Drawn0.step)⟩
 ·
  rw [if_neg c3] at H; have c3b0 : decide ((wrap64 (a1 - (l0.length : Int))) < 0) = false := decide_eq_false c3; clear c3; obtain rfl := Option.some.inj H; go_enter Tryd.func10, Tryd.ntmps10
  go_wp2; go_ret
  exact ⟨by first | rfl | (simp; done) | (simp [*]; done), by repeat (first | exact Drawn0.refl _ | apply Drawn0.step)⟩

end Go.Proofs.YtiagfjbngpbejaaDoor.PFnExactSingBest
namespace Go.Proofs.YtiagfjbngpbejaaDoor.PFnExactSingBest
open Go.RowKit Go.Proofs.YtiagfjbngpbejaaDoorW.PrintWords Go.Proofs.YtiagfjbngpbejaaDoorW.PrintLast Go.Proofs.YtiagfjbngpbejaaDoorW.PrintMore
attribute [local go_sem] max2_int min2_int max_two min_two max_three min_three max_four min_four   -- for this text's walks alone
set_option linter.unusedVariables false
set_option linter.unusedSimpArgs false

def laws_toTone.f (a0_0 : Int) (a0_1 : Bool) : Option (Int × Bool) := some (a0_0, a0_1)
set_option maxHeartbeats 8000000 in
set_option maxRecDepth 100000 in
theorem laws_toTone.calls (a0_0 : Int) (a0_1 : Bool) (r1 : Int) (r2 : Bool) (w : World) (h : laws_toTone.f a0_0 a0_1 = some (r1, r2)) :
 Calls Tryd.prog 28 #[.agg #[.int .i64 a0_0, .bool a0_1]] w fun e w' => e = .returned (.agg #[.int .i64 r1, .bool r2]) ∧ Below w.heap.size w w' := by
 have hu64 := Tryd.underlying64; have hu29 := Tryd.underlying29; have HB := Aside0.mk (Below.refl w.heap.size w); have H : (some (a0_0, a0_1)) = some (r1, r2) := h; clear h; simp only [Option.some.injEq, Prod.mk.injEq] at H; obtain ⟨rfl, rfl⟩ := H; go_enter Tryd.func28, Tryd.ntmps28
 go_wp2_with (first | ((with_reducible refine gate_dst (N := 1) rfl ?_); refine box_event ?hg (N := 1) ?hd (cs := #[.int .i64 a0_0, .bool a0_1]) (t := 64) ?hr ?_; (case hd => rfl); (case hg => rfl); (case hr => first | (go_simp; done) | (go_simp; rfl)); intro gb249 hg w2 hbox hb; have n0_ := Aside0.mk (below_step (by repeat (first | (with_reducible first | exact HB.out | apply below_alloc | apply pw_below_drewN | apply below_drew1) | exact HB.out)) hb); have n1_ := Aside0.mk (hbox); have n2_ := Aside0.mk ((by rw [hg]; exact (below_size (by repeat (first | (with_reducible first | exact HB.out | apply below_alloc | apply pw_below_drewN | apply below_drew1) | exact HB.out))) : w.heap.size ≤ gb249)); have n3_ := Aside0.mk ((by rw [hg]; exact (below_size (by repeat (first | (with_reducible first | exact HB.out | apply below_alloc | apply pw_below_drewN | apply below_drew1) | exact HB.out))) : w.heap.size ≤ gb249)); clear HB; have HB := n0_; have BK249 := n1_; have GW249 := n2_; have GE249 := n3_; clear n0_ n1_ n2_ n3_; clear hb hbox hg) | ((with_reducible refine gate_dst (N := 2) rfl ?_); refine box_event ?hg (N := 2) ?hd (cs := #[.int .i64 0, .bool false]) (t := 29) ?hr ?_; (case hd => rfl); (case hg => rfl); (case hr => first | (go_simp; done) | (go_simp; rfl)); intro gb250 hg w3 hbox hb; have n0_ := Aside0.mk (blk_below (g := gb249) (o := .cells #[.int .i64 a0_0, .bool a0_1] 64 (0, 0)) (by (with_reducible repeat (first | refine blk_drewN ?_ _ | refine blk_drew ?_ | refine blk_alloc ?_ _)); exact BK249.out) hb); have n1_ := Aside0.mk (below_step (by repeat (first | (with_reducible first | exact HB.out | apply below_alloc | apply pw_below_drewN | apply below_drew1 | refine below_set ?_ GE249.out) | exact HB.out)) hb); have n2_ := Aside0.mk (hbox); have n3_ := Aside0.mk ((by rw [hg]; exact (below_size (by repeat (first | (with_reducible first | exact HB.out | apply below_alloc | apply pw_below_drewN | apply below_drew1 | refine below_set ?_ GE249.out) | exact HB.out))) : w.heap.size ≤ gb250)); have n4_ := Aside0.mk ((by rw [hg]; exact (below_size (by repeat (first | (with_reducible first | exact HB.out | apply below_alloc | apply pw_below_drewN | apply below_drew1 | refine below_set ?_ GE249.out) | exact HB.out))) : w.heap.size ≤ gb250)); have n5_ := Aside0.mk ((by rw [hg]; exact Nat.ne_of_lt (blk_lt (g := gb249) (o := .cells #[.int .i64 a0_0, .bool a0_1] 64 (0, 0)) (by (with_reducible repeat (first | refine blk_drewN ?_ _ | refine blk_drew ?_ | refine blk_alloc ?_ _)); exact BK249.out)) : gb249 ≠ gb250)); have n6_ := Aside0.mk ((by rw [hg]; exact Nat.ne_of_gt (blk_lt (g := gb249) (o := .cells #[.int .i64 a0_0, .bool a0_1] 64 (0, 0)) (by (with_reducible repeat (first | refine blk_drewN ?_ _ | refine blk_drew ?_ | refine blk_alloc ?_ _)); exact BK249.out)) : gb250 ≠ gb249)); clear BK249; clear HB; have BK249 := n0_; have HB := n1_; have BK250 := n2_; have GW250 := n3_; have GE250 := n4_; have NB249_250 := n5_; have NB250_249 := n6_; clear n0_ n1_ n2_ n3_ n4_ n5_ n6_; clear hb hbox hg) | ((with_reducible refine gate_dst (N := 3) rfl ?_); refine box_event ?hg (N := 3) ?hd (cs := #[.int .i64 0, .bool false]) (t := 29) ?hr ?_; (case hd => rfl); (case hg => rfl); (case hr => first | (go_simp; done) | (go_simp; rfl)); intro gb251 hg w4 hbox hb; have n0_ := Aside0.mk (blk_below (g := gb249) (o := .cells #[.int .i64 a0_0, .bool a0_1] 64 (0, 0)) (by (with_reducible repeat (first | refine blk_drewN ?_ _ | refine blk_drew ?_ | refine blk_alloc ?_ _)); exact BK249.out) hb); have n1_ := Aside0.mk (blk_below (g := gb250) (o := .cells #[.int .i64 0, .bool false] 29 (0, 0)) (by (with_reducible repeat (first | refine blk_drewN ?_ _ | refine blk_drew ?_ | refine blk_alloc ?_ _)); exact BK250.out) hb); have n2_ := Aside0.mk (below_step (by repeat (first | (with_reducible first | exact HB.out | apply below_alloc | apply pw_below_drewN | apply below_drew1 | refine below_set ?_ GE249.out | refine below_set ?_ GE250.out) | exact HB.out)) hb); have n3_ := Aside0.mk (hbox); have n4_ := Aside0.mk ((by rw [hg]; exact (below_size (by repeat (first | (with_reducible first | exact HB.out | apply below_alloc | apply pw_below_drewN | apply below_drew1 | refine below_set ?_ GE249.out | refine below_set ?_ GE250.out) | exact HB.out))) : w.heap.size ≤ gb251)); have n5_ := Aside0.mk ((by rw [hg]; exact (below_size (by repeat (first | (with_reducible first | exact HB.out | apply below_alloc | apply pw_below_drewN | apply below_drew1 | refine below_set ?_ GE249.out | refine below_set ?_ GE250.out) | exact HB.out))) : w.heap.size ≤ gb251)); have n6_ := Aside0.mk ((by rw [hg]; exact Nat.ne_of_lt (blk_lt (g := gb249) (o := .cells #[.int .i64 a0_0, .bool a0_1] 64 (0, 0)) (by (with_reducible repeat (first | refine blk_drewN ?_ _ | refine blk_drew ?_ | refine blk_alloc ?_ _)); exact BK249.out)) : gb249 ≠ gb251)); have n7_ := Aside0.mk ((by rw [hg]; exact Nat.ne_of_gt (blk_lt (g := gb249) (o := .cells #[.int .i64 a0_0, .bool a0_1] 64 (0, 0)) (by (with_reducible repeat (first | refine blk_drewN ?_ _ | refine blk_drew ?_ | refine blk_alloc ?_ _)); exact BK249.out)) : gb251 ≠ gb249)); have n8_ := Aside0.mk ((by rw [hg]; exact Nat.ne_of_lt (blk_lt (g := gb250) (o := .cells #[.int .i64 0, .bool false] 29 (0, 0)) (by (with_reducible repeat (first | refine blk_drewN ?_ _ | refine blk_drew ?_ | refine blk_alloc ?_ _)); exact BK250.out)) : gb250 ≠ gb251)); have n9_ := Aside0.mk ((by rw [hg]; exact Nat.ne_of_gt (blk_lt (g := gb250) (o := .cells #[.int .i64 0, .bool false] 29 (0, 0)) (by (with_reducible repeat (first | refine blk_drewN ?_ _ | refine blk_drew ?_ | refine blk_alloc ?_ _)); exact BK250.out)) : gb251 ≠ gb250)); clear BK249; clear BK250; clear HB; have BK249 := n0_; have BK250 := n1_; have HB := n2_; have BK251 := n3_; have GW251 := n4_; have GE251 := n5_; have NB249_251 := n6_; have NB251_249 := n7_; have NB250_251 := n8_; have NB251_250 := n9_; clear n0_ n1_ n2_ n3_ n4_ n5_ n6_ n7_ n8_ n9_; clear hb hbox hg; have hnb5 := NB249_250.out; have hnc5 := NB250_249.out; have hnb6 := NB249_251.out; have hnc6 := NB251_249.out; have hcz7_0 : w4.cell? ⟨gb249, 0, none⟩ = some (.int .i64 a0_0) := (blk_cell BK249.out 0).trans rfl; have hcz7_1 : w4.cell? ⟨gb249, 1, none⟩ = some (.bool a0_1) := (blk_cell BK249.out 1).trans rfl; have hfz7_0 := blk_frozen BK249.out 0; have hfz7_1 := blk_frozen BK249.out 1; have hnb8 := NB251_250.out; have hnc8 := NB250_251.out; have hcz9_0 : w4.cell? ⟨gb251, 0, none⟩ = some (.int .i64 0) := (blk_cell BK251.out 0).trans rfl; have hcz9_1 : w4.cell? ⟨gb251, 1, none⟩ = some (.bool false) := (blk_cell BK251.out 1).trans rfl; have hfz9_0 := blk_frozen BK251.out 0; have hfz9_1 := blk_frozen BK251.out 1; have hcz10_0 : w4.cell? ⟨gb250, 0, none⟩ = some (.int .i64 0) := (blk_cell BK250.out 0).trans rfl; have hcz10_1 : w4.cell? ⟨gb250, 1, none⟩ = some (.bool false) := (blk_cell BK250.out 1).trans rfl; have hfz10_0 := blk_frozen BK250.out 0; have hfz10_1 := blk_frozen BK250.out 1))
 refine bodyPost_ret (results_cell_row rfl _ _ gb250 29 #[.int .i64 a0_0, .bool a0_1] (0, 0) _ rfl (by (with_reducible repeat (first | refine blk_drewN ?_ _ | refine blk_drew ?_ | refine blk_alloc ?_ _)); refine blk_put (cs := #[.int .i64 a0_0, .bool false]) ?_ 1 _ rfl; (with_reducible repeat (first | refine blk_drewN ?_ _ | refine blk_drew ?_ | refine blk_alloc ?_ _)); refine blk_put (cs := #[.int .i64 0, .bool false]) ?_ 0 _ rfl; (with_reducible repeat (first | refine blk_drewN ?_ _ | refine blk_drew ?_ | refine blk_alloc ?_ _)); refine blk_far ?_ NB250_251.out _; (with_reducible repeat (first | refine blk_drewN ?_ _ | refine blk_drew ?_ | refine blk_alloc ?_ _)); refine blk_far ?_ NB250_251.out _; (with_reducible repeat (first | refine blk_drewN ?_ _ | refine blk_drew ?_ | refine blk_alloc ?_ _)); exact BK250.out) Tryd.underlying29 rfl (by kernel_rfl)) rfl ?_; exact ⟨by first | rfl | (simp [errW_none, errW_some] <;> rfl) | (simp [*, errW_none, errW_some] <;> rfl), by repeat (first | (with_reducible first | exact HB.out | apply below_alloc | apply pw_below_drewN | apply below_drew1 | refine below_set ?_ GE249.out | refine below_set ?_ GE250.out | refine below_set ?_ GE251.out) | exact HB.out)⟩

end Go.Proofs.YtiagfjbngpbejaaDoor.PFnExactSingBest
namespace Go.Proofs.YtiagfjbngpbejaaDoor.PFnExactSingBest
open Go.RowKit Go.Proofs.YtiagfjbngpbejaaDoorW.PrintWords Go.Proofs.YtiagfjbngpbejaaDoorW.PrintLast Go.Proofs.YtiagfjbngpbejaaDoorW.PrintMore
attribute [local go_sem] max2_int min2_int max_two min_two max_three min_three max_four min_four   -- for this text's walks alone
set_option linter.unusedVariables false
set_option linter.unusedSimpArgs false

def laws_toToneS.l0 : Nat → List (S64) → List (S29) → Int → Option ((List (S29)))
 | 0, _, _, _ => none
 | k + 1, x0, x3, x4 => if x4 < (x0.length : Int) then (if 0 ≤ x4 then ((laws_toTone.f ((rd_T64 x0 x4).f0) ((rd_T64 x0 x4).f1)).bind fun bt256 => (if x4 < (x3.length : Int) then (laws_toToneS.l0 k x0 (x3.set (x4 : Int).toNat (⟨bt256.1, bt256.2⟩ : S29)) (wrap64 (x4 + 1))) else (none))) else (none)) else (some x3)
def laws_toToneS.f (k : Nat) (l0 : List (S64)) : Option ((List (S29))) := if 0 ≤ (l0.length : Int) then (if ((l0.length : Int) : Int).toNat ≤ 17592186044416 then (laws_toToneS.l0 k l0 (List.replicate ((l0.length : Int) : Int).toNat z29) 0) else (none)) else (none)
set_option maxHeartbeats 8000000 in
set_option maxRecDepth 100000 in
theorem laws_toToneS.calls (k : Nat) (A0 : Option Addr) (c0 : Nat) (l0 : List (S64)) (r : List (S29)) (w : World) (hr0 : Kd.C k64 w A0 l0.length l0) (hc0 : l0.length ≤ c0) (h : laws_toToneS.f k l0 = some r) :
 Calls Tryd.prog 12 #[.slice A0 l0.length c0] w fun e w' => ∃ v0_ : Value, e = .returned (v0_) ∧ Kd.R k29 29 w' w.heap.size (fun _ => True) v0_ r ∧ Below w.heap.size w w' := by
 have hu64 := Tryd.underlying64; have hu29 := Tryd.underlying29; have HR0 := Aside0.mk hr0; have HC0 := Aside0.mk hc0; clear hr0 hc0; have HB := Aside0.mk (Below.refl w.heap.size w); have H : (if 0 ≤ (l0.length : Int) then (if ((l0.length : Int) : Int).toNat ≤ 17592186044416 then (laws_toToneS.l0 k l0 (List.replicate ((l0.length : Int) : Int).toNat z29) 0) else (none)) else (none)) = some r := h; clear h; by_cases c2 : 0 ≤ (l0.length : Int)
 ·
  rw [if_pos c2] at H; have c2b0 := eq_true c2; have c2b1 : decide (0 ≤ (l0.length : Int)) = true := decide_eq_true c2; clear c2; by_cases c3 : ((l0.length : Int) : Int).toNat ≤ 17592186044416
  ·
   rw [if_pos c3] at H; have c3b0 := eq_true c3; have c3b1 : decide (((l0.length : Int) : Int).toNat ≤ 17592186044416) = true := decide_eq_true c3; clear c3; obtain ⟨y252, hy252⟩ : ∃ y_ : List (S29), y_ = (List.replicate ((l0.length : Int) : Int).toNat z29) := ⟨_, rfl⟩
   replace H : (laws_toToneS.l0 k l0 y252 0) = some r := by first | (rw [hy252]; with_reducible exact H) | (have H2_ := (Option.bind_some _ _).symm.trans H; rw [hy252]; with_reducible exact H2_) | (have H2_ := (Option.bind_some _ _).symm.trans H; with_reducible exact H2_) | with_reducible exact H | (rw [hy252]; exact H) | exact H
   have Ny252 := Aside0.mk hy252; clear hy252; have H' := Aside0.mk H; clear H; go_enter Tryd.func12, Tryd.ntmps12
   go_wp2_with (first | ((with_reducible refine gate_dst (N := 7) rfl ?_); refine Kd.R_make k29 _ 29 rfl (N := 7) rfl 23 _ _ rfl (l0.length : Int) rfl rfl Tryd.underlying23 (.agg #[(.int .i64 0), (.bool false)]) 16 info29 rfl (by decide) (by omega) z29 (ok := fun _ => True) (okp := fun _ => True) (k29_mkM _ _ _ z29 ) (fun _ hk => hk) trivial (of_decide_eq_true (by first | (with_reducible assumption) | assumption)) (Nat.le_trans (Nat.mul_le_mul_right _ (of_decide_eq_true (by first | (with_reducible assumption) | assumption) : (l0.length : Int).toNat ≤ 17592186044416)) (by omega)) (Below.refl _ _) (Nat.le_refl _) ?_; intro v253 w4 ho5 hb hg_ hnew_; clear hg_ hnew_; (first | rw [← Ny252.out] at ho5 | (simp only [Int.reduceToNat] at ho5; rw [← Ny252.out] at ho5)); have n0_ := Aside0.mk (Kd.R_lower ho5 (below_size (by repeat (first | (with_reducible first | exact HB.out | apply below_alloc | apply pw_below_drewN | apply below_drew1) | exact HB.out)))); have n1_ := Aside0.mk (below_step (by repeat (first | (with_reducible first | exact HB.out | apply below_alloc | apply pw_below_drewN | apply below_drew1) | exact HB.out)) hb); clear HB; have HO254 := n0_; have HB := n1_; clear n0_ n1_; clear hb ho5))
   go_loopg [4] k (fun kq v4 w' => ∃ (x3_1 : List (S29)) (x4_1 : Int), v4 = .int .i64 x4_1 ∧ Aside0 (laws_toToneS.l0 kq l0 x3_1 x4_1 = some r) ∧ Aside0 (kq ≤ k) ∧ Aside0 (Kd.R k29 29 w' w.heap.size (fun _ => True) v253 x3_1) ∧ Aside0 (Below w.heap.size w w'))
   case atStart => exact ⟨(y252), (0), (by first | rfl | (simp; done) | (simp [*]; done)), H', ⟨Nat.le_refl _⟩, ⟨by (with_reducible repeat (first | apply Kd.R_alloc | apply Kd.R_drewN | apply Kd.R_drew)); exact HO254.out⟩, ⟨by repeat (first | (with_reducible first | exact HB.out | apply below_alloc | apply pw_below_drewN | apply below_drew1) | exact HB.out)⟩⟩
   case round =>
    clear H'; try clear c1
    try clear c2
    try clear c2b0
    try clear c2b1
    try clear p2
    try clear c3
    try clear c3b0
    try clear c3b1
    obtain ⟨x3_1, x4_1, rfl, HA, HK1, HO_3, HB⟩ := hrel; cases gk with
    | zero => exact absurd HA.out (by simp [laws_toToneS.l0])
    | succ k1 =>
     have H := HA.out; clear HA; simp only [laws_toToneS.l0] at H; by_cases c6 : x4_1 < (l0.length : Int)
     ·
      rw [if_pos c6] at H; have c6b0 : decide (x4_1 < (l0.length : Int)) = true := decide_eq_true c6; clear c6; by_cases c7 : 0 ≤ x4_1
      ·
       rw [if_pos c7] at H; have c7b0 : decide (0 ≤ x4_1) = true := decide_eq_true c7; clear c7; replace H := Option.bind_eq_some_iff.mp H; obtain ⟨⟨t256, t257⟩, A80, H⟩ := H; replace H : (if x4_1 < (x3_1.length : Int) then (laws_toToneS.l0 k1 l0 (x3_1.set (x4_1 : Int).toNat (⟨t256, t257⟩ : S29)) (wrap64 (x4_1 + 1))) else (none)) = some r := H; have A8 := Aside0.mk A80; clear A80; by_cases c9 : x4_1 < (x3_1.length : Int)
       ·
        rw [if_pos c9] at H; have c9b0 : decide (x4_1 < (x3_1.length : Int)) = true := decide_eq_true c9; clear c9; obtain ⟨y258, hy258⟩ : ∃ y_ : List (S29), y_ = (x3_1.set (x4_1 : Int).toNat (⟨t256, t257⟩ : S29)) := ⟨_, rfl⟩
        replace H : (laws_toToneS.l0 k1 l0 y258 (wrap64 (x4_1 + 1))) = some r := by first | (rw [hy258]; with_reducible exact H) | (have H2_ := (Option.bind_some _ _).symm.trans H; rw [hy258]; with_reducible exact H2_) | (have H2_ := (Option.bind_some _ _).symm.trans H; with_reducible exact H2_) | with_reducible exact H | (rw [hy258]; exact H) | exact H
        have Ny258 := Aside0.mk hy258; clear hy258; have H' := Aside0.mk H; clear H; have p255 : 0 ≤ (x4_1 : Int) := of_decide_eq_true (by first | (with_reducible assumption) | assumption); have q255 : x4_1 < (l0.length : Int) := of_decide_eq_true (by first | (with_reducible assumption) | assumption); obtain ⟨ad255, e255, hx255_0, hx255_1⟩ := at_T64 HR0.out x4_1 p255 q255; cases e255; replace hx255_0 := (HB.out.cell (World.block_lt_of_cell? w _ hx255_0)).trans hx255_0; replace hx255_1 := (HB.out.cell (World.block_lt_of_cell? w _ hx255_1)).trans hx255_1; replace p255 := eq_true p255; replace q255 := eq_true q255; go_wp2_with (first | ((with_reducible refine gate_callee (f := 28) rfl ?_); refine goesL_ (some 20) rfl rfl Tryd.func28 (by kernel_rfl) rfl #[.agg #[.int .i64 ((rd_T64 l0 x4_1).f0), .bool ((rd_T64 l0 x4_1).f1)]] rfl (by (try simp only [List.map_toArray, List.map_cons, List.map_nil]); first | done | rfl | (simp only [List.length_drop, List.length_take]; rfl)) ?_; (with_reducible refine (laws_toTone.calls ((rd_T64 l0 x4_1).f0) ((rd_T64 l0 x4_1).f1) t256 t257 _ A8.out).mono ?_); rintro e w11 ⟨rfl, hb⟩; refine ⟨_, rfl, ?_⟩; have n0_ := Aside0.mk (Kd.R_below (by (with_reducible repeat (first | apply Kd.R_alloc | apply Kd.R_drewN | apply Kd.R_drew)); exact HO_3.out) hb); have n1_ := Aside0.mk (below_step (by repeat (first | (with_reducible first | exact HB.out | apply below_alloc | apply pw_below_drewN | apply below_drew1) | exact HB.out)) hb); clear HO_3; clear HB; have HO_3 := n0_; have HB := n1_; clear n0_ n1_; (try clear hb); (try clear hb2); (try clear hk); (try clear hi); have p10 : 0 ≤ (x4_1 : Int) := of_decide_eq_true (by first | (with_reducible assumption) | assumption); have q10 : (x4_1 : Int) < ((x3_1.length : Int) : Int) := of_decide_eq_true (by first | (with_reducible assumption) | assumption); obtain ⟨go10, co10, eo10, gb10, gl10, cl10, HG10⟩ := Kd.R_form HO_3.out (by omega); (first | cases eo10 | (injection eo10 with ea_ en_ ec_; (first | subst ea_ | (injection ea_ with ea_; subst ea_)); subst ec_; clear en_)); have GB10 := Aside0.mk gb10; have GG10 := Aside0.mk HG10; clear gb10 gl10 HG10; obtain ⟨ce10, hcl10, hM10, hcc10, hfr10⟩ := Kd.R_elem HO_3.out z29 (x4_1 : Int) p10 q10; obtain rfl := k29_openM hM10; have hx10_0 : w11.cell? ⟨go10, (x4_1 : Int).toNat * 2, none⟩ = some (.int .i64 ((rd_T29 x3_1 x4_1).f0)) := hcc10 0 _ rfl; have hx10_1 : w11.cell? ⟨go10, (x4_1 : Int).toNat * 2 + 1, none⟩ = some (.bool ((rd_T29 x3_1 x4_1).f1)) := hcc10 1 _ rfl; have hf10_0 : w11.frozen? ⟨go10, (x4_1 : Int).toNat * 2, none⟩ = false := hfr10 0; have hf10_1 : w11.frozen? ⟨go10, (x4_1 : Int).toNat * 2 + 1, none⟩ = false := hfr10 1; clear hcl10 hcc10 hfr10 hM10; replace p10 := eq_true p10; replace q10 := eq_true q10; have HX12 := Aside0.mk (show Kd.R k29 29 w11 w.heap.size (fun _ => True) (.slice (some ⟨go10, 0, none⟩) x3_1.length co10) x3_1 from (by (with_reducible repeat (first | apply Kd.R_alloc | apply Kd.R_drewN | apply Kd.R_drew)); exact HO_3.out)); obtain ⟨ce12, hcl12, hM12, hcc12, hfr12⟩ := Kd.R_elem HX12.out z29 (x4_1 : Int) (of_decide_eq_true (by first | (with_reducible assumption) | assumption)) (by have h_ : (x4_1 : Int) < ((x3_1.length : Int) : Int) := of_decide_eq_true (by first | (with_reducible assumption) | assumption); first | exact h_ | (have e_ := (Kd.R_reads' HO_3.out).1; omega) | simpa using h_); obtain rfl := k29_openM hM12; have HP12 := Kd.R_seg HX12.out (x4_1 : Int) (of_decide_eq_true (by first | (with_reducible assumption) | assumption)) (by have h_ : (x4_1 : Int) < ((x3_1.length : Int) : Int) := of_decide_eq_true (by first | (with_reducible assumption) | assumption); first | exact h_ | (have e_ := (Kd.R_reads' HO_3.out).1; omega) | simpa using h_) (seg := [.int .i64 t256, .bool t257]) (j := 0) hcl12 hcc12 (show 2 ≤ 2 from by decide) (x' := (⟨t256, t257⟩ : S29)) (k29_mkM _ _ _ (⟨t256, t257⟩ : S29) ) (fun _ hk => hk); have hx12_0 := hcc12 0 _ rfl; (try simp only [show (k29).sz = 2 from rfl, Nat.mul_one, Nat.add_zero] at hx12_0); have hf12_0 := hfr12 0; (try simp only [show (k29).sz = 2 from rfl, Nat.mul_one, Nat.add_zero] at hf12_0); have hx12_1 := hcc12 1 _ rfl; (try simp only [show (k29).sz = 2 from rfl, Nat.mul_one, Nat.add_zero] at hx12_1); have hf12_1 := hfr12 1; (try simp only [show (k29).sz = 2 from rfl, Nat.mul_one, Nat.add_zero] at hf12_1); clear hcl12 hcc12 hfr12 hM12) | ((with_reducible refine gate_store (t := 29) (p := 21) rfl ?_); refine store_event (t := 29) (p := 21) (v := ?vo_w13) (w1 := ((w11.setCell ⟨go10, (x4_1 : Int).toNat * 2, none⟩ (.int .i64 t256)).setCell ⟨go10, (x4_1 : Int).toNat * 2 + 1, none⟩ (.bool t257))) ?hg ?ho ?hn ?hr ?_; (case ho => rfl); (case hg => rfl); (case hn => rfl); (case hr => first | (go_simp; done) | (go_simp; rfl)); intro w13 hw; have hg : w11.grownBy w13 (some go10) := (by rw [hw]; exact HP12.2); have hp_ : Kd.R k29 29 w13 w.heap.size (fun _ => True) (.slice (some ⟨go10, 0, none⟩) x3_1.length co10) y258 := (by rw [hw, Ny258.out]; exact HP12.1); clear HP12; have n0_ := Aside0.mk (hp_); have n1_ := Aside0.mk ((by rw [hw]; exact below_set (below_set (HB.out) GB10.out) GB10.out : Below w.heap.size w w13)); clear HO_3; clear HB; have HO_3 := n0_; have HB := n1_; clear n0_ n1_; clear hg hw hp_))
        go_roundg k1
        case measure => have := HK1.out; omega
        case rel => exact ⟨(y258), (wrap64 (x4_1 + 1)), (by first | rfl | (simp; done) | (simp [*]; done)), H', ⟨by have := HK1.out; omega⟩, ⟨by (with_reducible repeat (first | apply Kd.R_alloc | apply Kd.R_drewN | apply Kd.R_drew)); exact HO_3.out⟩, ⟨by repeat (first | (with_reducible first | exact HB.out | apply below_alloc | apply pw_below_drewN | apply below_drew1) | exact HB.out)⟩⟩
       ·
        rw [if_neg c9] at H; exact absurd H (by simp)
      ·
       rw [if_neg c7] at H; exact absurd H (by simp)
     ·
      rw [if_neg c6] at H; have c6b0 : decide (x4_1 < (l0.length : Int)) = false := decide_eq_false c6; clear c6; obtain rfl := Option.some.inj H; go_wp2; go_ret
      exact ⟨_, by first | rfl | (simp [errW_none, errW_some] <;> rfl) | (simp [*, errW_none, errW_some] <;> rfl), by (with_reducible repeat (first | apply Kd.R_alloc | apply Kd.R_drewN | apply Kd.R_drew)); exact HO_3.out, by repeat (first | (with_reducible first | exact HB.out | apply below_alloc | apply pw_below_drewN | apply below_drew1) | exact HB.out)⟩
  ·
   rw [if_neg c3] at H; exact absurd H (by simp)
 ·
  rw [if_neg c2] at H; exact absurd H (by simp)

end Go.Proofs.YtiagfjbngpbejaaDoor.PFnExactSingBest
namespace Go.Proofs.YtiagfjbngpbejaaDoor.PFnExactSingBest
open Go.RowKit Go.Proofs.YtiagfjbngpbejaaDoorW.PrintWords Go.Proofs.YtiagfjbngpbejaaDoorW.PrintLast Go.Proofs.YtiagfjbngpbejaaDoorW.PrintMore
attribute [local go_sem] max2_int min2_int max_two min_two max_three min_three max_four min_four   -- for this text's walks alone
set_option linter.unusedVariables false
set_option linter.unusedSimpArgs false

def laws_eqTone.f (a0_0 : Int) (a0_1 : Bool) (a1_0 : Int) (a1_1 : Bool) : Option (Bool) := if a0_0 = a1_0 then (if (a0_1 != a1_1) = true then (some false) else (some true)) else (some false)
set_option maxHeartbeats 8000000 in
set_option maxRecDepth 100000 in
theorem laws_eqTone.calls (a0_0 : Int) (a0_1 : Bool) (a1_0 : Int) (a1_1 : Bool) (r : Bool) (w : World) (h : laws_eqTone.f a0_0 a0_1 a1_0 a1_1 = some r) :
 Calls Tryd.prog 29 #[.agg #[.int .i64 a0_0, .bool a0_1], .agg #[.int .i64 a1_0, .bool a1_1]] w fun e w' => e = .returned (.bool r) ∧ Below w.heap.size w w' := by
 have hu29 := Tryd.underlying29; have HB := Aside0.mk (Below.refl w.heap.size w); have H : (if a0_0 = a1_0 then (if (a0_1 != a1_1) = true then (some false) else (some true)) else (some false)) = some r := h; clear h; by_cases c3 : a0_0 = a1_0
 ·
  rw [if_pos c3] at H; have c3b0 : (a0_0 == a1_0) = true := beq_iff_eq.mpr c3; have c3b1 : (a0_0 != a1_0) = false := bne_eq_false_iff_eq.mpr c3; clear c3; by_cases c4 : (a0_1 != a1_1) = true
  ·
   rw [if_pos c4] at H; have c4b0 : (a0_1 != a1_1) = true := c4; (try (have c4b1 : decide (a0_1 = a1_1) = false := by simpa using c4))
   (try (have c4b2 : (a0_1 == a1_1) = false := by simpa using c4))
   (try (have c4b3 : ¬ (a0_1 = a1_1) := by simpa using c4))
   clear c4; obtain rfl := Option.some.inj H; go_enter Tryd.func29, Tryd.ntmps29
   go_wp2_with (first | ((with_reducible refine gate_dst (N := 2) rfl ?_); refine box_event ?hg (N := 2) ?hd (cs := #[.int .i64 a0_0, .bool a0_1]) (t := 29) ?hr ?_; (case hd => rfl); (case hg => rfl); (case hr => first | (go_simp; done) | (go_simp; rfl)); intro gb261 hg w5 hbox hb; have n0_ := Aside0.mk (below_step (by repeat (first | (with_reducible first | exact HB.out | apply below_alloc | apply pw_below_drewN | apply below_drew1) | exact HB.out)) hb); have n1_ := Aside0.mk (hbox); have n2_ := Aside0.mk ((by rw [hg]; exact (below_size (by repeat (first | (with_reducible first | exact HB.out | apply below_alloc | apply pw_below_drewN | apply below_drew1) | exact HB.out))) : w.heap.size ≤ gb261)); have n3_ := Aside0.mk ((by rw [hg]; exact (below_size (by repeat (first | (with_reducible first | exact HB.out | apply below_alloc | apply pw_below_drewN | apply below_drew1) | exact HB.out))) : w.heap.size ≤ gb261)); clear HB; have HB := n0_; have BK261 := n1_; have GW261 := n2_; have GE261 := n3_; clear n0_ n1_ n2_ n3_; clear hb hbox hg) | ((with_reducible refine gate_dst (N := 3) rfl ?_); refine box_event ?hg (N := 3) ?hd (cs := #[.int .i64 a1_0, .bool a1_1]) (t := 29) ?hr ?_; (case hd => rfl); (case hg => rfl); (case hr => first | (go_simp; done) | (go_simp; rfl)); intro gb262 hg w6 hbox hb; have n0_ := Aside0.mk (blk_below (g := gb261) (o := .cells #[.int .i64 a0_0, .bool a0_1] 29 (0, 0)) (by (with_reducible repeat (first | refine blk_drewN ?_ _ | refine blk_drew ?_ | refine blk_alloc ?_ _)); exact BK261.out) hb); have n1_ := Aside0.mk (below_step (by repeat (first | (with_reducible first | exact HB.out | apply below_alloc | apply pw_below_drewN | apply below_drew1 | refine below_set ?_ GE261.out) | exact HB.out)) hb); have n2_ := Aside0.mk (hbox); have n3_ := Aside0.mk ((by rw [hg]; exact (below_size (by repeat (first | (with_reducible first | exact HB.out | apply below_alloc | apply pw_below_drewN | apply below_drew1 | refine below_set ?_ GE261.out) | exact HB.out))) : w.heap.size ≤ gb262)); have n4_ := Aside0.mk ((by rw [hg]; exact (below_size (by repeat (first | (with_reducible first | exact HB.out | apply below_alloc | apply pw_below_drewN | apply below_drew1 | refine below_set ?_ GE261.out) | exact HB.out))) : w.heap.size ≤ gb262)); have n5_ := Aside0.mk ((by rw [hg]; exact Nat.ne_of_lt (blk_lt (g := gb261) (o := .cells #[.int .i64 a0_0, .bool a0_1] 29 (0, 0)) (by (with_reducible repeat (first | refine blk_drewN ?_ _ | refine blk_drew ?_ | refine blk_alloc ?_ _)); exact BK261.out)) : gb261 ≠ gb262)); have n6_ := Aside0.mk ((by rw [hg]; exact Nat.ne_of_gt (blk_lt (g := gb261) (o := .cells #[.int .i64 a0_0, .bool a0_1] 29 (0, 0)) (by (with_reducible repeat (first | refine blk_drewN ?_ _ | refine blk_drew ?_ | refine blk_alloc ?_ _)); exact BK261.out)) : gb262 ≠ gb261)); clear BK261; clear HB; have BK261 := n0_; have HB := n1_; have BK262 := n2_; have GW262 := n3_; have GE262 := n4_; have NB261_262 := n5_; have NB262_261 := n6_; clear n0_ n1_ n2_ n3_ n4_ n5_ n6_; clear hb hbox hg; have hnb7 := NB261_262.out; have hnc7 := NB262_261.out; have hcz8_0 : w6.cell? ⟨gb261, 0, none⟩ = some (.int .i64 a0_0) := (blk_cell BK261.out 0).trans rfl; have hcz8_1 : w6.cell? ⟨gb261, 1, none⟩ = some (.bool a0_1) := (blk_cell BK261.out 1).trans rfl; have hfz8_0 := blk_frozen BK261.out 0; have hfz8_1 := blk_frozen BK261.out 1; have hcz9_0 : w6.cell? ⟨gb262, 0, none⟩ = some (.int .i64 a1_0) := (blk_cell BK262.out 0).trans rfl; have hcz9_1 : w6.cell? ⟨gb262, 1, none⟩ = some (.bool a1_1) := (blk_cell BK262.out 1).trans rfl; have hfz9_0 := blk_frozen BK262.out 0; have hfz9_1 := blk_frozen BK262.out 1))
   go_ret
   exact ⟨by first | rfl | (simp [errW_none, errW_some] <;> rfl) | (simp [*, errW_none, errW_some] <;> rfl), by repeat (first | (with_reducible first | exact HB.out | apply below_alloc | apply pw_below_drewN | apply below_drew1 | refine below_set ?_ GE261.out | refine below_set ?_ GE262.out) | exact HB.out)⟩
  ·
   rw [if_neg c4] at H; have c4b0 : (a0_1 != a1_1) = false := by simpa using c4
   (try (have c4b1 : decide (a0_1 = a1_1) = true := by simpa using c4))
   (try (have c4b2 : (a0_1 == a1_1) = true := by simpa using c4))
   clear c4; obtain rfl := Option.some.inj H; go_enter Tryd.func29, Tryd.ntmps29
   go_wp2_with (first | ((with_reducible refine gate_dst (N := 2) rfl ?_); refine box_event ?hg (N := 2) ?hd (cs := #[.int .i64 a0_0, .bool a0_1]) (t := 29) ?hr ?_; (case hd => rfl); (case hg => rfl); (case hr => first | (go_simp; done) | (go_simp; rfl)); intro gb261 hg w10 hbox hb; have n0_ := Aside0.mk (below_step (by repeat (first | (with_reducible first | exact HB.out | apply below_alloc | apply pw_below_drewN | apply below_drew1) | exact HB.out)) hb); have n1_ := Aside0.mk (hbox); have n2_ := Aside0.mk ((by rw [hg]; exact (below_size (by repeat (first | (with_reducible first | exact HB.out | apply below_alloc | apply pw_below_drewN | apply below_drew1) | exact HB.out))) : w.heap.size ≤ gb261)); have n3_ := Aside0.mk ((by rw [hg]; exact (below_size (by repeat (first | (with_reducible first | exact HB.out | apply below_alloc | apply pw_below_drewN | apply below_drew1) | exact HB.out))) : w.heap.size ≤ gb261)); clear HB; have HB := n0_; have BK261 := n1_; have GW261 := n2_; have GE261 := n3_; clear n0_ n1_ n2_ n3_; clear hb hbox hg) | ((with_reducible refine gate_dst (N := 3) rfl ?_); refine box_event ?hg (N := 3) ?hd (cs := #[.int .i64 a1_0, .bool a1_1]) (t := 29) ?hr ?_; (case hd => rfl); (case hg => rfl); (case hr => first | (go_simp; done) | (go_simp; rfl)); intro gb262 hg w11 hbox hb; have n0_ := Aside0.mk (blk_below (g := gb261) (o := .cells #[.int .i64 a0_0, .bool a0_1] 29 (0, 0)) (by (with_reducible repeat (first | refine blk_drewN ?_ _ | refine blk_drew ?_ | refine blk_alloc ?_ _)); exact BK261.out) hb); have n1_ := Aside0.mk (below_step (by repeat (first | (with_reducible first | exact HB.out | apply below_alloc | apply pw_below_drewN | apply below_drew1 | refine below_set ?_ GE261.out) | exact HB.out)) hb); have n2_ := Aside0.mk (hbox); have n3_ := Aside0.mk ((by rw [hg]; exact (below_size (by repeat (first | (with_reducible first | exact HB.out | apply below_alloc | apply pw_below_drewN | apply below_drew1 | refine below_set ?_ GE261.out) | exact HB.out))) : w.heap.size ≤ gb262)); have n4_ := Aside0.mk ((by rw [hg]; exact (below_size (by repeat (first | (with_reducible first | exact HB.out | apply below_alloc | apply pw_below_drewN | apply below_drew1 | refine below_set ?_ GE261.out) | exact HB.out))) : w.heap.size ≤ gb262)); have n5_ := Aside0.mk ((by rw [hg]; exact Nat.ne_of_lt (blk_lt (g := gb261) (o := .cells #[.int .i64 a0_0, .bool a0_1] 29 (0, 0)) (by (with_reducible repeat (first | refine blk_drewN ?_ _ | refine blk_drew ?_ | refine blk_alloc ?_ _)); exact BK261.out)) : gb261 ≠ gb262)); have n6_ := Aside0.mk ((by rw [hg]; exact Nat.ne_of_gt (blk_lt (g := gb261) (o := .cells #[.int .i64 a0_0, .bool a0_1] 29 (0, 0)) (by (with_reducible repeat (first | refine blk_drewN ?_ _ | refine blk_drew ?_ | refine blk_alloc ?_ _)); exact BK261.out)) : gb262 ≠ gb261)); clear BK261; clear HB; have BK261 := n0_; have HB := n1_; have BK262 := n2_; have GW262 := n3_; have GE262 := n4_; have NB261_262 := n5_; have NB262_261 := n6_; clear n0_ n1_ n2_ n3_ n4_ n5_ n6_; clear hb hbox hg; have hnb12 := NB261_262.out; have hnc12 := NB262_261.out; have hcz13_0 : w11.cell? ⟨gb261, 0, none⟩ = some (.int .i64 a0_0) := (blk_cell BK261.out 0).trans rfl; have hcz13_1 : w11.cell? ⟨gb261, 1, none⟩ = some (.bool a0_1) := (blk_cell BK261.out 1).trans rfl; have hfz13_0 := blk_frozen BK261.out 0; have hfz13_1 := blk_frozen BK261.out 1; have hcz14_0 : w11.cell? ⟨gb262, 0, none⟩ = some (.int .i64 a1_0) := (blk_cell BK262.out 0).trans rfl; have hcz14_1 : w11.cell? ⟨gb262, 1, none⟩ = some (.bool a1_1) := (blk_cell BK262.out 1).trans rfl; have hfz14_0 := blk_frozen BK262.out 0; have hfz14_1 := blk_frozen BK262.out 1))
   go_ret
   exact ⟨by first | rfl | (simp [errW_none, errW_some] <;> rfl) | (simp [*, errW_none, errW_some] <;> rfl), by repeat (first | (with_reducible first | exact HB.out | apply below_alloc | apply pw_below_drewN | apply below_drew1 | refine below_set ?_ GE261.out | refine below_set ?_ GE262.out) | exact HB.out)⟩
 ·
  rw [if_neg c3] at H; have c3b0 : (a0_0 == a1_0) = false := beq_eq_false_iff_ne.mpr c3; have c3b1 : (a0_0 != a1_0) = true := bne_iff_ne.mpr c3; obtain rfl := Option.some.inj H; go_enter Tryd.func29, Tryd.ntmps29
  go_wp2_with (first | ((with_reducible refine gate_dst (N := 2) rfl ?_); refine box_event ?hg (N := 2) ?hd (cs := #[.int .i64 a0_0, .bool a0_1]) (t := 29) ?hr ?_; (case hd => rfl); (case hg => rfl); (case hr => first | (go_simp; done) | (go_simp; rfl)); intro gb261 hg w15 hbox hb; have n0_ := Aside0.mk (below_step (by repeat (first | (with_reducible first | exact HB.out | apply below_alloc | apply pw_below_drewN | apply below_drew1) | exact HB.out)) hb); have n1_ := Aside0.mk (hbox); have n2_ := Aside0.mk ((by rw [hg]; exact (below_size (by repeat (first | (with_reducible first | exact HB.out | apply below_alloc | apply pw_below_drewN | apply below_drew1) | exact HB.out))) : w.heap.size ≤ gb261)); have n3_ := Aside0.mk ((by rw [hg]; exact (below_size (by repeat (first | (with_reducible first | exact HB.out | apply below_alloc | apply pw_below_drewN | apply below_drew1) | exact HB.out))) : w.heap.size ≤ gb261)); clear HB; have HB := n0_; have BK261 := n1_; have GW261 := n2_; have GE261 := n3_; clear n0_ n1_ n2_ n3_; clear hb hbox hg) | ((with_reducible refine gate_dst (N := 3) rfl ?_); refine box_event ?hg (N := 3) ?hd (cs := #[.int .i64 a1_0, .bool a1_1]) (t := 29) ?hr ?_; (case hd => rfl); (case hg => rfl); (case hr => first | (go_simp; done) | (go_simp; rfl)); intro gb262 hg w16 hbox hb; have n0_ := Aside0.mk (blk_below (g := gb261) (o := .cells #[.int .i64 a0_0, .bool a0_1] 29 (0, 0)) (by (with_reducible repeat (first | refine blk_drewN ?_ _ | refine blk_drew ?_ | refine blk_alloc ?_ _)); exact BK261.out) hb); have n1_ := Aside0.mk (below_step (by repeat (first | (with_reducible first | exact HB.out | apply below_alloc | apply pw_below_drewN | apply below_drew1 | refine below_set ?_ GE261.out) | exact HB.out)) hb); have n2_ := Aside0.mk (hbox); have n3_ := Aside0.mk ((by rw [hg]; exact (below_size (by repeat (first | (with_reducible first | exact HB.out | apply below_alloc | apply pw_below_drewN | apply below_drew1 | refine below_set ?_ GE261.out) | exact HB.out))) : w.heap.size ≤ gb262)); have n4_ := Aside0.mk ((by rw [hg]; exact (below_size (by repeat (first | (with_reducible first | exact HB.out | apply below_alloc | apply pw_below_drewN | apply below_drew1 | refine below_set ?_ GE261.out) | exact HB.out))) : w.heap.size ≤ gb262)); have n5_ := Aside0.mk ((by rw [hg]; exact Nat.ne_of_lt (blk_lt (g := gb261) (o := .cells #[.int .i64 a0_0, .bool a0_1] 29 (0, 0)) (by (with_reducible repeat (first | refine blk_drewN ?_ _ | refine blk_drew ?_ | refine blk_alloc ?_ _)); exact BK261.out)) : gb261 ≠ gb262)); have n6_ := Aside0.mk ((by rw [hg]; exact Nat.ne_of_gt (blk_lt (g := gb261) (o := .cells #[.int .i64 a0_0, .bool a0_1] 29 (0, 0)) (by (with_reducible repeat (first | refine blk_drewN ?_ _ | refine blk_drew ?_ | refine blk_alloc ?_ _)); exact BK261.out)) : gb262 ≠ gb261)); clear BK261; clear HB; have BK261 := n0_; have HB := n1_; have BK262 := n2_; have GW262 := n3_; have GE262 := n4_; have NB261_262 := n5_; have NB262_261 := n6_; clear n0_ n1_ n2_ n3_ n4_ n5_ n6_; clear hb hbox hg; have hnb17 := NB261_262.out; have hnc17 := NB262_261.out; have hcz18_0 : w16.cell? ⟨gb261, 0, none⟩ = some (.int .i64 a0_0) := (blk_cell BK261.out 0).trans rfl; have hcz18_1 : w16.cell? ⟨gb261, 1, none⟩ = some (.bool a0_1) := (blk_cell BK261.out 1).trans rfl; have hfz18_0 := blk_frozen BK261.out 0; have hfz18_1 := blk_frozen BK261.out 1; have hcz19_0 : w16.cell? ⟨gb262, 0, none⟩ = some (.int .i64 a1_0) := (blk_cell BK262.out 0).trans rfl; have hcz19_1 : w16.cell? ⟨gb262, 1, none⟩ = some (.bool a1_1) := (blk_cell BK262.out 1).trans rfl; have hfz19_0 := blk_frozen BK262.out 0; have hfz19_1 := blk_frozen BK262.out 1))
  go_ret
  exact ⟨by first | rfl | (simp [errW_none, errW_some] <;> rfl) | (simp [*, errW_none, errW_some] <;> rfl), by repeat (first | (with_reducible first | exact HB.out | apply below_alloc | apply pw_below_drewN | apply below_drew1 | refine below_set ?_ GE261.out | refine below_set ?_ GE262.out) | exact HB.out)⟩

end Go.Proofs.YtiagfjbngpbejaaDoor.PFnExactSingBest
namespace Go.Proofs.YtiagfjbngpbejaaDoor.PFnExactSingBest
open Go.RowKit Go.Proofs.YtiagfjbngpbejaaDoorW.PrintWords Go.Proofs.YtiagfjbngpbejaaDoorW.PrintLast Go.Proofs.YtiagfjbngpbejaaDoorW.PrintMore
attribute [local go_sem] max2_int min2_int max_two min_two max_three min_three max_four min_four   -- for this text's walks alone
set_option linter.unusedVariables false
set_option linter.unusedSimpArgs false

def laws_eqToneS.l0 : Nat → List (S29) → List (S29) → Int → Option (Bool)
 | 0, _, _, _ => none
 | k + 1, x0, x1, x5 => if x5 < (x0.length : Int) then (if 0 ≤ x5 then (if x5 < (x1.length : Int) then ((laws_eqTone.f ((rd_T29 x0 x5).f0) ((rd_T29 x0 x5).f1) ((rd_T29 x1 x5).f0) ((rd_T29 x1 x5).f1)).bind fun t265 => (if t265 = true then (laws_eqToneS.l0 k x0 x1 (wrap64 (x5 + 1))) else (some false))) else (none)) else (none)) else (some true)
def laws_eqToneS.f (k : Nat) (l0 : List (S29)) (l1 : List (S29)) : Option (Bool) := if (l0.length : Int) = (l1.length : Int) then (laws_eqToneS.l0 k l0 l1 0) else (some false)
def laws_eqToneS.T6 : Bool × List (List Nat × List Nat) := (true, [([], []), ([], []), ([0, 1], [0, 1]), ([2], [2]), ([], []), ([], []), ([4, 5], [4, 5]), ([6], [6]), ([3, 7], [3, 7]), ([8], [8])])
def laws_eqToneS.B6 : List Nat := [0, 0, 3, 7, 0, 0, 48, 112, 255, 511]
theorem laws_eqToneS.tab6 : rtab .any (opsOf Tryd.f14 6) = laws_eqToneS.T6 := by kernel_rfl
theorem laws_eqToneS.bits6 : waitsOk laws_eqToneS.T6.2 laws_eqToneS.B6 = true := by kernel_rfl
set_option maxHeartbeats 8000000 in
set_option maxRecDepth 100000 in
theorem laws_eqToneS.calls (k : Nat) (A0 : Option Addr) (c0 : Nat) (l0 : List (S29)) (A1 : Option Addr) (c1 : Nat) (l1 : List (S29)) (r : Bool) (w : World) (hr0 : Kd.C k29 w A0 l0.length l0) (hc0 : l0.length ≤ c0) (hr1 : Kd.C k29 w A1 l1.length l1) (hc1 : l1.length ≤ c1) (h : laws_eqToneS.f k l0 l1 = some r) :
 Calls Tryd.prog 14 #[.slice A0 l0.length c0, .slice A1 l1.length c1] w fun e w' => e = .returned (.bool r) ∧ Below w.heap.size w w' := by
 have hu29 := Tryd.underlying29; have HR0 := Aside0.mk hr0; have HC0 := Aside0.mk hc0; clear hr0 hc0; have HR1 := Aside0.mk hr1; have HC1 := Aside0.mk hc1; clear hr1 hc1; have HB := Aside0.mk (Below.refl w.heap.size w); have H : (if (l0.length : Int) = (l1.length : Int) then (laws_eqToneS.l0 k l0 l1 0) else (some false)) = some r := h; clear h; by_cases c3 : (l0.length : Int) = (l1.length : Int)
 ·
  rw [if_pos c3] at H; have c3b0 : ((l0.length : Int) == (l1.length : Int)) = true := beq_iff_eq.mpr c3; have c3b1 : ((l0.length : Int) != (l1.length : Int)) = false := bne_eq_false_iff_eq.mpr c3; have c3b2 : (l0.length == l1.length) = true := by first | simpa using c3 | (simp at c3 ⊢; omega)
  clear c3; have H' := Aside0.mk H; clear H; go_enter Tryd.func14, Tryd.ntmps14
  go_wp2; go_loopg [5] k (fun kq v5 w' => ∃ (x5_1 : Int), v5 = .int .i64 x5_1 ∧ Aside0 (laws_eqToneS.l0 kq l0 l1 x5_1 = some r) ∧ Aside0 (kq ≤ k) ∧ Aside0 (Below w.heap.size w w'))
  case atStart => exact ⟨(0), (by first | rfl | (simp; done) | (simp [*]; done)), H', ⟨Nat.le_refl _⟩, ⟨by repeat (first | (with_reducible first | exact HB.out | apply below_alloc | apply pw_below_drewN | apply below_drew1) | exact HB.out)⟩⟩
  case round =>
   clear H'; try clear c1
   try clear p2
   try clear c3
   try clear c3b0
   try clear c3b1
   try clear c3b2
   obtain ⟨x5_1, rfl, HA, HK1, HB⟩ := hrel; cases gk with
   | zero => exact absurd HA.out (by simp [laws_eqToneS.l0])
   | succ k1 =>
    have H := HA.out; clear HA; simp only [laws_eqToneS.l0] at H; by_cases c4 : x5_1 < (l0.length : Int)
    ·
     rw [if_pos c4] at H; have c4b0 : decide (x5_1 < (l0.length : Int)) = true := decide_eq_true c4; clear c4; by_cases c5 : 0 ≤ x5_1
     ·
      rw [if_pos c5] at H; have c5b0 : decide (0 ≤ x5_1) = true := decide_eq_true c5; clear c5; by_cases c6 : x5_1 < (l1.length : Int)
      ·
       rw [if_pos c6] at H; have c6b0 : decide (x5_1 < (l1.length : Int)) = true := decide_eq_true c6; clear c6; replace H := Option.bind_eq_some_iff.mp H; obtain ⟨t265, A70, H⟩ := H; replace H : (if t265 = true then (laws_eqToneS.l0 k1 l0 l1 (wrap64 (x5_1 + 1))) else (some false)) = some r := H; have A7 := Aside0.mk A70; clear A70; by_cases c8 : t265 = true
       ·
        subst c8; have H1 : (laws_eqToneS.l0 k1 l0 l1 (wrap64 (x5_1 + 1))) = some r := by rw [if_pos rfl] at H; exact H
        clear H; have H := H1; clear H1; have H' := Aside0.mk H; clear H; try go_wp2
        have n0_ := Aside0.mk (below_drew1 HB.out); clear HB; have HB := n0_; clear n0_; have p263 : 0 ≤ (x5_1 : Int) := of_decide_eq_true (by first | (with_reducible assumption) | assumption); have q263 : x5_1 < (l0.length : Int) := of_decide_eq_true (by first | (with_reducible assumption) | assumption); obtain ⟨ad263, e263, hx263_0, hx263_1⟩ := at_T29 HR0.out x5_1 p263 q263; have hw263_1 := hx263_1; have hw263_0 := hx263_0; cases e263; replace hx263_0 := (HB.out.cell (World.block_lt_of_cell? w _ hx263_0)).trans hx263_0; replace hx263_1 := (HB.out.cell (World.block_lt_of_cell? w _ hx263_1)).trans hx263_1; replace p263 := eq_true p263; replace q263 := eq_true q263; have p264 : 0 ≤ (x5_1 : Int) := of_decide_eq_true (by first | (with_reducible assumption) | assumption); have q264 : x5_1 < (l1.length : Int) := of_decide_eq_true (by first | (with_reducible assumption) | assumption); obtain ⟨ad264, e264, hx264_0, hx264_1⟩ := at_T29 HR1.out x5_1 p264 q264; have hw264_1 := hx264_1; have hw264_0 := hx264_0; cases e264; replace hx264_0 := (HB.out.cell (World.block_lt_of_cell? w _ hx264_0)).trans hx264_0; replace hx264_1 := (HB.out.cell (World.block_lt_of_cell? w _ hx264_1)).trans hx264_1; replace p264 := eq_true p264; replace q264 := eq_true q264; refine start_ (n := 10) (S := fun w' => w'.cell? (ad263.add ((x5_1).toNat * 2)) = some (.int .i64 ((rd_T29 l0 x5_1).f0)) ∧ w'.cell? ⟨(ad263.add ((x5_1).toNat * 2)).block, (ad263.add ((x5_1).toNat * 2)).off + 1, none⟩ = some (.bool ((rd_T29 l0 x5_1).f1)) ∧ w'.cell? (ad264.add ((x5_1).toNat * 2)) = some (.int .i64 ((rd_T29 l1 x5_1).f0)) ∧ w'.cell? ⟨(ad264.add ((x5_1).toNat * 2)).block, (ad264.add ((x5_1).toNat * 2)).off + 1, none⟩ = some (.bool ((rd_T29 l1 x5_1).f1))) (ds := []) (rowB 10 0) (by kernel_rfl) rfl rfl ⟨((HB.out.cell (World.block_lt_of_cell? w _ hw263_0)).trans hw263_0), ((HB.out.cell (World.block_lt_of_cell? w _ hw263_1)).trans hw263_1), ((HB.out.cell (World.block_lt_of_cell? w _ hw264_0)).trans hw264_0), ((HB.out.cell (World.block_lt_of_cell? w _ hw264_1)).trans hw264_1)⟩ (fun hHeld => ?_); refine with_tabW laws_eqToneS.tab6 laws_eqToneS.bits6 (fun HT_ HW_ => ?_); generalize wr.drew = w9 at HB hx263_0 hx263_1 hx264_0 hx264_1 hHeld ⊢; refine pure_ (i := 0) (N := some 17) (v := ?_) (a' := ?_) (rowB 10 1) rfl rfl (any_of HT_.out (by kernel_rfl)) (fun _ _ _ h => h) (Or.inl ⟨by rfl, ?_⟩) ?_ ?_; rotate_left; (· intro w'; go_simp; with_reducible rfl); rotate_left; (· simp only [Act.put, List.setIfInBounds_toArray, List.set_cons_zero, List.set_cons_succ, i64_w, i32_w]; rfl); refine pure_ (i := 1) (N := some 18) (v := ?_) (a' := ?_) (rowB 10 3) rfl rfl (any_of HT_.out (by kernel_rfl)) (fun _ _ _ h => h) (Or.inl ⟨by rfl, ?_⟩) ?_ ?_; rotate_left; (· intro w'; go_simp; with_reducible rfl); rotate_left; (· simp only [Act.put, List.setIfInBounds_toArray, List.set_cons_zero, List.set_cons_succ, i64_w, i32_w]; rfl); refine pure_ (i := 2) (N := some 19) (v := ?_) (a' := ?_) (rowB 10 7) rfl rfl (any_of HT_.out (by kernel_rfl)) (fun _ _ _ h => h) (Or.inl ⟨by rfl, ?_⟩) ?_ ?_; rotate_left; (· intro w'; go_simp; with_reducible rfl); rotate_left; (· simp only [Act.put, List.setIfInBounds_toArray, List.set_cons_zero, List.set_cons_succ, i64_w, i32_w]; rfl); refine pure_ (i := 4) (N := some 21) (v := ?_) (a' := ?_) (rowB 10 23) rfl rfl (any_of HT_.out (by kernel_rfl)) (fun _ _ _ h => h) (Or.inl ⟨by rfl, ?_⟩) ?_ ?_; rotate_left; (· intro w'; go_simp; with_reducible rfl); rotate_left; (· simp only [Act.put, List.setIfInBounds_toArray, List.set_cons_zero, List.set_cons_succ, i64_w, i32_w]; rfl); refine pure_ (i := 5) (N := some 22) (v := ?_) (a' := ?_) (rowB 10 55) rfl rfl (any_of HT_.out (by kernel_rfl)) (fun _ _ _ h => h) (Or.inl ⟨by rfl, ?_⟩) ?_ ?_; rotate_left; (· intro w'; go_simp; with_reducible rfl); rotate_left; (· simp only [Act.put, List.setIfInBounds_toArray, List.set_cons_zero, List.set_cons_succ, i64_w, i32_w]; rfl); refine pure_ (i := 6) (N := some 23) (v := ?_) (a' := ?_) (rowB 10 119) rfl rfl (any_of HT_.out (by kernel_rfl)) (fun _ _ _ h => h) (Or.inl ⟨by rfl, ?_⟩) ?_ ?_; rotate_left; (· intro w'; go_simp; with_reducible rfl); rotate_left; (· simp only [Act.put, List.setIfInBounds_toArray, List.set_cons_zero, List.set_cons_succ, i64_w, i32_w]; rfl); refine take_ (i := 3) (N := some 20) (v := ?_) (a' := ?_) (rowB 10 127) rfl rfl (take_ofW HT_.out HW_.out (by kernel_rfl)) (fun _ _ _ h => h) (Or.inl ⟨by rfl, ?_⟩) hHeld ?_ ?_; rotate_left; (· rintro w' ⟨s0, s1, s2, s3⟩; go_simp; with_reducible rfl); rotate_left; (· simp only [Act.put, List.setIfInBounds_toArray, List.set_cons_zero, List.set_cons_succ, i64_w, i32_w]; rfl); refine take_ (i := 7) (N := some 24) (v := ?_) (a' := ?_) (rowB 10 255) rfl rfl (take_ofW HT_.out HW_.out (by kernel_rfl)) (fun _ _ _ h => h) (Or.inl ⟨by rfl, ?_⟩) hHeld ?_ ?_; rotate_left; (· rintro w' ⟨s0, s1, s2, s3⟩; go_simp; with_reducible rfl); rotate_left; (· simp only [Act.put, List.setIfInBounds_toArray, List.set_cons_zero, List.set_cons_succ, i64_w, i32_w]; rfl); refine one_ (i := 8) (N := some 25) (rowB 10 511) rfl rfl (one_of HT_.out (by kernel_rfl)) (by decide) (fun K hK => ?_); refine goes_ Tryd.func29 (by kernel_rfl) rfl #[.agg #[.int .i64 ((rd_T29 l0 x5_1).f0), .bool ((rd_T29 l0 x5_1).f1)], .agg #[.int .i64 ((rd_T29 l1 x5_1).f0), .bool ((rd_T29 l1 x5_1).f1)]] (by rfl) rfl rfl (by (try simp only [List.map_toArray, List.map_cons, List.map_nil]); first | done | rfl | (simp only [List.length_drop, List.length_take]; rfl)) ?_; with_reducible refine (laws_eqTone.calls ((rd_T29 l0 x5_1).f0) ((rd_T29 l0 x5_1).f1) ((rd_T29 l1 x5_1).f0) ((rd_T29 l1 x5_1).f1) true _ A7.out).mono ?_
        rintro e w10 ⟨rfl, hb⟩; refine ⟨_, rfl, ?_⟩; have n0_ := Aside0.mk (below_step (by repeat (first | (with_reducible first | exact HB.out | apply below_alloc | apply pw_below_drewN | apply below_drew1) | exact HB.out)) hb); clear HB; have HB := n0_; clear n0_; (try clear hb)
        (try clear hb2)
        (try clear hk)
        (try clear hi)
        refine hK.out _ _ ⟨((HB.out.cell (World.block_lt_of_cell? w _ hw263_0)).trans hw263_0), ((HB.out.cell (World.block_lt_of_cell? w _ hw263_1)).trans hw263_1), ((HB.out.cell (World.block_lt_of_cell? w _ hw264_0)).trans hw264_0), ((HB.out.cell (World.block_lt_of_cell? w _ hw264_1)).trans hw264_1)⟩ (fun hHeld => ?_); clear hK K; refine norm_ (a' := ?_) ?_ ?_; rotate_left; (· show Act.put _ (some 25) _ = _; simp only [Act.put, List.setIfInBounds_toArray, List.set_cons_zero, List.set_cons_succ, i64_w, i32_w]; rfl); refine pure_ (i := 9) (N := some 26) (v := ?_) (a' := ?_) (rowB 10 1023) rfl rfl (any_of HT_.out (by kernel_rfl)) (fun _ _ _ h => h) (Or.inl ⟨by rfl, ?_⟩) ?_ ?_; rotate_left; (· intro w'; go_simp; with_reducible rfl); rotate_left; (· simp only [Act.put, List.setIfInBounds_toArray, List.set_cons_zero, List.set_cons_succ, i64_w, i32_w]; rfl); refine done_ (done_of HT_.out (by kernel_rfl)) ?_; try go_wp2
        go_roundg k1
        case measure => have := HK1.out; omega
        case rel => exact ⟨(wrap64 (x5_1 + 1)), (by first | rfl | (simp; done) | (simp [*]; done)), H', ⟨by have := HK1.out; omega⟩, ⟨by repeat (first | (with_reducible first | exact HB.out | apply below_alloc | apply pw_below_drewN | apply below_drew1) | exact HB.out)⟩⟩
       ·
        replace c8 := Bool.eq_false_iff.mpr c8; subst c8; have H1 : (some false) = some r := by rw [if_neg (show ¬ (false = true) by decide)] at H; exact H
        clear H; have H := H1; clear H1; obtain rfl := Option.some.inj H; try go_wp2
        have n0_ := Aside0.mk (below_drew1 HB.out); clear HB; have HB := n0_; clear n0_; have p263 : 0 ≤ (x5_1 : Int) := of_decide_eq_true (by first | (with_reducible assumption) | assumption); have q263 : x5_1 < (l0.length : Int) := of_decide_eq_true (by first | (with_reducible assumption) | assumption); obtain ⟨ad263, e263, hx263_0, hx263_1⟩ := at_T29 HR0.out x5_1 p263 q263; have hw263_1 := hx263_1; have hw263_0 := hx263_0; cases e263; replace hx263_0 := (HB.out.cell (World.block_lt_of_cell? w _ hx263_0)).trans hx263_0; replace hx263_1 := (HB.out.cell (World.block_lt_of_cell? w _ hx263_1)).trans hx263_1; replace p263 := eq_true p263; replace q263 := eq_true q263; have p264 : 0 ≤ (x5_1 : Int) := of_decide_eq_true (by first | (with_reducible assumption) | assumption); have q264 : x5_1 < (l1.length : Int) := of_decide_eq_true (by first | (with_reducible assumption) | assumption); obtain ⟨ad264, e264, hx264_0, hx264_1⟩ := at_T29 HR1.out x5_1 p264 q264; have hw264_1 := hx264_1; have hw264_0 := hx264_0; cases e264; replace hx264_0 := (HB.out.cell (World.block_lt_of_cell? w _ hx264_0)).trans hx264_0; replace hx264_1 := (HB.out.cell (World.block_lt_of_cell? w _ hx264_1)).trans hx264_1; replace p264 := eq_true p264; replace q264 := eq_true q264; refine start_ (n := 10) (S := fun w' => w'.cell? (ad263.add ((x5_1).toNat * 2)) = some (.int .i64 ((rd_T29 l0 x5_1).f0)) ∧ w'.cell? ⟨(ad263.add ((x5_1).toNat * 2)).block, (ad263.add ((x5_1).toNat * 2)).off + 1, none⟩ = some (.bool ((rd_T29 l0 x5_1).f1)) ∧ w'.cell? (ad264.add ((x5_1).toNat * 2)) = some (.int .i64 ((rd_T29 l1 x5_1).f0)) ∧ w'.cell? ⟨(ad264.add ((x5_1).toNat * 2)).block, (ad264.add ((x5_1).toNat * 2)).off + 1, none⟩ = some (.bool ((rd_T29 l1 x5_1).f1))) (ds := []) (rowB 10 0) (by kernel_rfl) rfl rfl ⟨((HB.out.cell (World.block_lt_of_cell? w _ hw263_0)).trans hw263_0), ((HB.out.cell (World.block_lt_of_cell? w _ hw263_1)).trans hw263_1), ((HB.out.cell (World.block_lt_of_cell? w _ hw264_0)).trans hw264_0), ((HB.out.cell (World.block_lt_of_cell? w _ hw264_1)).trans hw264_1)⟩ (fun hHeld => ?_); refine with_tabW laws_eqToneS.tab6 laws_eqToneS.bits6 (fun HT_ HW_ => ?_); generalize wr.drew = w11 at HB hx263_0 hx263_1 hx264_0 hx264_1 hHeld ⊢; refine pure_ (i := 0) (N := some 17) (v := ?_) (a' := ?_) (rowB 10 1) rfl rfl (any_of HT_.out (by kernel_rfl)) (fun _ _ _ h => h) (Or.inl ⟨by rfl, ?_⟩) ?_ ?_; rotate_left; (· intro w'; go_simp; with_reducible rfl); rotate_left; (· simp only [Act.put, List.setIfInBounds_toArray, List.set_cons_zero, List.set_cons_succ, i64_w, i32_w]; rfl); refine pure_ (i := 1) (N := some 18) (v := ?_) (a' := ?_) (rowB 10 3) rfl rfl (any_of HT_.out (by kernel_rfl)) (fun _ _ _ h => h) (Or.inl ⟨by rfl, ?_⟩) ?_ ?_; rotate_left; (· intro w'; go_simp; with_reducible rfl); rotate_left; (· simp only [Act.put, List.setIfInBounds_toArray, List.set_cons_zero, List.set_cons_succ, i64_w, i32_w]; rfl); refine pure_ (i := 2) (N := some 19) (v := ?_) (a' := ?_) (rowB 10 7) rfl rfl (any_of HT_.out (by kernel_rfl)) (fun _ _ _ h => h) (Or.inl ⟨by rfl, ?_⟩) ?_ ?_; rotate_left; (· intro w'; go_simp; with_reducible rfl); rotate_left; (· simp only [Act.put, List.setIfInBounds_toArray, List.set_cons_zero, List.set_cons_succ, i64_w, i32_w]; rfl); refine pure_ (i := 4) (N := some 21) (v := ?_) (a' := ?_) (rowB 10 23) rfl rfl (any_of HT_.out (by kernel_rfl)) (fun _ _ _ h => h) (Or.inl ⟨by rfl, ?_⟩) ?_ ?_; rotate_left; (· intro w'; go_simp; with_reducible rfl); rotate_left; (· simp only [Act.put, List.setIfInBounds_toArray, List.set_cons_zero, List.set_cons_succ, i64_w, i32_w]; rfl); refine pure_ (i := 5) (N := some 22) (v := ?_) (a' := ?_) (rowB 10 55) rfl rfl (any_of HT_.out (by kernel_rfl)) (fun _ _ _ h => h) (Or.inl ⟨by rfl, ?_⟩) ?_ ?_; rotate_left; (· intro w'; go_simp; with_reducible rfl); rotate_left; (· simp only [Act.put, List.setIfInBounds_toArray, List.set_cons_zero, List.set_cons_succ, i64_w, i32_w]; rfl); refine pure_ (i := 6) (N := some 23) (v := ?_) (a' := ?_) (rowB 10 119) rfl rfl (any_of HT_.out (by kernel_rfl)) (fun _ _ _ h => h) (Or.inl ⟨by rfl, ?_⟩) ?_ ?_; rotate_left; (· intro w'; go_simp; with_reducible rfl); rotate_left; (· simp only [Act.put, List.setIfInBounds_toArray, List.set_cons_zero, List.set_cons_succ, i64_w, i32_w]; rfl); refine take_ (i := 3) (N := some 20) (v := ?_) (a' := ?_) (rowB 10 127) rfl rfl (take_ofW HT_.out HW_.out (by kernel_rfl)) (fun _ _ _ h => h) (Or.inl ⟨by rfl, ?_⟩) hHeld ?_ ?_; rotate_left; (· rintro w' ⟨s0, s1, s2, s3⟩; go_simp; with_reducible rfl); rotate_left; (· simp only [Act.put, List.setIfInBounds_toArray, List.set_cons_zero, List.set_cons_succ, i64_w, i32_w]; rfl); refine take_ (i := 7) (N := some 24) (v := ?_) (a' := ?_) (rowB 10 255) rfl rfl (take_ofW HT_.out HW_.out (by kernel_rfl)) (fun _ _ _ h => h) (Or.inl ⟨by rfl, ?_⟩) hHeld ?_ ?_; rotate_left; (· rintro w' ⟨s0, s1, s2, s3⟩; go_simp; with_reducible rfl); rotate_left; (· simp only [Act.put, List.setIfInBounds_toArray, List.set_cons_zero, List.set_cons_succ, i64_w, i32_w]; rfl); refine one_ (i := 8) (N := some 25) (rowB 10 511) rfl rfl (one_of HT_.out (by kernel_rfl)) (by decide) (fun K hK => ?_); refine goes_ Tryd.func29 (by kernel_rfl) rfl #[.agg #[.int .i64 ((rd_T29 l0 x5_1).f0), .bool ((rd_T29 l0 x5_1).f1)], .agg #[.int .i64 ((rd_T29 l1 x5_1).f0), .bool ((rd_T29 l1 x5_1).f1)]] (by rfl) rfl rfl (by (try simp only [List.map_toArray, List.map_cons, List.map_nil]); first | done | rfl | (simp only [List.length_drop, List.length_take]; rfl)) ?_; with_reducible refine (laws_eqTone.calls ((rd_T29 l0 x5_1).f0) ((rd_T29 l0 x5_1).f1) ((rd_T29 l1 x5_1).f0) ((rd_T29 l1 x5_1).f1) false _ A7.out).mono ?_
        rintro e w12 ⟨rfl, hb⟩; refine ⟨_, rfl, ?_⟩; have n0_ := Aside0.mk (below_step (by repeat (first | (with_reducible first | exact HB.out | apply below_alloc | apply pw_below_drewN | apply below_drew1) | exact HB.out)) hb); clear HB; have HB := n0_; clear n0_; (try clear hb)
        (try clear hb2)
        (try clear hk)
        (try clear hi)
        refine hK.out _ _ ⟨((HB.out.cell (World.block_lt_of_cell? w _ hw263_0)).trans hw263_0), ((HB.out.cell (World.block_lt_of_cell? w _ hw263_1)).trans hw263_1), ((HB.out.cell (World.block_lt_of_cell? w _ hw264_0)).trans hw264_0), ((HB.out.cell (World.block_lt_of_cell? w _ hw264_1)).trans hw264_1)⟩ (fun hHeld => ?_); clear hK K; refine norm_ (a' := ?_) ?_ ?_; rotate_left; (· show Act.put _ (some 25) _ = _; simp only [Act.put, List.setIfInBounds_toArray, List.set_cons_zero, List.set_cons_succ, i64_w, i32_w]; rfl); refine pure_ (i := 9) (N := some 26) (v := ?_) (a' := ?_) (rowB 10 1023) rfl rfl (any_of HT_.out (by kernel_rfl)) (fun _ _ _ h => h) (Or.inl ⟨by rfl, ?_⟩) ?_ ?_; rotate_left; (· intro w'; go_simp; with_reducible rfl); rotate_left; (· simp only [Act.put, List.setIfInBounds_toArray, List.set_cons_zero, List.set_cons_succ, i64_w, i32_w]; rfl); refine done_ (done_of HT_.out (by kernel_rfl)) ?_; try go_wp2
        go_ret
        exact ⟨by first | rfl | (simp [errW_none, errW_some] <;> rfl) | (simp [*, errW_none, errW_some] <;> rfl), by repeat (first | (with_reducible first | exact HB.out | apply below_alloc | apply pw_below_drewN | apply below_drew1) | exact HB.out)⟩
      ·
       rw [if_neg c6] at H; exact absurd H (by simp)
     ·
      rw [if_neg c5] at H; exact absurd H (by simp)
    ·
     rw [if_neg c4] at H; have c4b0 : decide (x5_1 < (l0.length : Int)) = false := decide_eq_false c4; clear c4; obtain rfl := Option.some.inj H; go_wp2; go_ret
     exact ⟨by first | rfl | (simp [errW_none, errW_some] <;> rfl) | (simp [*, errW_none, errW_some] <;> rfl), by repeat (first | (with_reducible first | exact HB.out | apply below_alloc | apply pw_below_drewN | apply below_drew1) | exact HB.out)⟩
 ·
  rw [if_neg c3] at H; have c3b0 : ((l0.length : Int) == (l1.length : Int)) = false := beq_eq_false_iff_ne.mpr c3; have c3b1 : ((l0.length : Int) != (l1.length : Int)) = true := bne_iff_ne.mpr c3; have c3b2 : (l0.length == l1.length) = false := by first | simpa using c3 | (simp at c3 ⊢; omega)
  obtain rfl := Option.some.inj H; go_enter Tryd.func14, Tryd.ntmps14
  go_wp2; go_ret
  exact ⟨by first | rfl | (simp [errW_none, errW_some] <;> rfl) | (simp [*, errW_none, errW_some] <;> rfl), by repeat (first | (with_reducible first | exact HB.out | apply below_alloc | apply pw_below_drewN | apply below_drew1) | exact HB.out)⟩

end Go.Proofs.YtiagfjbngpbejaaDoor.PFnExactSingBest
namespace Go.Proofs.YtiagfjbngpbejaaDoor.PFnExactSingBest
open Go.RowKit Go.Proofs.YtiagfjbngpbejaaDoorW.PrintWords Go.Proofs.YtiagfjbngpbejaaDoorW.PrintLast Go.Proofs.YtiagfjbngpbejaaDoorW.PrintMore
attribute [local go_sem] max2_int min2_int max_two min_two max_three min_three max_four min_four   -- for this text's walks alone
set_option linter.unusedVariables false
set_option linter.unusedSimpArgs false

def laws_markToneS.l0 : Nat → List (S29) → Int → Int → Option (Int × (List (S29)))
 | 0, _, _, _ => none
 | k + 1, x0, x1, x5 => if x5 < (x0.length : Int) then (if 0 ≤ x5 then ((some (x0.set (x5 : Int).toNat (⟨x1, (rd_T29 x0 x5).f1⟩ : S29) : List (S29))).bind fun y266 => (laws_markToneS.l0 k (y266.set (x5 : Int).toNat (⟨(rd_T29 y266 x5).f0, ((Int.tmod (wrap64 (x1 + 1)) 3) == 0)⟩ : S29)) (wrap64 ((wrap64 (x1 + 1)) + 1)) (wrap64 (x5 + 1)))) else (none)) else (some (x1, x0))
def laws_markToneS.f (k : Nat) (l0 : List (S29)) (a1 : Int) : Option (Int × (List (S29))) := laws_markToneS.l0 k l0 a1 0
set_option maxHeartbeats 8000000 in
set_option maxRecDepth 100000 in
theorem laws_markToneS.calls (k : Nat) (P0_ : Nat → Prop) (u9000_ : Value) (l0 : List (S29)) (a1 : Int) (r1 : Int) (r2 : List (S29)) (w0 w : World) (hB : Below w0.heap.size w0 w) (ho0 : Kd.R k29 29 w w0.heap.size P0_ u9000_ l0) (h : laws_markToneS.f k l0 a1 = some (r1, r2)) :
 Calls Tryd.prog 15 #[u9000_, .int .i64 a1] w fun e w' => e = .returned (.int .i64 r1) ∧ Kd.R k29 29 w' w0.heap.size (fun k_ => (P0_ k_ ∨ w.heap.size ≤ k_)) u9000_ r2 ∧ Below w0.heap.size w0 w' ∧ Kept w w' (fun k_ => P0_ k_) := by
 have HO0 := Aside0.mk (show Kd.R k29 29 w w0.heap.size (fun k_ => (P0_ k_ ∨ w.heap.size ≤ k_)) u9000_ l0 from Kd.R_mono ho0 (fun k_ hk => (.inl hk))); have HK := Aside0.mk (Kept.refl w (fun k_ => P0_ k_)); have HW0 := Aside0.mk hB.size; have HB := Aside0.mk hB; clear hB; have H : (laws_markToneS.l0 k l0 a1 0) = some (r1, r2) := h; clear h; have H' := Aside0.mk H; clear H; go_enter Tryd.func15, Tryd.ntmps15
 go_wp2; go_loopg [1, 5] k (fun kq v1 v5 w' => ∃ (x0_1 : List (S29)) (x1_1 : Int) (x5_1 : Int), v1 = .int .i64 x1_1 ∧ v5 = .int .i64 x5_1 ∧ Aside0 (laws_markToneS.l0 kq x0_1 x1_1 x5_1 = some (r1, r2)) ∧ Aside0 (kq ≤ k) ∧ Aside0 (Kd.R k29 29 w' w0.heap.size (fun k_ => (P0_ k_ ∨ w.heap.size ≤ k_)) u9000_ x0_1) ∧ Aside0 (Kept w w' (fun k_ => P0_ k_)) ∧ Aside0 (Below w0.heap.size w0 w'))
 case atStart => exact ⟨(l0), (a1), (0), (by first | rfl | (simp; done) | (simp [*]; done)), (by first | rfl | (simp; done) | (simp [*]; done)), H', ⟨Nat.le_refl _⟩, ⟨by (with_reducible repeat (first | apply Kd.R_alloc | apply Kd.R_drewN | apply Kd.R_drew)); exact HO0.out⟩, ⟨by repeat (first | (with_reducible first | exact HK.out | apply Kept.alloc | apply Kept.drewN | apply Kept.drew) | exact HK.out)⟩, ⟨by repeat (first | (with_reducible first | exact HB.out | apply below_alloc | apply pw_below_drewN | apply below_drew1) | exact HB.out)⟩⟩
 case round =>
  clear H'; try clear c1
  try clear p2
  obtain ⟨x0_1, x1_1, x5_1, rfl, rfl, HA, HK1, HO_0, HK, HB⟩ := hrel; cases gk with
  | zero => exact absurd HA.out (by simp [laws_markToneS.l0])
  | succ k1 =>
   have H := HA.out; clear HA; simp only [laws_markToneS.l0] at H; by_cases c3 : x5_1 < (x0_1.length : Int)
   ·
    rw [if_pos c3] at H; have c3b0 : decide (x5_1 < (x0_1.length : Int)) = true := decide_eq_true c3; clear c3; by_cases c4 : 0 ≤ x5_1
    ·
     rw [if_pos c4] at H; have c4b0 : decide (0 ≤ x5_1) = true := decide_eq_true c4; clear c4; obtain ⟨y266, hy266⟩ : ∃ y_ : List (S29), y_ = (x0_1.set (x5_1 : Int).toNat (⟨x1_1, (rd_T29 x0_1 x5_1).f1⟩ : S29)) := ⟨_, rfl⟩
     replace H : (laws_markToneS.l0 k1 (y266.set (x5_1 : Int).toNat (⟨(rd_T29 y266 x5_1).f0, ((Int.tmod (wrap64 (x1_1 + 1)) 3) == 0)⟩ : S29)) (wrap64 ((wrap64 (x1_1 + 1)) + 1)) (wrap64 (x5_1 + 1))) = some (r1, r2) := by first | (rw [hy266]; with_reducible exact H) | (have H2_ := (Option.bind_some _ _).symm.trans H; rw [hy266]; with_reducible exact H2_) | (have H2_ := (Option.bind_some _ _).symm.trans H; with_reducible exact H2_) | with_reducible exact H | (rw [hy266]; exact H) | exact H
     have Ny266 := Aside0.mk hy266; clear hy266; obtain ⟨y267, hy267⟩ : ∃ y_ : List (S29), y_ = (y266.set (x5_1 : Int).toNat (⟨(rd_T29 y266 x5_1).f0, ((Int.tmod (wrap64 (x1_1 + 1)) 3) == 0)⟩ : S29)) := ⟨_, rfl⟩
     replace H : (laws_markToneS.l0 k1 y267 (wrap64 ((wrap64 (x1_1 + 1)) + 1)) (wrap64 (x5_1 + 1))) = some (r1, r2) := by first | (rw [hy267]; with_reducible exact H) | (have H2_ := (Option.bind_some _ _).symm.trans H; rw [hy267]; with_reducible exact H2_) | (have H2_ := (Option.bind_some _ _).symm.trans H; with_reducible exact H2_) | with_reducible exact H | (rw [hy267]; exact H) | exact H
     have Ny267 := Aside0.mk hy267; clear hy267; have H' := Aside0.mk H; clear H; obtain ⟨Ao7, co7, eo7⟩ := Kd.R_slice HO_0.out; subst eo7; have p5 : 0 ≤ (x5_1 : Int) := of_decide_eq_true (by first | (with_reducible assumption) | assumption); have q5 : (x5_1 : Int) < ((x0_1.length : Int) : Int) := of_decide_eq_true (by first | (with_reducible assumption) | assumption); obtain ⟨go5, co5, eo5, gb5, gl5, cl5, HG5⟩ := Kd.R_form HO_0.out (by omega); (first | cases eo5 | (injection eo5 with ea_ en_ ec_; (first | subst ea_ | (injection ea_ with ea_; subst ea_)); subst ec_; clear en_))
     have GB5 := Aside0.mk gb5; have GG5 := Aside0.mk HG5; clear gb5 gl5 HG5; have HMgo5 := Aside0.mk (show (P0_ go5 ∨ w.heap.size ≤ go5) from (HO_0.out.1 _ rfl)); obtain ⟨ce5, hcl5, hM5, hcc5, hfr5⟩ := Kd.R_elem HO_0.out z29 (x5_1 : Int) p5 q5; obtain rfl := k29_openM hM5; have hx5_0 : wr.cell? ⟨go5, (x5_1 : Int).toNat * 2, none⟩ = some (.int .i64 ((rd_T29 x0_1 x5_1).f0)) := hcc5 0 _ rfl; have hx5_1 : wr.cell? ⟨go5, (x5_1 : Int).toNat * 2 + 1, none⟩ = some (.bool ((rd_T29 x0_1 x5_1).f1)) := hcc5 1 _ rfl; have hf5_0 : wr.frozen? ⟨go5, (x5_1 : Int).toNat * 2, none⟩ = false := hfr5 0; have hf5_1 : wr.frozen? ⟨go5, (x5_1 : Int).toNat * 2 + 1, none⟩ = false := hfr5 1; clear hcl5 hcc5 hfr5 hM5; replace p5 := eq_true p5; replace q5 := eq_true q5; have HX8 := Aside0.mk (show Kd.R k29 29 wr w0.heap.size (fun k_ => (P0_ k_ ∨ w.heap.size ≤ k_)) (.slice (some ⟨go5, 0, none⟩) x0_1.length co7) x0_1 from (by (with_reducible repeat (first | apply Kd.R_alloc | apply Kd.R_drewN | apply Kd.R_drew)); exact HO_0.out)); obtain ⟨ce8, hcl8, hM8, hcc8, hfr8⟩ := Kd.R_elem HX8.out z29 (x5_1 : Int) (of_decide_eq_true (by first | (with_reducible assumption) | assumption)) (by have h_ : (x5_1 : Int) < ((x0_1.length : Int) : Int) := of_decide_eq_true (by first | (with_reducible assumption) | assumption); first | exact h_ | (have e_ := (Kd.R_reads' HO_0.out).1; omega) | simpa using h_); obtain rfl := k29_openM hM8; have HP8 := Kd.R_seg HX8.out (x5_1 : Int) (of_decide_eq_true (by first | (with_reducible assumption) | assumption)) (by have h_ : (x5_1 : Int) < ((x0_1.length : Int) : Int) := of_decide_eq_true (by first | (with_reducible assumption) | assumption); first | exact h_ | (have e_ := (Kd.R_reads' HO_0.out).1; omega) | simpa using h_) (seg := [.int .i64 x1_1]) (j := 0) hcl8 hcc8 (show 1 ≤ 2 from by decide) (x' := (⟨x1_1, (rd_T29 x0_1 x5_1).f1⟩ : S29)) (k29_mkM _ _ _ (⟨x1_1, (rd_T29 x0_1 x5_1).f1⟩ : S29) ) (fun _ hk => hk); have hx8_0 := hcc8 0 _ rfl; (try simp only [show (k29).sz = 2 from rfl, Nat.mul_one, Nat.add_zero] at hx8_0)
     have hf8_0 := hfr8 0; (try simp only [show (k29).sz = 2 from rfl, Nat.mul_one, Nat.add_zero] at hf8_0)
     clear hcl8 hcc8 hfr8 hM8; go_wp2_with (first | ((with_reducible refine gate_store (t := 3) (p := 16) rfl ?_); refine store_event (t := 3) (p := 16) (v := ?vo_w9) (w1 := (wr.setCell ⟨go5, (x5_1 : Int).toNat * 2, none⟩ (.int .i64 x1_1))) ?hg ?ho ?hn ?hr ?_; (case ho => rfl); (case hg => rfl); (case hn => rfl); (case hr => first | (go_simp; done) | (go_simp; rfl)); intro w9 hw; have hg : wr.grownBy w9 (some go5) := (by rw [hw]; exact HP8.2); have hp_ : Kd.R k29 29 w9 w0.heap.size (fun k_ => (P0_ k_ ∨ w.heap.size ≤ k_)) (.slice (some ⟨go5, 0, none⟩) x0_1.length co7) y266 := (by rw [hw, Ny266.out]; exact HP8.1); clear HP8; have n0_ := Aside0.mk (hp_); have n1_ := Aside0.mk ((by rw [hw]; exact below_set (HB.out) GB5.out : Below w0.heap.size w0 w9)); have n2_ := Aside0.mk (Kept.of_grown (S := (fun k_ => P0_ k_)) hg (by repeat (first | (with_reducible first | exact HK.out | apply Kept.alloc | apply Kept.drewN | apply Kept.drew) | exact HK.out)) (fun k_ e_ => (HO_0.out.1 k_ e_))); clear HO_0; clear HB; clear HK; have HO_0 := n0_; have HB := n1_; have HK := n2_; clear n0_ n1_ n2_; clear hg hw hp_; have p6 : 0 ≤ (x5_1 : Int) := of_decide_eq_true (by first | (with_reducible assumption) | assumption); have q6 : (x5_1 : Int) < ((x0_1.length : Int) : Int) := of_decide_eq_true (by first | (with_reducible assumption) | assumption); obtain ⟨ce6, hcl6, hM6, hcc6, hfr6⟩ := Kd.R_elem HO_0.out z29 (x5_1 : Int) p6 q6; obtain rfl := k29_openM hM6; have hx6_0 : w9.cell? ⟨go5, (x5_1 : Int).toNat * 2, none⟩ = some (.int .i64 ((rd_T29 y266 x5_1).f0)) := hcc6 0 _ rfl; have hx6_1 : w9.cell? ⟨go5, (x5_1 : Int).toNat * 2 + 1, none⟩ = some (.bool ((rd_T29 y266 x5_1).f1)) := hcc6 1 _ rfl; have hf6_0 : w9.frozen? ⟨go5, (x5_1 : Int).toNat * 2, none⟩ = false := hfr6 0; have hf6_1 : w9.frozen? ⟨go5, (x5_1 : Int).toNat * 2 + 1, none⟩ = false := hfr6 1; clear hcl6 hcc6 hfr6 hM6; replace p6 := eq_true p6; replace q6 := eq_true q6; have HX10 := Aside0.mk (show Kd.R k29 29 w9 w0.heap.size (fun k_ => (P0_ k_ ∨ w.heap.size ≤ k_)) (.slice (some ⟨go5, 0, none⟩) x0_1.length co7) y266 from (by (with_reducible repeat (first | apply Kd.R_alloc | apply Kd.R_drewN | apply Kd.R_drew)); exact HO_0.out)); obtain ⟨ce10, hcl10, hM10, hcc10, hfr10⟩ := Kd.R_elem HX10.out z29 (x5_1 : Int) (of_decide_eq_true (by first | (with_reducible assumption) | assumption)) (by have h_ : (x5_1 : Int) < ((x0_1.length : Int) : Int) := of_decide_eq_true (by first | (with_reducible assumption) | assumption); first | exact h_ | (have e_ := (Kd.R_reads' HO_0.out).1; omega) | simpa using h_); obtain rfl := k29_openM hM10; have HP10 := Kd.R_seg HX10.out (x5_1 : Int) (of_decide_eq_true (by first | (with_reducible assumption) | assumption)) (by have h_ : (x5_1 : Int) < ((x0_1.length : Int) : Int) := of_decide_eq_true (by first | (with_reducible assumption) | assumption); first | exact h_ | (have e_ := (Kd.R_reads' HO_0.out).1; omega) | simpa using h_) (seg := [.bool ((Int.tmod (wrap64 (x1_1 + 1)) 3) == 0)]) (j := 1) hcl10 hcc10 (show 2 ≤ 2 from by decide) (x' := (⟨(rd_T29 y266 x5_1).f0, ((Int.tmod (wrap64 (x1_1 + 1)) 3) == 0)⟩ : S29)) (k29_mkM _ _ _ (⟨(rd_T29 y266 x5_1).f0, ((Int.tmod (wrap64 (x1_1 + 1)) 3) == 0)⟩ : S29) ) (fun _ hk => hk); have hx10_1 := hcc10 1 _ rfl; (try simp only [show (k29).sz = 2 from rfl, Nat.mul_one, Nat.add_zero] at hx10_1); have hf10_1 := hfr10 1; (try simp only [show (k29).sz = 2 from rfl, Nat.mul_one, Nat.add_zero] at hf10_1); clear hcl10 hcc10 hfr10 hM10) | ((with_reducible refine gate_store (t := 4) (p := 25) rfl ?_); refine store_event (t := 4) (p := 25) (v := ?vo_w11) (w1 := (w9.setCell ⟨go5, (x5_1 : Int).toNat * 2 + 1, none⟩ (.bool ((Int.tmod (wrap64 (x1_1 + 1)) 3) == 0)))) ?hg ?ho ?hn ?hr ?_; (case ho => rfl); (case hg => rfl); (case hn => rfl); (case hr => first | (go_simp; done) | (go_simp; rfl)); intro w11 hw; have hg : w9.grownBy w11 (some go5) := (by rw [hw]; exact HP10.2); have hp_ : Kd.R k29 29 w11 w0.heap.size (fun k_ => (P0_ k_ ∨ w.heap.size ≤ k_)) (.slice (some ⟨go5, 0, none⟩) x0_1.length co7) y267 := (by rw [hw, Ny267.out]; exact HP10.1); clear HP10; have n0_ := Aside0.mk (hp_); have n1_ := Aside0.mk ((by rw [hw]; exact below_set (HB.out) GB5.out : Below w0.heap.size w0 w11)); have n2_ := Aside0.mk (Kept.of_grown (S := (fun k_ => P0_ k_)) hg (by repeat (first | (with_reducible first | exact HK.out | apply Kept.alloc | apply Kept.drewN | apply Kept.drew) | exact HK.out)) (fun k_ e_ => (HO_0.out.1 k_ e_))); clear HO_0; clear HB; clear HK; have HO_0 := n0_; have HB := n1_; have HK := n2_; clear n0_ n1_ n2_; clear hg hw hp_))
     go_roundg k1
     case measure => have := HK1.out; omega
     case rel => exact ⟨(y267), (wrap64 ((wrap64 (x1_1 + 1)) + 1)), (wrap64 (x5_1 + 1)), (by first | rfl | (simp; done) | (simp [*]; done)), (by first | rfl | (simp; done) | (simp [*]; done)), H', ⟨by have := HK1.out; omega⟩, ⟨by (with_reducible repeat (first | apply Kd.R_alloc | apply Kd.R_drewN | apply Kd.R_drew)); exact HO_0.out⟩, ⟨by repeat (first | (with_reducible first | exact HK.out | apply Kept.alloc | apply Kept.drewN | apply Kept.drew) | exact HK.out)⟩, ⟨by repeat (first | (with_reducible first | exact HB.out | apply below_alloc | apply pw_below_drewN | apply below_drew1) | exact HB.out)⟩⟩
    ·
     rw [if_neg c4] at H; exact absurd H (by simp)
   ·
    rw [if_neg c3] at H; have c3b0 : decide (x5_1 < (x0_1.length : Int)) = false := decide_eq_false c3; clear c3; simp only [Option.some.injEq, Prod.mk.injEq] at H; obtain ⟨rfl, rfl⟩ := H; obtain ⟨Ao12, co12, eo12⟩ := Kd.R_slice HO_0.out; subst eo12; go_wp2; go_ret
    exact ⟨by first | rfl | (simp [errW_none, errW_some] <;> rfl) | (simp [*, errW_none, errW_some] <;> rfl), by (with_reducible repeat (first | apply Kd.R_alloc | apply Kd.R_drewN | apply Kd.R_drew)); exact HO_0.out, by repeat (first | (with_reducible first | exact HB.out | apply below_alloc | apply pw_below_drewN | apply below_drew1) | exact HB.out), by repeat (first | (with_reducible first | exact HK.out | apply Kept.alloc | apply Kept.drewN | apply Kept.drew) | exact HK.out)⟩

end Go.Proofs.YtiagfjbngpbejaaDoor.PFnExactSingBest
