/- Lemmas for the law FnExactSingBest. -/
import Derived.Test.YtiagfjbngpbejaaDoorSFnExactSingBests3
namespace Go.Proofs.YtiagfjbngpbejaaDoor.PFnExactSingBest
open Go.RowKit Go.Proofs.YtiagfjbngpbejaaDoorW.PrintWords Go.Proofs.YtiagfjbngpbejaaDoorW.PrintLast Go.Proofs.YtiagfjbngpbejaaDoorW.PrintMore
attribute [local go_sem] max2_int min2_int max_two min_two max_three min_three max_four min_four   -- for this text's walks alone
set_option linter.unusedVariables false
set_option linter.unusedSimpArgs false

def laws_eqIntS.l0 : Nat → List Int → List Int → Int → Option (Bool)
 | 0, _, _, _ => none
 | k + 1, x0, x1, x5 => if x5 < (x0.length : Int) then (if 0 ≤ x5 then (if x5 < (x1.length : Int) then (if (rd x0 x5) = (rd x1 x5) then (laws_eqIntS.l0 k x0 x1 (wrap64 (x5 + 1))) else (some false)) else (none)) else (none)) else (some true)
def laws_eqIntS.f (k : Nat) (l0 : List Int) (l1 : List Int) : Option (Bool) := if (l0.length : Int) = (l1.length : Int) then (laws_eqIntS.l0 k l0 l1 0) else (some false)
set_option maxHeartbeats 8000000 in
set_option maxRecDepth 100000 in
theorem laws_eqIntS.calls (k : Nat) (A0 : Option Addr) (c0 : Nat) (l0 : List Int) (A1 : Option Addr) (c1 : Nat) (l1 : List Int) (r : Bool) (w : World) (hr0 : Kd.C (Kd.int .i64) w A0 l0.length l0) (hc0 : l0.length ≤ c0) (hr1 : Kd.C (Kd.int .i64) w A1 l1.length l1) (hc1 : l1.length ≤ c1) (h : laws_eqIntS.f k l0 l1 = some r) :
 Calls Tryd.prog 13 #[.slice A0 l0.length c0, .slice A1 l1.length c1] w fun e w' => e = .returned (.bool r) ∧ Drawn0 w w' := by
 have HR0 := Aside0.mk hr0; have HC0 := Aside0.mk hc0; clear hr0 hc0; have HR1 := Aside0.mk hr1; have HC1 := Aside0.mk hc1; clear hr1 hc1; have H : (if (l0.length : Int) = (l1.length : Int) then (laws_eqIntS.l0 k l0 l1 0) else (some false)) = some r := h; clear h; by_cases c3 : (l0.length : Int) = (l1.length : Int)
 ·
  rw [if_pos c3] at H; have c3b0 : ((l0.length : Int) == (l1.length : Int)) = true := beq_iff_eq.mpr c3; have c3b1 : ((l0.length : Int) != (l1.length : Int)) = false := bne_eq_false_iff_eq.mpr c3; have c3b2 : (l0.length == l1.length) = true := by first | simpa using c3 | (simp at c3 ⊢; omega)
  clear c3; have H' := Aside0.mk H; clear H; go_enter Tryd.func13, Tryd.ntmps13
  go_wp2; repeat (go_quiet (fail); try go_wp2)
  go_loopg [5] k (fun kq v5 w' => ∃ (x5_1 : Int), v5 = .int .i64 x5_1 ∧ Aside0 (laws_eqIntS.l0 kq l0 l1 x5_1 = some r) ∧ Aside0 (kq ≤ k) ∧ Drawn0 w w')
  case atStart => exact ⟨(0), (by first | rfl | (simp; done) | (simp [*]; done)), H', ⟨Nat.le_refl _⟩, by repeat (first | exact Drawn0.refl _ | apply Drawn0.step)⟩
  case round =>
   clear H'; try clear c1
   try clear p2
   try clear c3
   try clear c3b0
   try clear c3b1
   try clear c3b2
   obtain ⟨x5_1, rfl, HA, HK1, ⟨m1, rfl⟩⟩ := hrel; cases gk with
   | zero => exact absurd HA.out (by simp [laws_eqIntS.l0])
   | succ k1 =>
    have H := HA.out; clear HA; simp only [laws_eqIntS.l0] at H; by_cases c4 : x5_1 < (l0.length : Int)
    ·
     rw [if_pos c4] at H; have c4b0 : decide (x5_1 < (l0.length : Int)) = true := decide_eq_true c4; clear c4; by_cases c5 : 0 ≤ x5_1
     ·
      rw [if_pos c5] at H; have c5b0 : decide (0 ≤ x5_1) = true := decide_eq_true c5; clear c5; by_cases c6 : x5_1 < (l1.length : Int)
      ·
       rw [if_pos c6] at H; have c6b0 : decide (x5_1 < (l1.length : Int)) = true := decide_eq_true c6; clear c6; by_cases c7 : (rd l0 x5_1) = (rd l1 x5_1)
       ·
        rw [if_pos c7] at H; have c7b0 : ((rd l0 x5_1) == (rd l1 x5_1)) = true := beq_iff_eq.mpr c7; have c7b1 : ((rd l0 x5_1) != (rd l1 x5_1)) = false := bne_eq_false_iff_eq.mpr c7; clear c7; have H' := Aside0.mk H; clear H; have p259 : 0 ≤ (x5_1 : Int) := of_decide_eq_true (by first | (with_reducible assumption) | assumption); have q259 : x5_1 < (l0.length : Int) := of_decide_eq_true (by first | (with_reducible assumption) | assumption); obtain ⟨ad259, e259, hx259_0⟩ := Kd.at_int HR0.out x5_1 p259 q259; cases e259; replace p259 := eq_true p259; replace q259 := eq_true q259; have p260 : 0 ≤ (x5_1 : Int) := of_decide_eq_true (by first | (with_reducible assumption) | assumption); have q260 : x5_1 < (l1.length : Int) := of_decide_eq_true (by first | (with_reducible assumption) | assumption); obtain ⟨ad260, e260, hx260_0⟩ := Kd.at_int HR1.out x5_1 p260 q260; cases e260; replace p260 := eq_true p260; replace q260 := eq_true q260; go_wp2; repeat (go_quiet (fail); try go_wp2)
        go_roundg k1
        case measure => have := HK1.out; omega
        case rel => exact ⟨(wrap64 (x5_1 + 1)), (by first | rfl | (simp; done) | (simp [*]; done)), H', ⟨by have := HK1.out; omega⟩, by repeat (first | exact Drawn0.refl _ | apply Drawn0.step)⟩
       ·
        rw [if_neg c7] at H; have c7b0 : ((rd l0 x5_1) == (rd l1 x5_1)) = false := beq_eq_false_iff_ne.mpr c7; have c7b1 : ((rd l0 x5_1) != (rd l1 x5_1)) = true := bne_iff_ne.mpr c7; obtain rfl := Option.some.inj H; have p259 : 0 ≤ (x5_1 : Int) := of_decide_eq_true (by first | (with_reducible assumption) | assumption); have q259 : x5_1 < (l0.length : Int) := of_decide_eq_true (by first | (with_reducible assumption) | assumption); obtain ⟨ad259, e259, hx259_0⟩ := Kd.at_int HR0.out x5_1 p259 q259; cases e259; replace p259 := eq_true p259; replace q259 := eq_true q259; have p260 : 0 ≤ (x5_1 : Int) := of_decide_eq_true (by first | (with_reducible assumption) | assumption); have q260 : x5_1 < (l1.length : Int) := of_decide_eq_true (by first | (with_reducible assumption) | assumption); obtain ⟨ad260, e260, hx260_0⟩ := Kd.at_int HR1.out x5_1 p260 q260; cases e260; replace p260 := eq_true p260; replace q260 := eq_true q260; go_wp2; repeat (go_quiet (fail); try go_wp2)
        go_ret
        exact ⟨by first | rfl | (simp; done) | (simp [*]; done), by repeat (first | exact Drawn0.refl _ | apply Drawn0.step)⟩
      ·
       rw [if_neg c6] at H; exact absurd H (by simp)
     ·
      rw [if_neg c5] at H; exact absurd H (by simp)
    ·
     rw [if_neg c4] at H; have c4b0 : decide (x5_1 < (l0.length : Int)) = false := decide_eq_false c4; clear c4; obtain rfl := Option.some.inj H; go_wp2; repeat (go_quiet (fail); try go_wp2)
     go_ret
     exact ⟨by first | rfl | (simp; done) | (simp [*]; done), by repeat (first | exact Drawn0.refl _ | apply Drawn0.step)⟩
 ·
  rw [if_neg c3] at H; have c3b0 : ((l0.length : Int) == (l1.length : Int)) = false := beq_eq_false_iff_ne.mpr c3; have c3b1 : ((l0.length : Int) != (l1.length : Int)) = true := bne_iff_ne.mpr c3; have c3b2 : (l0.length == l1.length) = false := by first | simpa using c3 | (simp at c3 ⊢; omega)
  obtain rfl := Option.some.inj H; go_enter Tryd.func13, Tryd.ntmps13
  go_wp2; repeat (go_quiet (fail); try go_wp2)
  go_ret
  exact ⟨by first | rfl | (simp; done) | (simp [*]; done), by repeat (first | exact Drawn0.refl _ | apply Drawn0.step)⟩

end Go.Proofs.YtiagfjbngpbejaaDoor.PFnExactSingBest
namespace Go.Proofs.YtiagfjbngpbejaaDoor.PFnExactSingBest
open Go.RowKit Go.Proofs.YtiagfjbngpbejaaDoorW.PrintWords Go.Proofs.YtiagfjbngpbejaaDoorW.PrintLast Go.Proofs.YtiagfjbngpbejaaDoorW.PrintMore
attribute [local go_sem] max2_int min2_int max_two min_two max_three min_three max_four min_four   -- for this text's walks alone
set_option linter.unusedVariables false
set_option linter.unusedSimpArgs false

def laws_markIntS.l0 : Nat → List Int → Int → Int → Option (Int × List Int)
 | 0, _, _, _ => none
 | k + 1, x0, x1, x5 => if x5 < (x0.length : Int) then (if 0 ≤ x5 then (laws_markIntS.l0 k (x0.set (x5 : Int).toNat x1) (wrap64 (x1 + 1)) (wrap64 (x5 + 1))) else (none)) else (some (x1, x0))
def laws_markIntS.f (k : Nat) (l0 : List Int) (a1 : Int) : Option (Int × List Int) := laws_markIntS.l0 k l0 a1 0
set_option maxHeartbeats 8000000 in
set_option maxRecDepth 100000 in
theorem laws_markIntS.calls (k : Nat) (P0_ : Nat → Prop) (u9000_ : Value) (l0 : List Int) (a1 : Int) (r1 : Int) (r2 : List Int) (w0 w : World) (hB : Below w0.heap.size w0 w) (ho0 : Kd.R (Kd.int .i64) 3 w w0.heap.size P0_ u9000_ l0) (h : laws_markIntS.f k l0 a1 = some (r1, r2)) :
 Calls Tryd.prog 16 #[u9000_, .int .i64 a1] w fun e w' => e = .returned (.int .i64 r1) ∧ Kd.R (Kd.int .i64) 3 w' w0.heap.size (fun k_ => (P0_ k_ ∨ w.heap.size ≤ k_)) u9000_ r2 ∧ Below w0.heap.size w0 w' ∧ Kept w w' (fun k_ => P0_ k_) := by
 have HO0 := Aside0.mk (show Kd.R (Kd.int .i64) 3 w w0.heap.size (fun k_ => (P0_ k_ ∨ w.heap.size ≤ k_)) u9000_ l0 from Kd.R_mono ho0 (fun k_ hk => (.inl hk))); have HK := Aside0.mk (Kept.refl w (fun k_ => P0_ k_)); have HW0 := Aside0.mk hB.size; have HB := Aside0.mk hB; clear hB; have H : (laws_markIntS.l0 k l0 a1 0) = some (r1, r2) := h; clear h; have H' := Aside0.mk H; clear H; go_enter Tryd.func16, Tryd.ntmps16
 go_wp2; go_loopg [1, 5] k (fun kq v1 v5 w' => ∃ (x0_1 : List Int) (x1_1 : Int) (x5_1 : Int), v1 = .int .i64 x1_1 ∧ v5 = .int .i64 x5_1 ∧ Aside0 (laws_markIntS.l0 kq x0_1 x1_1 x5_1 = some (r1, r2)) ∧ Aside0 (kq ≤ k) ∧ Aside0 (Kd.R (Kd.int .i64) 3 w' w0.heap.size (fun k_ => (P0_ k_ ∨ w.heap.size ≤ k_)) u9000_ x0_1) ∧ Aside0 (Kept w w' (fun k_ => P0_ k_)) ∧ Aside0 (Below w0.heap.size w0 w'))
 case atStart => exact ⟨(l0), (a1), (0), (by first | rfl | (simp; done) | (simp [*]; done)), (by first | rfl | (simp; done) | (simp [*]; done)), H', ⟨Nat.le_refl _⟩, ⟨by (with_reducible repeat (first | apply Kd.R_alloc | apply Kd.R_drewN | apply Kd.R_drew)); exact HO0.out⟩, ⟨by repeat (first | (with_reducible first | exact HK.out | apply Kept.alloc | apply Kept.drewN | apply Kept.drew) | exact HK.out)⟩, ⟨by repeat (first | (with_reducible first | exact HB.out | apply below_alloc | apply pw_below_drewN | apply below_drew1) | exact HB.out)⟩⟩
 case round =>
  clear H'; try clear c1
  try clear p2
  obtain ⟨x0_1, x1_1, x5_1, rfl, rfl, HA, HK1, HO_0, HK, HB⟩ := hrel; cases gk with
  | zero => exact absurd HA.out (by simp [laws_markIntS.l0])
  | succ k1 =>
   have H := HA.out; clear HA; simp only [laws_markIntS.l0] at H; by_cases c3 : x5_1 < (x0_1.length : Int)
   ·
    rw [if_pos c3] at H; have c3b0 : decide (x5_1 < (x0_1.length : Int)) = true := decide_eq_true c3; clear c3; by_cases c4 : 0 ≤ x5_1
    ·
     rw [if_pos c4] at H; have c4b0 : decide (0 ≤ x5_1) = true := decide_eq_true c4; clear c4; obtain ⟨y268, hy268⟩ : ∃ y_ : List Int, y_ = (x0_1.set (x5_1 : Int).toNat x1_1) := ⟨_, rfl⟩
     replace H : (laws_markIntS.l0 k1 y268 (wrap64 (x1_1 + 1)) (wrap64 (x5_1 + 1))) = some (r1, r2) := by first | (rw [hy268]; with_reducible exact H) | (have H2_ := (Option.bind_some _ _).symm.trans H; rw [hy268]; with_reducible exact H2_) | (have H2_ := (Option.bind_some _ _).symm.trans H; with_reducible exact H2_) | with_reducible exact H | (rw [hy268]; exact H) | exact H
     have Ny268 := Aside0.mk hy268; clear hy268; have H' := Aside0.mk H; clear H; obtain ⟨Ao6, co6, eo6⟩ := Kd.R_slice HO_0.out; subst eo6; have p5 : 0 ≤ (x5_1 : Int) := of_decide_eq_true (by first | (with_reducible assumption) | assumption); have q5 : (x5_1 : Int) < ((x0_1.length : Int) : Int) := of_decide_eq_true (by first | (with_reducible assumption) | assumption); obtain ⟨go5, co5, eo5, gb5, gl5, cl5, HG5⟩ := Kd.R_form HO_0.out (by omega); (first | cases eo5 | (injection eo5 with ea_ en_ ec_; (first | subst ea_ | (injection ea_ with ea_; subst ea_)); subst ec_; clear en_))
     have GB5 := Aside0.mk gb5; have GG5 := Aside0.mk HG5; clear gb5 gl5 HG5; have HMgo5 := Aside0.mk (show (P0_ go5 ∨ w.heap.size ≤ go5) from (HO_0.out.1 _ rfl)); obtain ⟨hx5_0, hf5_0⟩ := Kd.R_celln 0 HO_0.out (x5_1 : Int) p5 q5; replace p5 := eq_true p5; replace q5 := eq_true q5; have HP7 := Kd.R_putg HO_0.out (x5_1 : Int) x1_1; go_wp2_with (first | ((with_reducible refine gate_store (t := 3) (p := 15) rfl ?_); refine store_event (t := 3) (p := 15) (v := ?vo_w8) (w1 := (wr.setCell ⟨go5, (x5_1 : Int).toNat, none⟩ (.int .i64 x1_1))) ?hg ?ho ?hn ?hr ?_; (case ho => rfl); (case hg => rfl); (case hn => rfl); (case hr => first | (go_simp; done) | (go_simp; rfl)); intro w8 hw; have hg : wr.grownBy w8 (some go5) := (by rw [hw]; exact HP7.2); have hp_ : Kd.R (Kd.int .i64) 3 w8 w0.heap.size (fun k_ => (P0_ k_ ∨ w.heap.size ≤ k_)) (.slice (some ⟨go5, 0, none⟩) x0_1.length co6) y268 := (by rw [hw, Ny268.out]; exact HP7.1); clear HP7; have n0_ := Aside0.mk (hp_); have n1_ := Aside0.mk ((by rw [hw]; exact below_set (HB.out) GB5.out : Below w0.heap.size w0 w8)); have n2_ := Aside0.mk (Kept.of_grown (S := (fun k_ => P0_ k_)) hg (by repeat (first | (with_reducible first | exact HK.out | apply Kept.alloc | apply Kept.drewN | apply Kept.drew) | exact HK.out)) (fun k_ e_ => (HO_0.out.1 k_ e_))); clear HO_0; clear HB; clear HK; have HO_0 := n0_; have HB := n1_; have HK := n2_; clear n0_ n1_ n2_; clear hg hw hp_))
     go_roundg k1
     case measure => have := HK1.out; omega
     case rel => exact ⟨(y268), (wrap64 (x1_1 + 1)), (wrap64 (x5_1 + 1)), (by first | rfl | (simp; done) | (simp [*]; done)), (by first | rfl | (simp; done) | (simp [*]; done)), H', ⟨by have := HK1.out; omega⟩, ⟨by (with_reducible repeat (first | apply Kd.R_alloc | apply Kd.R_drewN | apply Kd.R_drew)); exact HO_0.out⟩, ⟨by repeat (first | (with_reducible first | exact HK.out | apply Kept.alloc | apply Kept.drewN | apply Kept.drew) | exact HK.out)⟩, ⟨by repeat (first | (with_reducible first | exact HB.out | apply below_alloc | apply pw_below_drewN | apply below_drew1) | exact HB.out)⟩⟩
    ·
     rw [if_neg c4] at H; exact absurd H (by simp)
   ·
    rw [if_neg c3] at H; have c3b0 : decide (x5_1 < (x0_1.length : Int)) = false := decide_eq_false c3; clear c3; simp only [Option.some.injEq, Prod.mk.injEq] at H; obtain ⟨rfl, rfl⟩ := H; obtain ⟨Ao9, co9, eo9⟩ := Kd.R_slice HO_0.out; subst eo9; go_wp2; go_ret
    exact ⟨by first | rfl | (simp [errW_none, errW_some] <;> rfl) | (simp [*, errW_none, errW_some] <;> rfl), by (with_reducible repeat (first | apply Kd.R_alloc | apply Kd.R_drewN | apply Kd.R_drew)); exact HO_0.out, by repeat (first | (with_reducible first | exact HB.out | apply below_alloc | apply pw_below_drewN | apply below_drew1) | exact HB.out), by repeat (first | (with_reducible first | exact HK.out | apply Kept.alloc | apply Kept.drewN | apply Kept.drew) | exact HK.out)⟩

end Go.Proofs.YtiagfjbngpbejaaDoor.PFnExactSingBest
namespace Go.Proofs.YtiagfjbngpbejaaDoor.PFnExactSingBest
open Go.RowKit Go.Proofs.YtiagfjbngpbejaaDoorW.PrintWords Go.Proofs.YtiagfjbngpbejaaDoorW.PrintLast Go.Proofs.YtiagfjbngpbejaaDoorW.PrintMore
attribute [local go_sem] max2_int min2_int max_two min_two max_three min_three max_four min_four   -- for this text's walks alone
set_option linter.unusedVariables false
set_option linter.unusedSimpArgs false

def laws_heldIntS.l0 : Nat → List Int → Int → Int → Option (Int)
 | 0, _, _, _ => none
 | k + 1, x0, x1, x5 => if x5 < (x0.length : Int) then (if 0 ≤ x5 then (if (rd x0 x5) = x1 then (laws_heldIntS.l0 k x0 (wrap64 (x1 + 1)) (wrap64 (x5 + 1))) else (some (-1))) else (none)) else (some x1)
def laws_heldIntS.f (k : Nat) (l0 : List Int) (a1 : Int) : Option (Int) := laws_heldIntS.l0 k l0 a1 0
set_option maxHeartbeats 8000000 in
set_option maxRecDepth 100000 in
theorem laws_heldIntS.calls (k : Nat) (A0 : Option Addr) (c0 : Nat) (l0 : List Int) (a1 : Int) (r : Int) (w : World) (hr0 : Kd.C (Kd.int .i64) w A0 l0.length l0) (hc0 : l0.length ≤ c0) (h : laws_heldIntS.f k l0 a1 = some r) :
 Calls Tryd.prog 17 #[.slice A0 l0.length c0, .int .i64 a1] w fun e w' => e = .returned (.int .i64 r) ∧ Drawn0 w w' := by
 have HR0 := Aside0.mk hr0; have HC0 := Aside0.mk hc0; clear hr0 hc0; have H : (laws_heldIntS.l0 k l0 a1 0) = some r := h; clear h; have H' := Aside0.mk H; clear H; go_enter Tryd.func17, Tryd.ntmps17
 go_wp2; go_loopg [1, 5] k (fun kq v1 v5 w' => ∃ (x1_1 : Int) (x5_1 : Int), v1 = .int .i64 x1_1 ∧ v5 = .int .i64 x5_1 ∧ Aside0 (laws_heldIntS.l0 kq l0 x1_1 x5_1 = some r) ∧ Aside0 (kq ≤ k) ∧ Drawn0 w w')
 case atStart => exact ⟨(a1), (0), (by first | rfl | (simp; done) | (simp [*]; done)), (by first | rfl | (simp; done) | (simp [*]; done)), H', ⟨Nat.le_refl _⟩, by repeat (first | exact Drawn0.refl _ | apply Drawn0.step)⟩
 case round =>
  clear H'; try clear c1
  try clear p2
  obtain ⟨x1_1, x5_1, rfl, rfl, HA, HK1, ⟨m1, rfl⟩⟩ := hrel; cases gk with
  | zero => exact absurd HA.out (by simp [laws_heldIntS.l0])
  | succ k1 =>
   have H := HA.out; clear HA; simp only [laws_heldIntS.l0] at H; by_cases c3 : x5_1 < (l0.length : Int)
   ·
    rw [if_pos c3] at H; have c3b0 : decide (x5_1 < (l0.length : Int)) = true := decide_eq_true c3; clear c3; by_cases c4 : 0 ≤ x5_1
    ·
     rw [if_pos c4] at H; have c4b0 : decide (0 ≤ x5_1) = true := decide_eq_true c4; clear c4; by_cases c5 : (rd l0 x5_1) = x1_1
     ·
      rw [if_pos c5] at H; have c5b0 : ((rd l0 x5_1) == x1_1) = true := beq_iff_eq.mpr c5; have c5b1 : ((rd l0 x5_1) != x1_1) = false := bne_eq_false_iff_eq.mpr c5; clear c5; have H' := Aside0.mk H; clear H; have p269 : 0 ≤ (x5_1 : Int) := of_decide_eq_true (by first | (with_reducible assumption) | assumption); have q269 : x5_1 < (l0.length : Int) := of_decide_eq_true (by first | (with_reducible assumption) | assumption); obtain ⟨ad269, e269, hx269_0⟩ := Kd.at_int HR0.out x5_1 p269 q269; cases e269; replace p269 := eq_true p269; replace q269 := eq_true q269; go_wp2; go_roundg k1
      case measure => have := HK1.out; omega
      case rel => exact ⟨(wrap64 (x1_1 + 1)), (wrap64 (x5_1 + 1)), (by first | rfl | (simp; done) | (simp [*]; done)), (by first | rfl | (simp; done) | (simp [*]; done)), H', ⟨by have := HK1.out; omega⟩, by repeat (first | exact Drawn0.refl _ | apply Drawn0.step)⟩
     ·
      rw [if_neg c5] at H; have c5b0 : ((rd l0 x5_1) == x1_1) = false := beq_eq_false_iff_ne.mpr c5; have c5b1 : ((rd l0 x5_1) != x1_1) = true := bne_iff_ne.mpr c5; obtain rfl := Option.some.inj H; have p269 : 0 ≤ (x5_1 : Int) := of_decide_eq_true (by first | (with_reducible assumption) | assumption); have q269 : x5_1 < (l0.length : Int) := of_decide_eq_true (by first | (with_reducible assumption) | assumption); obtain ⟨ad269, e269, hx269_0⟩ := Kd.at_int HR0.out x5_1 p269 q269; cases e269; replace p269 := eq_true p269; replace q269 := eq_true q269; go_wp2; go_ret
      exact ⟨by first | rfl | (simp; done) | (simp [*]; done), by repeat (first | exact Drawn0.refl _ | apply Drawn0.step)⟩
    ·
     rw [if_neg c4] at H; exact absurd H (by simp)
   ·
    rw [if_neg c3] at H; have c3b0 : decide (x5_1 < (l0.length : Int)) = false := decide_eq_false c3; clear c3; obtain rfl := Option.some.inj H; go_wp2; go_ret
    exact ⟨by first | rfl | (simp; done) | (simp [*]; done), by repeat (first | exact Drawn0.refl _ | apply Drawn0.step)⟩

end Go.Proofs.YtiagfjbngpbejaaDoor.PFnExactSingBest
namespace Go.Proofs.YtiagfjbngpbejaaDoor.Pure
set_option linter.unusedVariables false
set_option linter.unusedSimpArgs false
open Go Go.RowKit Go.Proofs.YtiagfjbngpbejaaDoor.PFnExactSingBest Go.Proofs.YtiagfjbngpbejaaDoorW.PrintWords Go.Proofs.YtiagfjbngpbejaaDoorW.PrintLast Go.Proofs.YtiagfjbngpbejaaDoorW.PrintMore

def convTone (x : S64) : S29 := ⟨x.f0, x.f1⟩
theorem szToneS_eq (l : List S64) (left : Int) (h0 : 0 ≤ left) (h1 : left ≤ 1000000000000) (hl : (l.length : Int) ≤ 9223372036854775807) : laws_szToneS.f l left = some (if left - (l.length : Int) < 0 then -1 else left - (l.length : Int)) := by
 unfold laws_szToneS.f
 rw [w64 (by omega) (by omega)]
 split <;> rfl
theorem toToneS_ev (l : List S64) (hl : l.length ≤ 1000000000000) : Ev (fun k => laws_toToneS.f k l) (l.map convTone) := by
 unfold laws_toToneS.f
 refine Ev.pos (by omega) (Ev.pos (by simp; omega) ?_)
 have := Ev.over z64 l (fun k (s : List S29) i => laws_toToneS.l0 k l s i) (fun s rest => s.take (l.length - rest.length) ++ rest.map convTone) (fun _ s => s.length = l.length) (by
  intro s hs
  refine Ev.succ ?_
  simp only [laws_toToneS.l0]
  refine Ev.eqr (Ev.neg (by omega) (Ev.now _)) ?_
  simp [← hs]) (by
  intro s i rest hs hi hdr ih
  have hrl : rest.length + 1 + i = l.length := by
   have := congrArg List.length hdr
   simp at this; omega
  refine Ev.succ ?_
  simp only [laws_toToneS.l0]
  refine Ev.pos (by omega) (Ev.pos (by omega) (Ev.conb (a := ((rd_T64 l i).f0, (rd_T64 l i).f1)) rfl (Ev.pos (by omega) ?_)))
  rw [w64 (by omega) (by omega)]
  refine Ev.eqr (ih _ (by simpa using hs)) ?_
  have e1 : l.length - rest.length = i + 1 := by omega
  have e2 : l.length - (l.getD i z64 :: rest).length = i := by simp; omega
  rw [e1, e2]
  simp only [Int.toNat_natCast, List.map_cons]
  rw [List.take_set, List.take_succ_eq_append_getElem (by omega), List.set_append_right _ _ (by simp; omega)]
  have e3 : i - (s.take i).length = 0 := by simp; omega
  rw [e3]
  simp [convTone, rd_T64]) 0 (List.replicate l.length z29) (Nat.zero_le _) (by simp)
 simpa using this
theorem eqToneS_ev (l : List S29) (hl : l.length ≤ 1000000000000000) : Ev (fun k => laws_eqToneS.f k l l) true := by
 unfold laws_eqToneS.f
 refine Ev.pos rfl ?_
 have := Ev.over z29 l (fun k (_ : Unit) i => laws_eqToneS.l0 k l l i) (fun _ _ => true) (fun _ _ => True) (by
  intro s _
  refine Ev.succ ?_
  simp only [laws_eqToneS.l0]
  exact Ev.neg (by omega) (Ev.now _)) (by
  intro s i rest _ hi _ ih
  refine Ev.succ ?_
  simp only [laws_eqToneS.l0]
  refine Ev.pos (by omega) (Ev.pos (by omega) (Ev.pos (by omega) (Ev.conb (a := true) (by simp [laws_eqTone.f]) (Ev.pos rfl ?_))))
  rw [w64 (by omega) (by omega)]
  exact ih () trivial) 0 () (Nat.zero_le _) trivial
 simpa using this
def markTone : Nat → Int → List S29
 | 0, _ => []
 | n + 1, a => ⟨a, Int.tmod (a + 1) 3 == 0⟩ :: markTone n (a + 2)
theorem markToneS_ev (l : List S29) (a : Int) (ha : 0 ≤ a) (ha' : a ≤ 1000000000000000) (hl : l.length ≤ 1000000000000000) : Ev (fun k => laws_markToneS.f k l a) (a + 2 * l.length, markTone l.length a) := by
 unfold laws_markToneS.f
 have := Ev.over z29 l (fun k (s : List S29 × Int) i => laws_markToneS.l0 k s.1 s.2 i) (fun s rest => (s.2 + 2 * (rest.length : Int), s.1.take (l.length - rest.length) ++ markTone rest.length s.2)) (fun i s => s.1.length = l.length ∧ s.2 = a + 2 * i) (by
  intro s hs
  refine Ev.succ ?_
  simp only [laws_markToneS.l0]
  refine Ev.eqr (Ev.neg (by omega) (Ev.now _)) ?_
  simp [← hs.1, markTone]) (by
  intro s i rest hs hi hdr ih
  have hrl : rest.length + 1 + i = l.length := by
   have := congrArg List.length hdr
   simp at this; omega
  refine Ev.succ ?_
  simp only [laws_markToneS.l0]
  refine Ev.pos (by omega) (Ev.pos (by omega) (Ev.someb ?_))
  have h2 := hs.2
  rw [w64 (x := s.2 + 1) (by omega) (by omega), w64 (x := s.2 + 1 + 1) (by omega) (by omega), w64 (by omega) (by omega)]
  refine Ev.eqr (ih (_, s.2 + 1 + 1) ⟨by simpa using hs.1, by simp only []; omega⟩) ?_
  have e1 : l.length - rest.length = i + 1 := by omega
  have e2 : l.length - (l.getD i z29 :: rest).length = i := by simp; omega
  rw [e1, e2]
  simp only [Int.toNat_natCast, List.length_cons, markTone, List.set_set]
  refine Prod.ext (by simp only []; omega) ?_
  simp only []
  rw [List.take_set, List.take_succ_eq_append_getElem (by omega), List.set_append_right _ _ (by simp; omega)]
  have e3 : i - (s.1.take i).length = 0 := by simp; omega
  have e4 : s.2 + 1 + 1 = s.2 + 2 := by omega
  have e5 : (rd_T29 (s.1.set i ⟨s.2, (rd_T29 s.1 i).f1⟩) i).f0 = s.2 := by
   simp [rd_T29, List.getD_eq_getElem?_getD, List.getElem?_set_self (show i < s.1.length by omega)]
  rw [e3, e4, e5]
  simp) 0 (l, a) (Nat.zero_le _) ⟨rfl, by simp⟩
 simpa using this
theorem ToneS_sz (l : List S64) (left : Int) (A : Option Addr) (c : Nat) (w : World) (h0 : 0 ≤ left) (h1 : left ≤ 1000000000000) (hl : (l.length : Int) ≤ 9223372036854775807) (hr : Kd.C k64 w A l.length l) (hc : l.length ≤ c) :
 Calls Tryd.prog 10 #[.slice A l.length c, .int .i64 left] w fun e w' => ∃ r, e = .returned (.int .i64 r) ∧ (r = if left - (l.length : Int) < 0 then -1 else left - (l.length : Int)) ∧ Below w.heap.size w w' := by
 refine (laws_szToneS.calls A c l left _ w hr hc (szToneS_eq l left h0 h1 hl)).mono ?_
 rintro e w' ⟨rfl, hd⟩
 exact ⟨_, rfl, rfl, hd.below⟩
theorem ToneS_to (l : List S64) (A : Option Addr) (c : Nat) (w : World) (hl : l.length ≤ 1000000000000) (hr : Kd.C k64 w A l.length l) (hc : l.length ≤ c) :
 Calls Tryd.prog 12 #[.slice A l.length c] w fun e w' => ∃ v, e = .returned v ∧ Kd.R k29 29 w' w.heap.size (fun _ => True) v (l.map convTone) ∧ Below w.heap.size w w' := by
 obtain ⟨k, h⟩ := Ev.rounds (toToneS_ev l hl)
 exact (laws_toToneS.calls k A c l _ w hr hc h).mono (fun e w' h => h)
theorem ToneS_eq (l : List S29) (A0 A1 : Option Addr) (c0 c1 : Nat) (w : World) (hl : l.length ≤ 1000000000000) (hr0 : Kd.C k29 w A0 l.length l) (hc0 : l.length ≤ c0) (hr1 : Kd.C k29 w A1 l.length l) (hc1 : l.length ≤ c1) :
 Calls Tryd.prog 14 #[.slice A0 l.length c0, .slice A1 l.length c1] w fun e w' => e = .returned (.bool true) ∧ Below w.heap.size w w' := by
 obtain ⟨k, h⟩ := Ev.rounds (eqToneS_ev l (by omega))
 exact (laws_eqToneS.calls k A0 c0 l A1 c1 l true w hr0 hc0 hr1 hc1 h).mono (fun e w' h => h)
theorem ToneS_mark (l : List S29) (a : Int) (s t : Nat) (v : Value) (w0 w : World) (ha : 0 ≤ a) (ha' : a ≤ 1000000000000) (hl : l.length ≤ 1000000000000) (hB : Below w0.heap.size w0 w) (ho : Own k29 29 w w0.heap.size s t v l) :
 Calls Tryd.prog 15 #[v, .int .i64 a] w fun e w' => ∃ r, e = .returned (.int .i64 r) ∧ r = a + 2 * (l.length : Int) ∧ Own k29 29 w' w0.heap.size s t v (markTone l.length a) ∧ Below w0.heap.size w0 w' ∧ Kept w w' (fun k => s ≤ k ∧ k < t) := by
 obtain ⟨k, h⟩ := Ev.rounds (markToneS_ev l a ha (by omega) (by omega))
 refine (laws_markToneS.calls k (fun k => s ≤ k ∧ k < t) v l a _ _ w0 w hB ho h).mono ?_
 rintro e w' ⟨rfl, hr, hb, hk⟩
 exact ⟨_, rfl, rfl, Own.back rfl ho hr, hb, hk⟩

theorem eqIntS_ev (l : List Int) (hl : l.length ≤ 1000000000000000) : Ev (fun k => laws_eqIntS.f k l l) true := by
 unfold laws_eqIntS.f
 refine Ev.pos rfl ?_
 have := Ev.over (0 : Int) l (fun k (_ : Unit) i => laws_eqIntS.l0 k l l i) (fun _ _ => true) (fun _ _ => True) (by
  intro s _
  refine Ev.succ ?_
  simp only [laws_eqIntS.l0]
  exact Ev.neg (by omega) (Ev.now _)) (by
  intro s i rest _ hi _ ih
  refine Ev.succ ?_
  simp only [laws_eqIntS.l0]
  refine Ev.pos (by omega) (Ev.pos (by omega) (Ev.pos (by omega) (Ev.pos (by simp) ?_)))
  rw [w64 (by omega) (by omega)]
  exact ih () trivial) 0 () (Nat.zero_le _) trivial
 simpa using this
theorem IntS_eq (l : List Int) (A0 A1 : Option Addr) (c0 c1 : Nat) (w : World) (hl : l.length ≤ 1000000000000) (hr0 : Kd.C (Kd.int .i64) w A0 l.length l) (hc0 : l.length ≤ c0) (hr1 : Kd.C (Kd.int .i64) w A1 l.length l) (hc1 : l.length ≤ c1) :
 Calls Tryd.prog 13 #[.slice A0 l.length c0, .slice A1 l.length c1] w fun e w' => e = .returned (.bool true) ∧ Below w.heap.size w w' := by
 obtain ⟨k, h⟩ := Ev.rounds (eqIntS_ev l (by omega))
 refine (laws_eqIntS.calls k A0 c0 l A1 c1 l true w hr0 hc0 hr1 hc1 h).mono ?_
 rintro e w' ⟨rfl, hd⟩
 exact ⟨rfl, hd.below⟩

def markInt : Nat → Int → List Int
 | 0, _ => []
 | n + 1, a => a :: markInt n (a + 1)
theorem markInt_len : ∀ n a, (markInt n a).length = n
 | 0, _ => rfl
 | n + 1, a => by simp [markInt, markInt_len n]
theorem markInt_get : ∀ (n : Nat) (a : Int) (i : Nat), i < n → (markInt n a).getD i 0 = a + i
 | 0, _, _, h => by omega
 | n + 1, a, 0, _ => by simp [markInt]
 | n + 1, a, i + 1, h => by
  have := markInt_get n (a + 1) i (by omega)
  simp only [markInt, List.getD_cons_succ]
  rw [this]; omega
theorem markIntS_ev (l : List Int) (a : Int) (ha : 0 ≤ a) (ha' : a ≤ 1000000000000000) (hl : l.length ≤ 1000000000000000) : Ev (fun k => laws_markIntS.f k l a) (a + l.length, markInt l.length a) := by
 unfold laws_markIntS.f
 have := Ev.over (0 : Int) l (fun k (s : List Int × Int) i => laws_markIntS.l0 k s.1 s.2 i) (fun s rest => (s.2 + (rest.length : Int), s.1.take (l.length - rest.length) ++ markInt rest.length s.2)) (fun i s => s.1.length = l.length ∧ s.2 = a + i) (by
  intro s hs
  refine Ev.succ ?_
  simp only [laws_markIntS.l0]
  refine Ev.eqr (Ev.neg (by omega) (Ev.now _)) ?_
  simp [← hs.1, markInt]) (by
  intro s i rest hs hi hdr ih
  have hrl : rest.length + 1 + i = l.length := by
   have := congrArg List.length hdr
   simp at this; omega
  refine Ev.succ ?_
  simp only [laws_markIntS.l0]
  refine Ev.pos (by omega) (Ev.pos (by omega) ?_)
  have h2 := hs.2
  rw [w64 (x := s.2 + 1) (by omega) (by omega), w64 (by omega) (by omega)]
  refine Ev.eqr (ih (_, s.2 + 1) ⟨by simpa using hs.1, by simp only []; omega⟩) ?_
  have e1 : l.length - rest.length = i + 1 := by omega
  have e2 : l.length - (l.getD i 0 :: rest).length = i := by simp; omega
  rw [e1, e2]
  simp only [Int.toNat_natCast, List.length_cons, markInt]
  refine Prod.ext (by simp only []; omega) ?_
  simp only []
  rw [List.take_set, List.take_succ_eq_append_getElem (by omega), List.set_append_right _ _ (by simp; omega)]
  have e3 : i - (s.1.take i).length = 0 := by simp; omega
  rw [e3]
  simp) 0 (l, a) (Nat.zero_le _) ⟨rfl, by simp⟩
 simpa using this

theorem IntS_mark (l : List Int) (a : Int) (s t : Nat) (v : Value) (w0 w : World) (ha : 0 ≤ a) (ha' : a ≤ 1000000000000) (hl : l.length ≤ 1000000000000) (hB : Below w0.heap.size w0 w) (ho : Own (Kd.int .i64) 3 w w0.heap.size s t v l) :
 Calls Tryd.prog 16 #[v, .int .i64 a] w fun e w' => ∃ r, e = .returned (.int .i64 r) ∧ r = a + (l.length : Int) ∧ Own (Kd.int .i64) 3 w' w0.heap.size s t v (markInt l.length a) ∧ Below w0.heap.size w0 w' ∧ Kept w w' (fun k => s ≤ k ∧ k < t) := by
 obtain ⟨k, h⟩ := Ev.rounds (markIntS_ev l a ha (by omega) (by omega))
 refine (laws_markIntS.calls k (fun k => s ≤ k ∧ k < t) v l a _ _ w0 w hB ho h).mono ?_
 rintro e w' ⟨rfl, hr, hb, hk⟩
 exact ⟨_, rfl, rfl, Own.back rfl ho hr, hb, hk⟩
theorem heldIntS_ev (n : Nat) (a : Int) (ha : 0 ≤ a) (ha' : a ≤ 1000000000000000) (hl : n ≤ 1000000000000000) : Ev (fun k => laws_heldIntS.f k (markInt n a) a) (a + n) := by
 unfold laws_heldIntS.f
 have := Ev.over (0 : Int) (markInt n a) (fun k (s : Int) i => laws_heldIntS.l0 k (markInt n a) s i) (fun s rest => s + (rest.length : Int)) (fun i s => s = a + i) (by
  intro s hs
  refine Ev.succ ?_
  simp only [laws_heldIntS.l0]
  refine Ev.eqr (Ev.neg (by omega) (Ev.now _)) ?_
  simp) (by
  intro s i rest hs hi hdr ih
  rw [markInt_len] at hi
  have hg : rd (markInt n a) i = a + i := markInt_get n a i hi
  refine Ev.succ ?_
  simp only [laws_heldIntS.l0]
  rw [hg, markInt_len]
  subst hs
  rw [w64 (x := a + i + 1) (by omega) (by omega), w64 (by omega) (by omega)]
  refine Ev.pos (by omega) (Ev.pos (by omega) (Ev.pos rfl ?_))
  refine Ev.eqr (ih _ (by omega)) ?_
  simp only [List.length_cons]; omega) 0 a (Nat.zero_le _) (by simp)
 simpa [markInt_len] using this
theorem IntS_held (n : Nat) (a : Int) (A : Option Addr) (c : Nat) (w : World) (ha : 0 ≤ a) (ha' : a ≤ 1000000000000) (hl : n ≤ 1000000000000) (hr : Kd.C (Kd.int .i64) w A n (markInt n a)) (hc : n ≤ c) :
 Calls Tryd.prog 17 #[.slice A n c, .int .i64 a] w fun e w' => ∃ r, e = .returned (.int .i64 r) ∧ r = a + (n : Int) ∧ Below w.heap.size w w' := by
 obtain ⟨k, h⟩ := Ev.rounds (heldIntS_ev n a ha (by omega) (by omega))
 have hm := markInt_len n a
 have hr' : Kd.C (Kd.int .i64) w A (markInt n a).length (markInt n a) := by rw [hm]; exact hr
 have := laws_heldIntS.calls k A c (markInt n a) a _ w hr' (by omega) h
 rw [hm] at this
 refine this.mono ?_
 rintro e w' ⟨rfl, hd⟩
 exact ⟨_, rfl, rfl, hd.below⟩

def Opn {α : Type} (P : Program) (t : TypeId) (d : Kd α) (ok : α → Prop) : Prop :=
 P.cellsOf t = d.sz ∧ ∀ {H : Type} (enc : TypeId × Value → H) (w : World) (base : Nat) (held : Bool) (fuel : Nat) (cs : List Value) (x : DataW H × List MemPlace), DataW.trod enc P w base (fun _ => true) held fuel t cs = some x → ∃ p, d.K w p cs ∧ ok p
theorem opn_int {P : Program} {t : TypeId} (k : IntKind) (ht : P.underlying t = some (.int k)) (hc : P.cellsOf t = 1) : Opn P t (Kd.int k) (fun n => (Lit.int k n).wf = true) :=
 ⟨hc, fun enc w base held fuel cs x h => by obtain ⟨n, rfl, _, hw⟩ := DataW.trod_int ht h; exact ⟨n, rfl, hw⟩⟩
theorem opn_bool {P : Program} {t : TypeId} (ht : P.underlying t = some .bool) (hc : P.cellsOf t = 1) : Opn P t Kd.bool (fun _ => True) :=
 ⟨hc, fun enc w base held fuel cs x h => by obtain ⟨n, rfl, _⟩ := DataW.trod_bool ht h; exact ⟨n, rfl, trivial⟩⟩
theorem opn_slice {α : Type} {P : Program} {t e : TypeId} {d : Kd α} {ok : α → Prop} (ht : P.underlying t = some (.slice e)) (hc : P.cellsOf t = 1) (he : Opn P e d ok) : Opn P t (Kd.slice e d) (fun l => (∀ x ∈ l, ok x) ∧ l.length ≤ maxLen) := by
 refine ⟨hc, fun enc w base held fuel cs x h => ?_⟩
 rcases Go.Deep.open_slice ht h with ⟨rfl, _⟩ | ⟨a, len, cap, m, n, D, Pl, rfl, _, hl, hm, hmm, _, hi⟩
 ·
  exact ⟨[], ⟨none, 0, rfl, Nat.le_refl _, rfl, by simp, fun h => by simp at h⟩, by simp, by simp⟩
 ·
  have hmc : m = cap := by simpa using hmm
  clear hmm
  have key : ∀ k, k ≤ len → ∃ l : List α, l.length = k ∧ (∀ x ∈ l, ok x) ∧ ∀ j p, l[j]? = some p → ∃ c, c.length = d.sz ∧ d.K w p c ∧ ∀ i u, c[i]? = some u → w.cell? (a.add (j * d.sz + i)) = some u := by
   intro k
   induction k with
   | zero => intro _; exact ⟨[], rfl, by simp, by simp⟩
   | succ k ih =>
    intro hk
    obtain ⟨l, hll, hlo, hlc⟩ := ih (by omega)
    obtain ⟨cs', hcs, ht'⟩ := hi k (by omega)
    rw [he.1] at hcs
    obtain ⟨p, hp, hop⟩ := he.2 enc w base held n cs' _ ht'
    obtain ⟨_, hcl, hat⟩ := World.cells?_some hcs
    refine ⟨l ++ [p], by simp [hll], ?_, ?_⟩
    ·
     intro x hx
     rcases List.mem_append.1 hx with hx | hx
     ·
      exact hlo x hx
     ·
      rw [List.mem_singleton.1 hx]; exact hop
    ·
     intro j q hq
     by_cases hj : j < l.length
     ·
      rw [List.getElem?_append_left hj] at hq
      exact hlc j q hq
     ·
      have hj2 : j = l.length := by
       have := (List.getElem?_eq_some_iff.1 hq).1
       simp at this; omega
      subst hj2
      rw [List.getElem?_append_right (Nat.le_refl _)] at hq
      simp at hq
      subst hq
      refine ⟨cs', hcl, hp, fun i u hu => ?_⟩
      have hil : i < d.sz := by rw [← hcl]; exact (List.getElem?_eq_some_iff.1 hu).1
      rw [hll, ← Go.Deep.add_add, hat i hil, hu]
  obtain ⟨l, hll, hlo, hlc⟩ := key len (Nat.le_refl _)
  subst hll
  exact ⟨l, ⟨some a, cap, rfl, hl, rfl, by unfold maxLen at hm; omega, fun _ => ⟨a, rfl, hlc⟩⟩, hlo, by omega⟩
theorem opn_iso {α β : Type} {P : Program} {t : TypeId} {d : Kd α} {ok : α → Prop} (h : Opn P t d ok) (f : β → α) (g : α → β) (hfg : ∀ x, f (g x) = x) : Opn P t (Kd.iso d f) (fun y => ok (f y)) :=
 ⟨h.1, fun enc w base held fuel cs x hx => by
  obtain ⟨p, hp, ho⟩ := h.2 enc w base held fuel cs x hx
  exact ⟨g p, by show d.K w (f (g p)) cs; rw [hfg]; exact hp, by show ok (f (g p)); rw [hfg]; exact ho⟩⟩
theorem opn_struct2 {α β : Type} {P : Program} {t : TypeId} {f0 f1 : Field} {a : Kd α} {b : Kd β} {oka : α → Prop} {okb : β → Prop} (ht : P.underlying t = some (.struct #[f0, f1])) (h0 : Opn P f0.type a oka) (h1 : Opn P f1.type b okb)
 (o0 : f0.offset = 0) (o1 : f1.offset = a.sz) (hc : P.cellsOf t = a.sz + b.sz) : Opn P t (Kd.pair a b) (fun p => oka p.1 ∧ okb p.2) := by
 refine ⟨hc, fun enc w base held fuel cs x h => ?_⟩
 obtain ⟨xs, n, _, _, hl, hxl, hg⟩ := DataW.trod_struct ht h
 have g0 := hg 0 f0 rfl
 have g1 := hg 1 f1 rfl
 rw [o0, h0.1, List.drop_zero] at g0
 rw [o1, h1.1] at g1
 rw [List.getElem?_eq_getElem (by rw [hxl]; simp)] at g0 g1
 obtain ⟨p, hp, hop⟩ := h0.2 enc w base held n _ _ g0
 obtain ⟨q, hq, hoq⟩ := h1.2 enc w base held n _ _ g1
 refine ⟨(p, q), ⟨cs.take a.sz, (cs.drop a.sz).take b.sz, ?_, hp, hq⟩, hop, hoq⟩
 rw [List.take_of_length_le (l := cs.drop a.sz) (by rw [List.length_drop, hl, hc]; omega), List.take_append_drop]
/-- A slice argument. -/
theorem opn_arg {α : Type} {P : Program} {t e : TypeId} {d : Kd α} {ok : List α → Prop} (h : Opn P t (Kd.slice e d) ok) {H : Type} {enc : TypeId × Value → H} {w : World} {base : Nat} {held : Bool} {a : Option Addr} {len cap : Nat} {x : DataW H} {p : List MemPlace} (hr : DataW.Trod enc P w base (fun _ => true) held t (.slice a len cap) x p) :
 ∃ l : List α, len = l.length ∧ l.length ≤ cap ∧ d.C w a l.length l ∧ ok l := by
 obtain ⟨fuel, hf⟩ := hr
 obtain ⟨l, ⟨A, c, he, hc, hC⟩, ho⟩ := h.2 enc w base held fuel _ _ hf
 simp [Value.cells] at he
 obtain ⟨rfl, rfl, rfl⟩ := he
 exact ⟨l, rfl, hc, hC, ho⟩

end Go.Proofs.YtiagfjbngpbejaaDoor.Pure
namespace Go.Proofs.YtiagfjbngpbejaaDoor.Pure
set_option linter.unusedVariables false
set_option linter.unusedSimpArgs false
open Go Go.RowKit Go.Proofs.YtiagfjbngpbejaaDoor.PFnExactSingBest Go.Proofs.YtiagfjbngpbejaaDoorW.PrintWords Go.Proofs.YtiagfjbngpbejaaDoorW.PrintLast Go.Proofs.YtiagfjbngpbejaaDoorW.PrintMore

set_option maxHeartbeats 8000000 in
set_option maxRecDepth 100000 in
theorem FnExactSingBest_walk (m : List S64) (Am : Option Addr) (cm : Nat) (w : World) (ht : NTab w) (hrm : Kd.C k64 w Am m.length m) (hcm : m.length ≤ cm) (hmm : m.length ≤ maxLen) :
 Calls Tryd.prog 4 #[.slice Am m.length cm] w fun e w' => e = .returned (.bool true) ∧ Below w.heap.size w w' := by
 have HT := Aside0.mk ht
 clear ht
 have HRm := Aside0.mk hrm
 have HCm := Aside0.mk hcm
 unfold maxLen at hmm
 clear hrm hcm
 by_cases z0 : (1048576 : Int) - (m.length : Int) < 0
 ·
  go_enter Tryd.func4, Tryd.ntmps4
  go_wp2_with fail
  refine (ToneS_sz m _ _ _ _ (by omega) (by omega) (by omega) HRm.out HCm.out).mono ?_
  rintro _ ws0 ⟨e0', rfl, he0', hb⟩
  have hb0 := hb
  have u0 : decide (e0' < 0) = true := by rw [he0', if_pos z0]; rfl
  clear he0' z0
  go_wp2
  go_ret
  exact ⟨rfl, hb0⟩
 obtain ⟨e0, he0⟩ : ∃ e : Int, e = (1048576 : Int) - (m.length : Int) := ⟨_, rfl⟩
 have t0 : decide (e0 < 0) = false := decide_eq_false (by omega)
 have y0 : m.length ≤ 1048576 := by omega
 have y0' : 0 ≤ e0 ∧ e0 ≤ 1048576 := by omega
 replace he0 := Aside0.mk he0
 obtain ⟨xm, hxm⟩ : ∃ x, x = m.map convTone := ⟨_, rfl⟩
 have lxm : xm.length ≤ 1048576 := by rw [hxm, List.length_map]; omega
 have Xm := Aside0.mk hxm
 clear hxm
 skip
 obtain ⟨r0, r1, hres⟩ : ∃ r0 r1, sBest xm = (r0, r1) := ⟨_, _, rfl⟩
 have lr : r0.length ≤ 2000000 := by have := sBest_len xm; rw [hres] at this; simp only [] at this; omega
 have RES := Aside0.mk hres
 clear hres
 go_enter Tryd.func4, Tryd.ntmps4
 go_wp2_with fail
 refine (ToneS_sz m _ _ _ _ (by omega) (by omega) (by omega) HRm.out HCm.out).mono ?_
 rintro _ w1 ⟨e', rfl, he', hb⟩
 obtain rfl : e' = e0 := by have := he0.out; rw [he', if_neg (by omega), this]
 clear he'
 have HB := Aside0.mk hb
 have S1 := Aside0.mk hb.size
 go_wp2_with fail
 refine (ToneS_to m _ _ _ (by omega) (Kd.C_below HRm.out HB.out) HCm.out).mono ?_
 rintro _ w2 ⟨vsm, rfl, ho, hb⟩
 rw [← Xm.out] at ho
 obtain ⟨Asm, csm, rfl, _, _⟩ := Kd.R_reads ho
 have Osm := Aside0.mk (Own.make ho HB.out.size)
 clear ho
 replace HB := Aside0.mk (below_step HB.out hb)
 have S2 := Aside0.mk hb.size
 go_wp2_with fail
 refine (spec_SingBest_x xm _ _ _ Osm.out.C Osm.out.cap (by omega)).mono ?_
 rintro _ w3 ⟨v, rfl, ho, hb⟩
 simp only [RES.out] at ho ⊢
 obtain ⟨AW, cW, rfl, _, _⟩ := Kd.R_reads ho
 replace Osm := Aside0.mk (Osm.out.below hb)
 have OW := Aside0.mk (Own.make ho HB.out.size)
 clear ho
 replace HB := Aside0.mk (below_step HB.out hb)
 have S3 := Aside0.mk hb.size
 clear Osm
 go_wp2_with fail
 refine (ToneS_to m _ _ _ (by omega) (Kd.C_below HRm.out HB.out) HCm.out).mono ?_
 rintro _ w4 ⟨vpm, rfl, ho, hb⟩
 rw [← Xm.out] at ho
 obtain ⟨Apm, cpm, rfl, _, _⟩ := Kd.R_reads ho
 replace OW := Aside0.mk (OW.out.below hb)
 have Opm := Aside0.mk (Own.make ho HB.out.size)
 clear ho
 replace HB := Aside0.mk (below_step HB.out hb)
 have S4 := Aside0.mk hb.size
 go_wp2_with fail
 refine (impl_SingBest_calls xm _ _ _ (HT.out.below HB.out) Opm.out.C Opm.out.cap ).mono ?_
 rintro _ w5 ⟨v, rfl, ho, hb⟩
 simp only [RES.out] at ho ⊢
 obtain ⟨AG, cG, rfl, _, _⟩ := Kd.R_reads ho
 replace OW := Aside0.mk (OW.out.below hb)
 replace Opm := Aside0.mk (Opm.out.below hb)
 have OG := Aside0.mk (Own.make ho HB.out.size)
 clear ho
 replace HB := Aside0.mk (below_step HB.out hb)
 have S5 := Aside0.mk hb.size
 go_wp2_with fail
 refine (IntS_eq r0 _ _ _ _ _ (by omega) OG.out.C OG.out.cap OW.out.C OW.out.cap).mono ?_
 rintro _ w6 ⟨rfl, hb⟩
 replace OW := Aside0.mk (OW.out.below hb)
 replace Opm := Aside0.mk (Opm.out.below hb)
 replace OG := Aside0.mk (OG.out.below hb)
 replace HB := Aside0.mk (below_step HB.out hb)
 have S6 := Aside0.mk hb.size
 go_wp2_with fail
 refine (ToneS_to m _ _ _ (by omega) (Kd.C_below HRm.out HB.out) HCm.out).mono ?_
 rintro _ w7 ⟨vtm, rfl, ho, hb⟩
 rw [← Xm.out] at ho
 obtain ⟨Atm, ctm, rfl, _, _⟩ := Kd.R_reads ho
 replace OW := Aside0.mk (OW.out.below hb)
 replace Opm := Aside0.mk (Opm.out.below hb)
 replace OG := Aside0.mk (OG.out.below hb)
 have Otm := Aside0.mk (Own.make ho HB.out.size)
 clear ho
 replace HB := Aside0.mk (below_step HB.out hb)
 have S7 := Aside0.mk hb.size
 go_wp2_with fail
 refine (ToneS_eq xm _ _ _ _ _ (by omega) Opm.out.C Opm.out.cap Otm.out.C Otm.out.cap).mono ?_
 rintro _ w8 ⟨rfl, hb⟩
 replace OW := Aside0.mk (OW.out.below hb)
 replace Opm := Aside0.mk (Opm.out.below hb)
 replace OG := Aside0.mk (OG.out.below hb)
 replace Otm := Aside0.mk (Otm.out.below hb)
 replace HB := Aside0.mk (below_step HB.out hb)
 have S8 := Aside0.mk hb.size
 clear Otm
 go_wp2_with fail
 refine (ToneS_mark xm _ _ _ _ w _ (by omega) (by omega) (by omega) HB.out Opm.out).mono ?_
 rintro _ w9 ⟨k0, rfl, hk0, ho, hb, hkept⟩
 clear Opm
 replace OW := Aside0.mk (OW.out.kept hkept (by intro k h1 h2 h3; have := S1.out; have := S2.out; have := S3.out; have := S4.out; have := S5.out; have := S6.out; have := S7.out; have := S8.out; omega))
 replace OG := Aside0.mk (OG.out.kept hkept (by intro k h1 h2 h3; have := S1.out; have := S2.out; have := S3.out; have := S4.out; have := S5.out; have := S6.out; have := S7.out; have := S8.out; omega))
 replace HB := Aside0.mk hb
 have S9 := Aside0.mk hkept.1
 have b0 : 0 ≤ k0 ∧ k0 ≤ 2097153 := by omega
 clear hk0 ho hkept
 have u : decide (k0 < 0) = false := decide_eq_false (by omega)
 go_wp2_with fail
 refine (IntS_eq r0 _ _ _ _ _ (by omega) OG.out.C OG.out.cap OW.out.C OW.out.cap).mono ?_
 rintro _ w10 ⟨rfl, hb⟩
 replace OW := Aside0.mk (OW.out.below hb)
 replace OG := Aside0.mk (OG.out.below hb)
 replace HB := Aside0.mk (below_step HB.out hb)
 have S10 := Aside0.mk hb.size
 go_wp2_with fail
 refine (IntS_mark r0 _ _ _ _ w _ (by omega) (by omega) (by omega) HB.out OG.out).mono ?_
 rintro _ w11 ⟨mk_, rfl, hm_, ho, hb, hkept⟩
 replace OW := Aside0.mk (OW.out.kept hkept (by intro k h1 h2 h3; have := S1.out; have := S2.out; have := S3.out; have := S4.out; have := S5.out; have := S6.out; have := S7.out; have := S8.out; have := S9.out; have := S10.out; omega))
 replace OG := Aside0.mk ho
 replace HB := Aside0.mk hb
 have S11 := Aside0.mk hkept.1
 clear ho hkept
 have um : decide (mk_ < 0) = false := decide_eq_false (by omega)
 have HM_ := Aside0.mk hm_
 clear hm_
 go_wp2_with fail
 refine (IntS_held r0.length 1 _ _ _ (by omega) (by omega) (by omega) (by have h := (Kd.R_reads' OG.out).2.2; rw [markInt_len] at h; exact h) OG.out.cap).mono ?_
 rintro _ w12 ⟨q, rfl, hq, hb⟩
 obtain rfl : mk_ = q := by rw [hq, HM_.out]
 clear hq
 replace OW := Aside0.mk (OW.out.below hb)
 replace OG := Aside0.mk (OG.out.below hb)
 replace HB := Aside0.mk (below_step HB.out hb)
 have S12 := Aside0.mk hb.size
 go_wp2_with fail
 refine (ToneS_to m _ _ _ (by omega) (Kd.C_below HRm.out HB.out) HCm.out).mono ?_
 rintro _ w13 ⟨vhm, rfl, ho, hb⟩
 rw [← Xm.out] at ho
 obtain ⟨Ahm, chm, rfl, _, _⟩ := Kd.R_reads ho
 replace OW := Aside0.mk (OW.out.below hb)
 replace OG := Aside0.mk (OG.out.below hb)
 have Ohm := Aside0.mk (Own.make ho HB.out.size)
 clear ho
 replace HB := Aside0.mk (below_step HB.out hb)
 have S13 := Aside0.mk hb.size
 go_wp2_with fail
 refine (impl_SingBest_calls xm _ _ _ (HT.out.below HB.out) Ohm.out.C Ohm.out.cap ).mono ?_
 rintro _ w14 ⟨v, rfl, ho, hb⟩
 simp only [RES.out] at ho ⊢
 obtain ⟨AH, cH, rfl, _, _⟩ := Kd.R_reads ho
 replace OW := Aside0.mk (OW.out.below hb)
 replace OG := Aside0.mk (OG.out.below hb)
 replace Ohm := Aside0.mk (Ohm.out.below hb)
 have OH := Aside0.mk (Own.make ho HB.out.size)
 clear ho
 replace HB := Aside0.mk (below_step HB.out hb)
 have S14 := Aside0.mk hb.size
 clear Ohm
 go_wp2_with fail
 refine (IntS_eq r0 _ _ _ _ _ (by omega) OH.out.C OH.out.cap OW.out.C OW.out.cap).mono ?_
 rintro _ w15 ⟨rfl, hb⟩
 replace OW := Aside0.mk (OW.out.below hb)
 replace OG := Aside0.mk (OG.out.below hb)
 replace OH := Aside0.mk (OH.out.below hb)
 replace HB := Aside0.mk (below_step HB.out hb)
 have S15 := Aside0.mk hb.size
 go_wp2_with fail
 refine (IntS_held r0.length 1 _ _ _ (by omega) (by omega) (by omega) (by have h := (Kd.R_reads' OG.out).2.2; rw [markInt_len] at h; exact h) OG.out.cap).mono ?_
 rintro _ w16 ⟨q, rfl, hq, hb⟩
 obtain rfl : mk_ = q := by rw [hq, HM_.out]
 clear hq
 replace OW := Aside0.mk (OW.out.below hb)
 replace OG := Aside0.mk (OG.out.below hb)
 replace OH := Aside0.mk (OH.out.below hb)
 replace HB := Aside0.mk (below_step HB.out hb)
 have S16 := Aside0.mk hb.size
 go_wp2
 go_ret
 exact ⟨rfl, HB.out⟩

end Go.Proofs.YtiagfjbngpbejaaDoor.Pure
