/- Lemmas for the law FnGroupsSplit. -/
import Derived.BigRegion
import Derived.Deep.Slices
import Derived.Laws.CopyOwn
import Derived.RangeFuncNested
import Derived.RangeFuncBox
import Derived.RangeFuncBound
import Derived.RangeFuncCalls
import Derived.RangeFuncLeaves
import Derived.Shelf.Abstract
import Derived.OwnWalkIn
import Derived.TacticsInMore
import Derived.LoopNIn
import Derived.LoopIn
import Derived.Stop.RegionWithIn
import Derived.Test.YtpcohkffbjdmfaaSFnGroupsSplits1
namespace Go.Proofs.Ytpcohkffbjdmfaa.PFnGroupsSplit
open Go.RowKit Go.Proofs.YtpcohkffbjdmfaaW.PrintWords Go.Proofs.YtpcohkffbjdmfaaW.PrintLast Go.Proofs.YtpcohkffbjdmfaaW.PrintMore
attribute [local go_sem] max2_int min2_int max_two min_two max_three min_three max_four min_four   -- for this text's walks alone
set_option linter.unusedVariables false
set_option linter.unusedSimpArgs false

def spec_ToneValid.f (a0_0 : Int) (a0_1 : Bool) : Option (Bool) := (spec_l6In.f a0_0 0 20).bind fun t223 => (if t223 = true then (if a0_1 = true then ((spec_l1Letter.f a0_0).bind fun t224 => (some (t224 == 2))) else (some true)) else (some false))
set_option maxHeartbeats 8000000 in
set_option maxRecDepth 100000 in
theorem spec_ToneValid.calls (a0_0 : Int) (a0_1 : Bool) (r : Bool) (w : World) (h : spec_ToneValid.f a0_0 a0_1 = some r) :
 Calls Try.prog 27 #[.agg #[.int .i64 a0_0, .bool a0_1]] w fun e w' => e = .returned (.bool r) ∧ Below w.heap.size w w' := by
 have hu59 := Try.underlying59; have HB := Aside0.mk (Below.refl w.heap.size w); have H : ((spec_l6In.f a0_0 0 20).bind fun t223 => (if t223 = true then (if a0_1 = true then ((spec_l1Letter.f a0_0).bind fun t224 => (some (t224 == 2))) else (some true)) else (some false))) = some r := h; clear h; replace H := Option.bind_eq_some_iff.mp H; obtain ⟨t223, A20, H⟩ := H; replace H : (if t223 = true then (if a0_1 = true then ((spec_l1Letter.f a0_0).bind fun t224 => (some (t224 == 2))) else (some true)) else (some false)) = some r := H; have A2 := Aside0.mk A20; clear A20; by_cases c3 : t223 = true
 ·
  subst c3; have H1 : (if a0_1 = true then ((spec_l1Letter.f a0_0).bind fun t224 => (some (t224 == 2))) else (some true)) = some r := by rw [if_pos rfl] at H; exact H
  clear H; have H := H1; clear H1; by_cases c4 : a0_1 = true
  ·
   subst c4; have H1 : ((spec_l1Letter.f a0_0).bind fun t224 => (some (t224 == 2))) = some r := by rw [if_pos rfl] at H; exact H
   clear H; have H := H1; clear H1; replace H := Option.bind_eq_some_iff.mp H; obtain ⟨t224, A50, H⟩ := H; replace H : (some (t224 == 2)) = some r := H; have A5 := Aside0.mk A50; clear A50; obtain rfl := Option.some.inj H; go_enter Try.func27, Try.ntmps27
   go_wp2_with (first | ((with_reducible refine gate_dst (N := 1) rfl ?_); refine box_event ?hg (N := 1) ?hd (cs := #[.int .i64 a0_0, .bool true]) (t := 59) ?hr ?_; (case hd => rfl); (case hg => rfl); (case hr => first | (go_simp; done) | (go_simp; rfl)); intro gb222 hg w6 hbox hb; have n0_ := Aside0.mk (below_step (by repeat (first | (with_reducible first | exact HB.out | apply below_alloc | apply pw_below_drewN | apply below_drew1) | exact HB.out)) hb); have n1_ := Aside0.mk (hbox); have n2_ := Aside0.mk ((by rw [hg]; exact (below_size (by repeat (first | (with_reducible first | exact HB.out | apply below_alloc | apply pw_below_drewN | apply below_drew1) | exact HB.out))) : w.heap.size ≤ gb222)); have n3_ := Aside0.mk ((by rw [hg]; exact (below_size (by repeat (first | (with_reducible first | exact HB.out | apply below_alloc | apply pw_below_drewN | apply below_drew1) | exact HB.out))) : w.heap.size ≤ gb222)); clear HB; have HB := n0_; have BK222 := n1_; have GW222 := n2_; have GE222 := n3_; clear n0_ n1_ n2_ n3_; clear hb hbox hg; have hcz7_0 : w6.cell? ⟨gb222, 0, none⟩ = some (.int .i64 a0_0) := (blk_cell BK222.out 0).trans rfl; have hcz7_1 : w6.cell? ⟨gb222, 1, none⟩ = some (.bool true) := (blk_cell BK222.out 1).trans rfl; have hfz7_0 := blk_frozen BK222.out 0; have hfz7_1 := blk_frozen BK222.out 1) | ((with_reducible refine gate_callee (f := 17) rfl ?_); refine goesL_ (some 5) rfl rfl Try.func17 (by kernel_rfl) rfl #[.int .i64 a0_0, .int .i64 0, .int .i64 20] rfl (by (try simp only [List.map_toArray, List.map_cons, List.map_nil]); first | done | rfl | (simp only [List.length_drop, List.length_take]; rfl)) ?_; (with_reducible refine (spec_l6In.calls a0_0 0 20 true _ A2.out).mono ?_); rintro e w' ⟨rfl, ⟨nd, rfl⟩⟩; refine ⟨_, rfl, ?_⟩) | (go_at_call 26; (with_reducible refine (spec_l1Letter.calls a0_0 t224 _ A5.out).mono ?_); rintro e w' ⟨rfl, ⟨nd, rfl⟩⟩))
   go_ret
   exact ⟨by first | rfl | (simp [errW_none, errW_some] <;> rfl) | (simp [*, errW_none, errW_some] <;> rfl), by repeat (first | (with_reducible first | exact HB.out | apply below_alloc | apply pw_below_drewN | apply below_drew1 | refine below_set ?_ GE222.out) | exact HB.out)⟩
  ·
   replace c4 := Bool.eq_false_iff.mpr c4; subst c4; have H1 : (some true) = some r := by rw [if_neg (show ¬ (false = true) by decide)] at H; exact H
   clear H; have H := H1; clear H1; obtain rfl := Option.some.inj H; go_enter Try.func27, Try.ntmps27
   go_wp2_with (first | ((with_reducible refine gate_dst (N := 1) rfl ?_); refine box_event ?hg (N := 1) ?hd (cs := #[.int .i64 a0_0, .bool false]) (t := 59) ?hr ?_; (case hd => rfl); (case hg => rfl); (case hr => first | (go_simp; done) | (go_simp; rfl)); intro gb222 hg w8 hbox hb; have n0_ := Aside0.mk (below_step (by repeat (first | (with_reducible first | exact HB.out | apply below_alloc | apply pw_below_drewN | apply below_drew1) | exact HB.out)) hb); have n1_ := Aside0.mk (hbox); have n2_ := Aside0.mk ((by rw [hg]; exact (below_size (by repeat (first | (with_reducible first | exact HB.out | apply below_alloc | apply pw_below_drewN | apply below_drew1) | exact HB.out))) : w.heap.size ≤ gb222)); have n3_ := Aside0.mk ((by rw [hg]; exact (below_size (by repeat (first | (with_reducible first | exact HB.out | apply below_alloc | apply pw_below_drewN | apply below_drew1) | exact HB.out))) : w.heap.size ≤ gb222)); clear HB; have HB := n0_; have BK222 := n1_; have GW222 := n2_; have GE222 := n3_; clear n0_ n1_ n2_ n3_; clear hb hbox hg; have hcz9_0 : w8.cell? ⟨gb222, 0, none⟩ = some (.int .i64 a0_0) := (blk_cell BK222.out 0).trans rfl; have hcz9_1 : w8.cell? ⟨gb222, 1, none⟩ = some (.bool false) := (blk_cell BK222.out 1).trans rfl; have hfz9_0 := blk_frozen BK222.out 0; have hfz9_1 := blk_frozen BK222.out 1) | ((with_reducible refine gate_callee (f := 17) rfl ?_); refine goesL_ (some 5) rfl rfl Try.func17 (by kernel_rfl) rfl #[.int .i64 a0_0, .int .i64 0, .int .i64 20] rfl (by (try simp only [List.map_toArray, List.map_cons, List.map_nil]); first | done | rfl | (simp only [List.length_drop, List.length_take]; rfl)) ?_; (with_reducible refine (spec_l6In.calls a0_0 0 20 true _ A2.out).mono ?_); rintro e w' ⟨rfl, ⟨nd, rfl⟩⟩; refine ⟨_, rfl, ?_⟩))
   go_ret
   exact ⟨by first | rfl | (simp [errW_none, errW_some] <;> rfl) | (simp [*, errW_none, errW_some] <;> rfl), by repeat (first | (with_reducible first | exact HB.out | apply below_alloc | apply pw_below_drewN | apply below_drew1 | refine below_set ?_ GE222.out) | exact HB.out)⟩
 ·
  replace c3 := Bool.eq_false_iff.mpr c3; subst c3; have H1 : (some false) = some r := by rw [if_neg (show ¬ (false = true) by decide)] at H; exact H
  clear H; have H := H1; clear H1; obtain rfl := Option.some.inj H; go_enter Try.func27, Try.ntmps27
  go_wp2_with (first | ((with_reducible refine gate_dst (N := 1) rfl ?_); refine box_event ?hg (N := 1) ?hd (cs := #[.int .i64 a0_0, .bool a0_1]) (t := 59) ?hr ?_; (case hd => rfl); (case hg => rfl); (case hr => first | (go_simp; done) | (go_simp; rfl)); intro gb222 hg w10 hbox hb; have n0_ := Aside0.mk (below_step (by repeat (first | (with_reducible first | exact HB.out | apply below_alloc | apply pw_below_drewN | apply below_drew1) | exact HB.out)) hb); have n1_ := Aside0.mk (hbox); have n2_ := Aside0.mk ((by rw [hg]; exact (below_size (by repeat (first | (with_reducible first | exact HB.out | apply below_alloc | apply pw_below_drewN | apply below_drew1) | exact HB.out))) : w.heap.size ≤ gb222)); have n3_ := Aside0.mk ((by rw [hg]; exact (below_size (by repeat (first | (with_reducible first | exact HB.out | apply below_alloc | apply pw_below_drewN | apply below_drew1) | exact HB.out))) : w.heap.size ≤ gb222)); clear HB; have HB := n0_; have BK222 := n1_; have GW222 := n2_; have GE222 := n3_; clear n0_ n1_ n2_ n3_; clear hb hbox hg; have hcz11_0 : w10.cell? ⟨gb222, 0, none⟩ = some (.int .i64 a0_0) := (blk_cell BK222.out 0).trans rfl; have hcz11_1 : w10.cell? ⟨gb222, 1, none⟩ = some (.bool a0_1) := (blk_cell BK222.out 1).trans rfl; have hfz11_0 := blk_frozen BK222.out 0; have hfz11_1 := blk_frozen BK222.out 1) | ((with_reducible refine gate_callee (f := 17) rfl ?_); refine goesL_ (some 5) rfl rfl Try.func17 (by kernel_rfl) rfl #[.int .i64 a0_0, .int .i64 0, .int .i64 20] rfl (by (try simp only [List.map_toArray, List.map_cons, List.map_nil]); first | done | rfl | (simp only [List.length_drop, List.length_take]; rfl)) ?_; (with_reducible refine (spec_l6In.calls a0_0 0 20 false _ A2.out).mono ?_); rintro e w' ⟨rfl, ⟨nd, rfl⟩⟩; refine ⟨_, rfl, ?_⟩))
  go_ret
  exact ⟨by first | rfl | (simp [errW_none, errW_some] <;> rfl) | (simp [*, errW_none, errW_some] <;> rfl), by repeat (first | (with_reducible first | exact HB.out | apply below_alloc | apply pw_below_drewN | apply below_drew1 | refine below_set ?_ GE222.out) | exact HB.out)⟩

end Go.Proofs.Ytpcohkffbjdmfaa.PFnGroupsSplit
namespace Go.Proofs.Ytpcohkffbjdmfaa.PFnGroupsSplit
open Go.RowKit Go.Proofs.YtpcohkffbjdmfaaW.PrintWords Go.Proofs.YtpcohkffbjdmfaaW.PrintLast Go.Proofs.YtpcohkffbjdmfaaW.PrintMore
attribute [local go_sem] max2_int min2_int max_two min_two max_three min_three max_four min_four   -- for this text's walks alone
set_option linter.unusedVariables false
set_option linter.unusedSimpArgs false

def spec_MelodyValid.l0 : Nat → List (S59) → Int → Option (Bool)
 | 0, _, _ => none
 | k + 1, x0, x3 => if x3 < (x0.length : Int) then (if 0 ≤ x3 then ((spec_ToneValid.f ((rd_T59 x0 x3).f0) ((rd_T59 x0 x3).f1)).bind fun t226 => (if t226 = true then (spec_MelodyValid.l0 k x0 (wrap64 (x3 + 1))) else (some false))) else (none)) else (some (decide ((x0.length : Int) ≤ 24)))
def spec_MelodyValid.f (k : Nat) (l0 : List (S59)) : Option (Bool) := spec_MelodyValid.l0 k l0 0
set_option maxHeartbeats 8000000 in
set_option maxRecDepth 100000 in
theorem spec_MelodyValid.calls (k : Nat) (A0 : Option Addr) (c0 : Nat) (l0 : List (S59)) (r : Bool) (w : World) (hr0 : Kd.C k59 w A0 l0.length l0) (hc0 : l0.length ≤ c0) (h : spec_MelodyValid.f k l0 = some r) :
 Calls Try.prog 23 #[.slice A0 l0.length c0] w fun e w' => e = .returned (.bool r) ∧ Below w.heap.size w w' := by
 have hu59 := Try.underlying59; have HR0 := Aside0.mk hr0; have HC0 := Aside0.mk hc0; clear hr0 hc0; have HB := Aside0.mk (Below.refl w.heap.size w); have H : (spec_MelodyValid.l0 k l0 0) = some r := h; clear h; have H' := Aside0.mk H; clear H; go_enter Try.func23, Try.ntmps23
 go_wp2; go_loopg [3] k (fun kq v3 w' => ∃ (x3_1 : Int), v3 = .int .i64 x3_1 ∧ Aside0 (spec_MelodyValid.l0 kq l0 x3_1 = some r) ∧ Aside0 (kq ≤ k) ∧ Aside0 (Below w.heap.size w w'))
 case atStart => exact ⟨(0), (by first | rfl | (simp; done) | (simp [*]; done)), H', ⟨Nat.le_refl _⟩, ⟨by repeat (first | (with_reducible first | exact HB.out | apply below_alloc | apply pw_below_drewN | apply below_drew1) | exact HB.out)⟩⟩
 case round =>
  clear H'; obtain ⟨x3_1, rfl, HA, HK1, HB⟩ := hrel; cases gk with
  | zero => exact absurd HA.out (by simp [spec_MelodyValid.l0])
  | succ k1 =>
   have H := HA.out; clear HA; simp only [spec_MelodyValid.l0] at H; by_cases c2 : x3_1 < (l0.length : Int)
   ·
    rw [if_pos c2] at H; have c2b0 : decide (x3_1 < (l0.length : Int)) = true := decide_eq_true c2; clear c2; by_cases c3 : 0 ≤ x3_1
    ·
     rw [if_pos c3] at H; have c3b0 : decide (0 ≤ x3_1) = true := decide_eq_true c3; clear c3; replace H := Option.bind_eq_some_iff.mp H; obtain ⟨t226, A40, H⟩ := H; replace H : (if t226 = true then (spec_MelodyValid.l0 k1 l0 (wrap64 (x3_1 + 1))) else (some false)) = some r := H; have A4 := Aside0.mk A40; clear A40; by_cases c5 : t226 = true
     ·
      subst c5; have H1 : (spec_MelodyValid.l0 k1 l0 (wrap64 (x3_1 + 1))) = some r := by rw [if_pos rfl] at H; exact H
      clear H; have H := H1; clear H1; have H' := Aside0.mk H; clear H; have p225 : 0 ≤ (x3_1 : Int) := of_decide_eq_true (by first | (with_reducible assumption) | assumption); have q225 : x3_1 < (l0.length : Int) := of_decide_eq_true (by first | (with_reducible assumption) | assumption); obtain ⟨ad225, e225, hx225_0, hx225_1⟩ := at_T59 HR0.out x3_1 p225 q225; cases e225; replace hx225_0 := (HB.out.cell (World.block_lt_of_cell? w _ hx225_0)).trans hx225_0; replace hx225_1 := (HB.out.cell (World.block_lt_of_cell? w _ hx225_1)).trans hx225_1; replace p225 := eq_true p225; replace q225 := eq_true q225; go_wp2_with (first | ((with_reducible refine gate_callee (f := 27) rfl ?_); refine goesL_ (some 14) rfl rfl Try.func27 (by kernel_rfl) rfl #[.agg #[.int .i64 ((rd_T59 l0 x3_1).f0), .bool ((rd_T59 l0 x3_1).f1)]] rfl (by (try simp only [List.map_toArray, List.map_cons, List.map_nil]); first | done | rfl | (simp only [List.length_drop, List.length_take]; rfl)) ?_; (with_reducible refine (spec_ToneValid.calls ((rd_T59 l0 x3_1).f0) ((rd_T59 l0 x3_1).f1) true _ A4.out).mono ?_); rintro e w6 ⟨rfl, hb⟩; refine ⟨_, rfl, ?_⟩; have n0_ := Aside0.mk (below_step (by repeat (first | (with_reducible first | exact HB.out | apply below_alloc | apply pw_below_drewN | apply below_drew1) | exact HB.out)) hb); clear HB; have HB := n0_; clear n0_; (try clear hb); (try clear hb2); (try clear hk); (try clear hi)))
      go_roundg k1
      case measure => have := HK1.out; omega
      case rel => exact ⟨(wrap64 (x3_1 + 1)), (by first | rfl | (simp; done) | (simp [*]; done)), H', ⟨by have := HK1.out; omega⟩, ⟨by repeat (first | (with_reducible first | exact HB.out | apply below_alloc | apply pw_below_drewN | apply below_drew1) | exact HB.out)⟩⟩
     ·
      replace c5 := Bool.eq_false_iff.mpr c5; subst c5; have H1 : (some false) = some r := by rw [if_neg (show ¬ (false = true) by decide)] at H; exact H
      clear H; have H := H1; clear H1; obtain rfl := Option.some.inj H; have p225 : 0 ≤ (x3_1 : Int) := of_decide_eq_true (by first | (with_reducible assumption) | assumption); have q225 : x3_1 < (l0.length : Int) := of_decide_eq_true (by first | (with_reducible assumption) | assumption); obtain ⟨ad225, e225, hx225_0, hx225_1⟩ := at_T59 HR0.out x3_1 p225 q225; cases e225; replace hx225_0 := (HB.out.cell (World.block_lt_of_cell? w _ hx225_0)).trans hx225_0; replace hx225_1 := (HB.out.cell (World.block_lt_of_cell? w _ hx225_1)).trans hx225_1; replace p225 := eq_true p225; replace q225 := eq_true q225; go_wp2_with (first | ((with_reducible refine gate_callee (f := 27) rfl ?_); refine goesL_ (some 14) rfl rfl Try.func27 (by kernel_rfl) rfl #[.agg #[.int .i64 ((rd_T59 l0 x3_1).f0), .bool ((rd_T59 l0 x3_1).f1)]] rfl (by (try simp only [List.map_toArray, List.map_cons, List.map_nil]); first | done | rfl | (simp only [List.length_drop, List.length_take]; rfl)) ?_; (with_reducible refine (spec_ToneValid.calls ((rd_T59 l0 x3_1).f0) ((rd_T59 l0 x3_1).f1) false _ A4.out).mono ?_); rintro e w7 ⟨rfl, hb⟩; refine ⟨_, rfl, ?_⟩; have n0_ := Aside0.mk (below_step (by repeat (first | (with_reducible first | exact HB.out | apply below_alloc | apply pw_below_drewN | apply below_drew1) | exact HB.out)) hb); clear HB; have HB := n0_; clear n0_; (try clear hb); (try clear hb2); (try clear hk); (try clear hi)))
      go_ret
      exact ⟨by first | rfl | (simp [errW_none, errW_some] <;> rfl) | (simp [*, errW_none, errW_some] <;> rfl), by repeat (first | (with_reducible first | exact HB.out | apply below_alloc | apply pw_below_drewN | apply below_drew1) | exact HB.out)⟩
    ·
     rw [if_neg c3] at H; exact absurd H (by simp)
   ·
    rw [if_neg c2] at H; have c2b0 : decide (x3_1 < (l0.length : Int)) = false := decide_eq_false c2; clear c2; obtain rfl := Option.some.inj H; go_wp2; go_ret
    exact ⟨by first | rfl | (simp [errW_none, errW_some] <;> rfl) | (simp [*, errW_none, errW_some] <;> rfl), by repeat (first | (with_reducible first | exact HB.out | apply below_alloc | apply pw_below_drewN | apply below_drew1) | exact HB.out)⟩

end Go.Proofs.Ytpcohkffbjdmfaa.PFnGroupsSplit
namespace Go.Proofs.Ytpcohkffbjdmfaa.PFnGroupsSplit
open Go.RowKit Go.Proofs.YtpcohkffbjdmfaaW.PrintWords Go.Proofs.YtpcohkffbjdmfaaW.PrintLast Go.Proofs.YtpcohkffbjdmfaaW.PrintMore
attribute [local go_sem] max2_int min2_int max_two min_two max_three min_three max_four min_four   -- for this text's walks alone
set_option linter.unusedVariables false
set_option linter.unusedSimpArgs false

mutual
def spec_GroupsValid.j0 : Nat → List (S59) → List (S43) → Bool → Option (Bool)
 | 0, _, _, _ => none
 | k + 1, x0, x1, x14 => if x14 = true then (some false) else (spec_GroupsValid.l0 k x0 x1 0 0)
def spec_GroupsValid.l0 : Nat → List (S59) → List (S43) → Int → Int → Option (Bool)
 | 0, _, _, _, _ => none
 | k + 1, x0, x1, x5, x6 => if x6 < (x1.length : Int) then (if 0 ≤ x6 then ((spec_l6In.f ((rd_T43 x1 x6).f0) 1 4).bind fun t229 => (if t229 = true then (spec_GroupsValid.l0 k x0 x1 (wrap64 (x5 + ((rd_T43 x1 x6).f0))) (wrap64 (x6 + 1))) else (some false))) else (none)) else (some (x5 == (x0.length : Int)))
end
def spec_GroupsValid.f (k : Nat) (l0 : List (S59)) (l1 : List (S43)) : Option (Bool) := (spec_MelodyValid.f k l0).bind fun t227 => (if t227 = true then (spec_GroupsValid.j0 k l0 l1 (decide ((l1.length : Int) > 24))) else (spec_GroupsValid.j0 k l0 l1 true))
set_option maxHeartbeats 8000000 in
set_option maxRecDepth 100000 in
theorem spec_GroupsValid.calls (k : Nat) (A0 : Option Addr) (c0 : Nat) (l0 : List (S59)) (A1 : Option Addr) (c1 : Nat) (l1 : List (S43)) (r : Bool) (w : World) (hr0 : Kd.C k59 w A0 l0.length l0) (hc0 : l0.length ≤ c0) (hr1 : Kd.C k43 w A1 l1.length l1) (hc1 : l1.length ≤ c1) (h : spec_GroupsValid.f k l0 l1 = some r) :
 Calls Try.prog 16 #[.slice A0 l0.length c0, .slice A1 l1.length c1] w fun e w' => e = .returned (.bool r) ∧ Below w.heap.size w w' := by
 have HR0 := Aside0.mk hr0; have HC0 := Aside0.mk hc0; clear hr0 hc0; have HR1 := Aside0.mk hr1; have HC1 := Aside0.mk hc1; clear hr1 hc1; have HB := Aside0.mk (Below.refl w.heap.size w); have H : ((spec_MelodyValid.f k l0).bind fun t227 => (if t227 = true then (spec_GroupsValid.j0 k l0 l1 (decide ((l1.length : Int) > 24))) else (spec_GroupsValid.j0 k l0 l1 true))) = some r := h; clear h; have HC3 := Aside0.mk H; clear H; go_enter Try.func16, Try.ntmps16
 go_upto_region 1 with (fail)
 go_cut [14] (fun v14 wc => ∃ (kq : Nat) (x14_2 : Bool), v14 = .bool x14_2 ∧ Aside0 (spec_GroupsValid.j0 kq l0 l1 x14_2 = some r) ∧ Aside0 (kq ≤ k) ∧ Aside0 (Below w.heap.size w wc))
 case first =>
  have H := HC3.out; clear HC3; replace H := Option.bind_eq_some_iff.mp H; obtain ⟨t227, A40, H⟩ := H; replace H : (if t227 = true then (spec_GroupsValid.j0 k l0 l1 (decide ((l1.length : Int) > 24))) else (spec_GroupsValid.j0 k l0 l1 true)) = some r := H; have A4 := Aside0.mk A40; clear A40; by_cases c5 : t227 = true
  ·
   subst c5; have H1 : (spec_GroupsValid.j0 k l0 l1 (decide ((l1.length : Int) > 24))) = some r := by rw [if_pos rfl] at H; exact H
   clear H; have H := H1; clear H1; have H' := Aside0.mk H; clear H; go_wp2_with (first | ((with_reducible refine gate_callee (f := 23) rfl ?_); refine goesL_ (some 8) rfl rfl Try.func23 (by kernel_rfl) rfl #[.slice A0 l0.length c0] rfl (by (try simp only [List.map_toArray, List.map_cons, List.map_nil]); first | done | rfl | (simp only [List.length_drop, List.length_take]; rfl)) ?_; (with_reducible refine (spec_MelodyValid.calls k _ _ l0 true _ ?side1 ?side2 A4.out).mono ?_); (case side1 => repeat (first | exact (Kd.C_below HR0.out HB.out) | (with_reducible refine Kd.C_alloc ?_ _) | (with_reducible refine Kd.C_drewN ?_ _) | (with_reducible refine Kd.C_drew ?_))); (case side2 => exact HC0.out); rintro e w6 ⟨rfl, hb⟩; refine ⟨_, rfl, ?_⟩; have n0_ := Aside0.mk (below_step (by repeat (first | (with_reducible first | exact HB.out | apply below_alloc | apply pw_below_drewN | apply below_drew1) | exact HB.out)) hb); clear HB; have HB := n0_; clear n0_; (try clear hb); (try clear hb2); (try clear hk); (try clear hi)))
   go_meet
   case rel => exact ⟨_, (decide ((l1.length : Int) > 24)), (by first | rfl | (simp; done) | (simp [*]; done)), H', ⟨by first | omega | exact Nat.le_refl _⟩, ⟨by repeat (first | (with_reducible first | exact HB.out | apply below_alloc | apply pw_below_drewN | apply below_drew1) | exact HB.out)⟩⟩
  ·
   replace c5 := Bool.eq_false_iff.mpr c5; subst c5; have H1 : (spec_GroupsValid.j0 k l0 l1 true) = some r := by rw [if_neg (show ¬ (false = true) by decide)] at H; exact H
   clear H; have H := H1; clear H1; have H' := Aside0.mk H; clear H; go_wp2_with (first | ((with_reducible refine gate_callee (f := 23) rfl ?_); refine goesL_ (some 8) rfl rfl Try.func23 (by kernel_rfl) rfl #[.slice A0 l0.length c0] rfl (by (try simp only [List.map_toArray, List.map_cons, List.map_nil]); first | done | rfl | (simp only [List.length_drop, List.length_take]; rfl)) ?_; (with_reducible refine (spec_MelodyValid.calls k _ _ l0 false _ ?side1 ?side2 A4.out).mono ?_); (case side1 => repeat (first | exact (Kd.C_below HR0.out HB.out) | (with_reducible refine Kd.C_alloc ?_ _) | (with_reducible refine Kd.C_drewN ?_ _) | (with_reducible refine Kd.C_drew ?_))); (case side2 => exact HC0.out); rintro e w7 ⟨rfl, hb⟩; refine ⟨_, rfl, ?_⟩; have n0_ := Aside0.mk (below_step (by repeat (first | (with_reducible first | exact HB.out | apply below_alloc | apply pw_below_drewN | apply below_drew1) | exact HB.out)) hb); clear HB; have HB := n0_; clear n0_; (try clear hb); (try clear hb2); (try clear hk); (try clear hi)))
   go_meet
   case rel => exact ⟨_, (true), (by first | rfl | (simp; done) | (simp [*]; done)), H', ⟨by first | omega | exact Nat.le_refl _⟩, ⟨by repeat (first | (with_reducible first | exact HB.out | apply below_alloc | apply pw_below_drewN | apply below_drew1) | exact HB.out)⟩⟩
 case rest =>
  clear HC3; try clear c1
  try clear c2
  try clear p2
  try clear c5
  obtain ⟨kq, x14_2, rfl, HA, HJ2, HB⟩ := hcut; cases kq with
  | zero => exact absurd HA.out (by simp [spec_GroupsValid.j0])
  | succ kj2 =>
   have H := HA.out; clear HA; simp only [spec_GroupsValid.j0] at H; by_cases c8 : x14_2 = true
   ·
    subst c8; have H1 : (some false) = some r := by rw [if_pos rfl] at H; exact H
    clear H; have H := H1; clear H1; obtain rfl := Option.some.inj H; go_wp2; go_ret
    exact ⟨by first | rfl | (simp [errW_none, errW_some] <;> rfl) | (simp [*, errW_none, errW_some] <;> rfl), by repeat (first | (with_reducible first | exact HB.out | apply below_alloc | apply pw_below_drewN | apply below_drew1) | exact HB.out)⟩
   ·
    replace c8 := Bool.eq_false_iff.mpr c8; subst c8; have H1 : (spec_GroupsValid.l0 kj2 l0 l1 0 0) = some r := by rw [if_neg (show ¬ (false = true) by decide)] at H; exact H
    clear H; have H := H1; clear H1; have H' := Aside0.mk H; clear H; go_wp2; go_loopg [5, 6] kj2 (fun kq v5 v6 w' => ∃ (x5_2 : Int) (x6_2 : Int), v5 = .int .i64 x5_2 ∧ v6 = .int .i64 x6_2 ∧ Aside0 (spec_GroupsValid.l0 kq l0 l1 x5_2 x6_2 = some r) ∧ Aside0 (kq ≤ kj2) ∧ Aside0 (Below w.heap.size w w'))
    case atStart => exact ⟨(0), (0), (by first | rfl | (simp; done) | (simp [*]; done)), (by first | rfl | (simp; done) | (simp [*]; done)), H', ⟨Nat.le_refl _⟩, ⟨by repeat (first | (with_reducible first | exact HB.out | apply below_alloc | apply pw_below_drewN | apply below_drew1) | exact HB.out)⟩⟩
    case round =>
     clear H'; try clear c1
     try clear c2
     try clear p2
     try clear c5
     try clear c8
     try clear p2
     obtain ⟨x5_2, x6_2, rfl, rfl, HA, HK2, HB⟩ := hrel; cases gk with
     | zero => exact absurd HA.out (by simp [spec_GroupsValid.l0])
     | succ k2 =>
      have H := HA.out; clear HA; simp only [spec_GroupsValid.l0] at H; by_cases c9 : x6_2 < (l1.length : Int)
      ·
       rw [if_pos c9] at H; have c9b0 : decide (x6_2 < (l1.length : Int)) = true := decide_eq_true c9; clear c9; by_cases c10 : 0 ≤ x6_2
       ·
        rw [if_pos c10] at H; have c10b0 : decide (0 ≤ x6_2) = true := decide_eq_true c10; clear c10; replace H := Option.bind_eq_some_iff.mp H; obtain ⟨t229, A110, H⟩ := H; replace H : (if t229 = true then (spec_GroupsValid.l0 k2 l0 l1 (wrap64 (x5_2 + ((rd_T43 l1 x6_2).f0))) (wrap64 (x6_2 + 1))) else (some false)) = some r := H; have A11 := Aside0.mk A110; clear A110; by_cases c12 : t229 = true
        ·
         subst c12; have H1 : (spec_GroupsValid.l0 k2 l0 l1 (wrap64 (x5_2 + ((rd_T43 l1 x6_2).f0))) (wrap64 (x6_2 + 1))) = some r := by rw [if_pos rfl] at H; exact H
         clear H; have H := H1; clear H1; have H' := Aside0.mk H; clear H; have p228 : 0 ≤ (x6_2 : Int) := of_decide_eq_true (by first | (with_reducible assumption) | assumption); have q228 : x6_2 < (l1.length : Int) := of_decide_eq_true (by first | (with_reducible assumption) | assumption); obtain ⟨ad228, e228, hx228_0, hx228_1⟩ := at_T43 HR1.out x6_2 p228 q228; cases e228; replace hx228_0 := (HB.out.cell (World.block_lt_of_cell? w _ hx228_0)).trans hx228_0; replace hx228_1 := (HB.out.cell (World.block_lt_of_cell? w _ hx228_1)).trans hx228_1; replace p228 := eq_true p228; replace q228 := eq_true q228; go_wp2_with (first | ((with_reducible refine gate_callee (f := 17) rfl ?_); refine goesL_ (some 26) rfl rfl Try.func17 (by kernel_rfl) rfl #[.int .i64 ((rd_T43 l1 x6_2).f0), .int .i64 1, .int .i64 4] rfl (by (try simp only [List.map_toArray, List.map_cons, List.map_nil]); first | done | rfl | (simp only [List.length_drop, List.length_take]; rfl)) ?_; (with_reducible refine (spec_l6In.calls ((rd_T43 l1 x6_2).f0) 1 4 true _ A11.out).mono ?_); rintro e w' ⟨rfl, ⟨nd, rfl⟩⟩; refine ⟨_, rfl, ?_⟩; have p230 : 0 ≤ (x6_2 : Int) := of_decide_eq_true (by first | (with_reducible assumption) | assumption); have q230 : x6_2 < (l1.length : Int) := of_decide_eq_true (by first | (with_reducible assumption) | assumption); obtain ⟨ad230, e230, hx230_0, hx230_1⟩ := at_T43 HR1.out x6_2 p230 q230; obtain rfl : ad228 = ad230 := (by injection e230); replace hx230_0 := (HB.out.cell (World.block_lt_of_cell? w _ hx230_0)).trans hx230_0; replace hx230_1 := (HB.out.cell (World.block_lt_of_cell? w _ hx230_1)).trans hx230_1; replace p230 := eq_true p230; replace q230 := eq_true q230))
         go_roundg k2
         case measure => have := HJ2.out; have := HK2.out; omega
         case rel => exact ⟨(wrap64 (x5_2 + ((rd_T43 l1 x6_2).f0))), (wrap64 (x6_2 + 1)), (by first | rfl | (simp; done) | (simp [*]; done)), (by first | rfl | (simp; done) | (simp [*]; done)), H', ⟨by have := HJ2.out; have := HK2.out; omega⟩, ⟨by repeat (first | (with_reducible first | exact HB.out | apply below_alloc | apply pw_below_drewN | apply below_drew1) | exact HB.out)⟩⟩
        ·
         replace c12 := Bool.eq_false_iff.mpr c12; subst c12; have H1 : (some false) = some r := by rw [if_neg (show ¬ (false = true) by decide)] at H; exact H
         clear H; have H := H1; clear H1; obtain rfl := Option.some.inj H; have p228 : 0 ≤ (x6_2 : Int) := of_decide_eq_true (by first | (with_reducible assumption) | assumption); have q228 : x6_2 < (l1.length : Int) := of_decide_eq_true (by first | (with_reducible assumption) | assumption); obtain ⟨ad228, e228, hx228_0, hx228_1⟩ := at_T43 HR1.out x6_2 p228 q228; cases e228; replace hx228_0 := (HB.out.cell (World.block_lt_of_cell? w _ hx228_0)).trans hx228_0; replace hx228_1 := (HB.out.cell (World.block_lt_of_cell? w _ hx228_1)).trans hx228_1; replace p228 := eq_true p228; replace q228 := eq_true q228; go_wp2_with (first | ((with_reducible refine gate_callee (f := 17) rfl ?_); refine goesL_ (some 26) rfl rfl Try.func17 (by kernel_rfl) rfl #[.int .i64 ((rd_T43 l1 x6_2).f0), .int .i64 1, .int .i64 4] rfl (by (try simp only [List.map_toArray, List.map_cons, List.map_nil]); first | done | rfl | (simp only [List.length_drop, List.length_take]; rfl)) ?_; (with_reducible refine (spec_l6In.calls ((rd_T43 l1 x6_2).f0) 1 4 false _ A11.out).mono ?_); rintro e w' ⟨rfl, ⟨nd, rfl⟩⟩; refine ⟨_, rfl, ?_⟩))
         go_ret
         exact ⟨by first | rfl | (simp [errW_none, errW_some] <;> rfl) | (simp [*, errW_none, errW_some] <;> rfl), by repeat (first | (with_reducible first | exact HB.out | apply below_alloc | apply pw_below_drewN | apply below_drew1) | exact HB.out)⟩
       ·
        rw [if_neg c10] at H; exact absurd H (by simp)
      ·
       rw [if_neg c9] at H; have c9b0 : decide (x6_2 < (l1.length : Int)) = false := decide_eq_false c9; clear c9; obtain rfl := Option.some.inj H; go_wp2; go_ret
       exact ⟨by first | rfl | (simp [errW_none, errW_some] <;> rfl) | (simp [*, errW_none, errW_some] <;> rfl), by repeat (first | (with_reducible first | exact HB.out | apply below_alloc | apply pw_below_drewN | apply below_drew1) | exact HB.out)⟩

end Go.Proofs.Ytpcohkffbjdmfaa.PFnGroupsSplit
namespace Go.Proofs.Ytpcohkffbjdmfaa.Pure
set_option linter.unusedVariables false
set_option linter.unusedSimpArgs false
open Go Go.RowKit Go.Proofs.Ytpcohkffbjdmfaa.PFnGroupsSplit Go.Proofs.YtpcohkffbjdmfaaW.PrintWords Go.Proofs.YtpcohkffbjdmfaaW.PrintLast Go.Proofs.YtpcohkffbjdmfaaW.PrintMore

theorem Ev.succ {α : Type} {g : Nat → Option α} {r : α} (h : Ev (fun k => g (k + 1)) r) : Ev g r := Ev.step (fun _ => rfl) h
theorem Ev.pos {α : Type} {c : Prop} [Decidable c] {f g : Nat → Option α} {r : α} (hc : c) (h : Ev f r) : Ev (fun k => if c then f k else g k) r := by
 simp only [if_pos hc]; exact h
theorem Ev.neg {α : Type} {c : Prop} [Decidable c] {f g : Nat → Option α} {r : α} (hc : ¬ c) (h : Ev g r) : Ev (fun k => if c then f k else g k) r := by
 simp only [if_neg hc]; exact h
theorem Ev.conb {α β : Type} {x : Option α} {a : α} {f : Nat → α → Option β} {r : β} (hx : x = some a) (h : Ev (fun n => f n a) r) : Ev (fun n => x.bind (f n)) r := by subst hx; exact h
theorem Ev.eqr {α : Type} {g : Nat → Option α} {r r' : α} (h : Ev g r) (e : r = r') : Ev g r' := e ▸ h
/-- A loop over the places of a list, from the front. -/
theorem Ev.over {α ρ σ : Type} (d : α) (xs : List α) (L : Nat → σ → Int → Option ρ) (F : σ → List α → ρ) (I : Nat → σ → Prop)
 (hend : ∀ s, I xs.length s → Ev (fun k => L k s (xs.length : Int)) (F s []))
 (hstep : ∀ s (i : Nat) rest, I i s → i < xs.length → xs.drop i = xs.getD i d :: rest → (∀ s', I (i + 1) s' → Ev (fun k => L k s' ((i : Int) + 1)) (F s' rest)) → Ev (fun k => L k s (i : Int)) (F s (xs.getD i d :: rest))) :
 ∀ (i : Nat) (s : σ), i ≤ xs.length → I i s → Ev (fun k => L k s (i : Int)) (F s (xs.drop i)) := by
 intro i s hi hI
 obtain ⟨n, hn⟩ : ∃ n, n = xs.length - i := ⟨_, rfl⟩
 induction n generalizing i s with
 | zero =>
  have e : i = xs.length := by omega
  subst e
  rw [List.drop_length]
  exact hend s hI
 | succ n ih =>
  have hlt : i < xs.length := by omega
  have e : xs.drop i = xs.getD i d :: xs.drop (i + 1) := by
   rw [List.drop_eq_getElem_cons hlt, List.getD_eq_getElem?_getD, List.getElem?_eq_getElem hlt]; rfl
  rw [e]
  refine hstep s i _ hI hlt e (fun s' hs' => ?_)
  have := ih (i + 1) s' (by omega) hs' (by omega)
  simpa using this
theorem w64 {x : Int} (h : -9223372036854775808 ≤ x) (h' : x ≤ 9223372036854775807) : wrap64 x = x := by unfold wrap64; omega
theorem xor_bd (x y : Int) (hx : 0 ≤ x) (hx' : x < 4611686018427387904) (hy : 0 ≤ y) (hy' : y < 4611686018427387904) : 0 ≤ Go.bits .xor .i64 x y := by
 obtain ⟨a, rfl⟩ := Int.eq_ofNat_of_zero_le hx
 obtain ⟨b, rfl⟩ := Int.eq_ofNat_of_zero_le hy
 have ha : a < 2 ^ 62 := by omega
 have hb : b < 2 ^ 62 := by omega
 have hc : a ^^^ b < 2 ^ 62 := Nat.xor_lt_two_pow ha hb
 have ha' : a % 2 ^ IntKind.i64.bits = a := Nat.mod_eq_of_lt (Nat.lt_of_lt_of_le ha (by decide))
 have hb' : b % 2 ^ IntKind.i64.bits = b := Nat.mod_eq_of_lt (Nat.lt_of_lt_of_le hb (by decide))
 have e : Go.bits .xor .i64 (a : Int) (b : Int) = ((a ^^^ b : Nat) : Int) := by
  simp only [Go.bits, BitVec.ofInt_natCast, BitVec.toNat_xor, BitVec.toNat_ofNat, ha', hb']
  rw [Go.IntKind.wrap_i64]; omega
 rw [e]; omega
theorem mx_le (a b : Int) : a ≤ mx a b ∧ b ≤ mx a b ∧ (mx a b = a ∨ mx a b = b) := by unfold mx; split <;> omega
theorem mn_le (a b : Int) : mn a b ≤ a ∧ mn a b ≤ b ∧ (mn a b = a ∨ mn a b = b) := by unfold mn; split <;> omega
/-- From some number of rounds on there is an answer, and it is such a one. -/
def Evx {α : Type} (g : Nat → Option α) (P : α → Prop) : Prop := ∃ r, Ev g r ∧ P r
theorem Evx.now {α : Type} {P : α → Prop} {r : α} (h : P r) : Evx (fun _ => some r) P := ⟨r, Ev.now r, h⟩
theorem Evx.mono {α : Type} {g : Nat → Option α} {P Q : α → Prop} (h : Evx g P) (hPQ : ∀ r, P r → Q r) : Evx g Q := by
 obtain ⟨r, h, hP⟩ := h; exact ⟨r, h, hPQ r hP⟩
theorem Evx.bind {α β : Type} {g : Nat → Option α} {f : Nat → α → Option β} {P : α → Prop} {Q : β → Prop} (h : Evx g P) (k : ∀ a, P a → Evx (fun n => f n a) Q) : Evx (fun n => (g n).bind (f n)) Q := by
 obtain ⟨a, h, hP⟩ := h
 obtain ⟨r, h', hQ⟩ := k a hP
 exact ⟨r, Ev.bind h h', hQ⟩
theorem Evx.succ {α : Type} {g : Nat → Option α} {P : α → Prop} (h : Evx (fun k => g (k + 1)) P) : Evx g P := by
 obtain ⟨r, h, hP⟩ := h; exact ⟨r, Ev.succ h, hP⟩
theorem Evx.pos {α : Type} {c : Prop} [Decidable c] {f g : Nat → Option α} {P : α → Prop} (hc : c) (h : Evx f P) : Evx (fun k => if c then f k else g k) P := by
 simp only [if_pos hc]; exact h
theorem Evx.neg {α : Type} {c : Prop} [Decidable c] {f g : Nat → Option α} {P : α → Prop} (hc : ¬ c) (h : Evx g P) : Evx (fun k => if c then f k else g k) P := by
 simp only [if_neg hc]; exact h
theorem Evx.ite {α : Type} {c : Prop} [Decidable c] {f g : Nat → Option α} {P : α → Prop} (h : c → Evx f P) (h' : ¬ c → Evx g P) : Evx (fun k => if c then f k else g k) P := by
 by_cases hc : c
 ·
  exact Evx.pos hc (h hc)
 ·
  exact Evx.neg hc (h' hc)
theorem Evx.someb {α β : Type} {a : α} {f : Nat → α → Option β} {P : β → Prop} (h : Evx (fun n => f n a) P) : Evx (fun n => (some a).bind (f n)) P := h
theorem Evx.conb {α β : Type} {x : Option α} {a : α} {f : Nat → α → Option β} {P : β → Prop} (hx : x = some a) (h : Evx (fun n => f n a) P) : Evx (fun n => x.bind (f n)) P := by subst hx; exact h
theorem rd_bd {s : List Int} (hs : ∀ x ∈ s, 0 ≤ x ∧ x ≤ 255) (i : Int) : 0 ≤ rd s i ∧ rd s i ≤ 255 := by
 unfold rd
 rw [List.getD_eq_getElem?_getD]
 cases h : s[i.toNat]? with
 | none => simp
 | some v => exact hs v (List.mem_of_getElem? h)
theorem mem_set_of {α : Type} {P : α → Prop} {l : List α} (h : ∀ x ∈ l, P x) (i : Nat) (v : α) (hv : P v) : ∀ x ∈ l.set i v, P x := by
 intro x hx
 rcases List.mem_or_eq_of_mem_set hx with hx | hx
 ·
  exact h x hx
 ·
  exact hx ▸ hv

def toneOk (t : S59) : Bool := decide (0 ≤ t.f0 ∧ t.f0 ≤ 20) && (!t.f1 || Int.tmod t.f0 7 == 2)
def melOk (m : List S59) : Bool := decide (m.length ≤ 24) && m.all toneOk
theorem melOk_len {m : List S59} (h : melOk m = true) : m.length ≤ 24 := by
 unfold melOk at h; simp at h; exact h.1
theorem impl_Tone_valid_eq (a : Int) (b : Bool) : impl_Tone_valid.f a b = some (toneOk ⟨a, b⟩) := by
 unfold impl_Tone_valid.f toneOk
 by_cases h : a ≥ 0
 ·
  by_cases h' : a ≤ 20
  ·
   cases b
   ·
    simp [h, h']
   ·
    simp [h, h']
  ·
   simp [h, h']
 ·
  have : ¬ (0 ≤ a) := h
  simp [this]
theorem impl_MelodyValid_ev (m : List S59) : Ev (fun k => impl_MelodyValid.f k m) (melOk m) := by
 unfold impl_MelodyValid.f
 by_cases h : (m.length : Int) > 24
 ·
  refine Ev.eqr (Ev.pos h (Ev.now _)) ?_
  unfold melOk
  rw [decide_eq_false (by omega)]; rfl
 ·
  refine Ev.eqr (Ev.neg h (r := m.all toneOk) ?_) (by unfold melOk; rw [decide_eq_true (by omega)]; rfl)
  have := Ev.over z59 m (fun k (_ : Unit) i => impl_MelodyValid.l0 k m m.length i) (fun _ l => l.all toneOk) (fun _ _ => True) (by
   intro s _
   refine Ev.succ ?_
   simp only [impl_MelodyValid.l0]
   exact Ev.neg (by omega) (Ev.now _)) (by
   intro s i rest _ hi _ ih
   refine Ev.succ ?_
   simp only [impl_MelodyValid.l0]
   refine Ev.pos (by omega) (Ev.pos (by omega) (Ev.pos (by omega) (Ev.conb (impl_Tone_valid_eq _ _) ?_)))
   show Ev _ (toneOk (rd_T59 m i) && _)
   cases ht : toneOk (rd_T59 m i)
   ·
    exact Ev.neg (by simp [ht]) (Ev.now _)
   ·
    refine Ev.pos (by simp [ht]) ?_
    rw [w64 (by omega) (by omega)]
    simpa using ih () trivial) 0 () (Nat.zero_le _) trivial
  simpa using this

theorem spec_l6In_eq (a b c : Int) : spec_l6In.f a b c = some (decide (b ≤ a ∧ a ≤ c)) := by
 unfold spec_l6In.f
 by_cases h : a ≥ b
 ·
  rw [if_pos h]; simp [show b ≤ a from h]
 ·
  rw [if_neg h]; simp [show ¬ b ≤ a from h]
theorem spec_ToneValid_eq (a : Int) (b : Bool) : spec_ToneValid.f a b = some (toneOk ⟨a, b⟩) := by
 unfold spec_ToneValid.f toneOk
 rw [spec_l6In_eq]
 by_cases h : 0 ≤ a ∧ a ≤ 20
 ·
  cases b <;> simp [h, spec_l1Letter.f]
 ·
  simp [h]
theorem spec_MelodyValid_ev (m : List S59) (hm : m.length ≤ 1000000000000) : Ev (fun k => spec_MelodyValid.f k m) (melOk m) := by
 unfold spec_MelodyValid.f
 have := Ev.over z59 m (fun k (_ : Unit) i => spec_MelodyValid.l0 k m i) (fun _ l => l.all toneOk && decide (m.length ≤ 24)) (fun _ _ => True) (by
  intro s _
  refine Ev.succ ?_
  simp only [spec_MelodyValid.l0]
  refine Ev.eqr (Ev.neg (by omega) (Ev.now _)) ?_
  simp; omega) (by
  intro s i rest _ hi _ ih
  refine Ev.succ ?_
  simp only [spec_MelodyValid.l0]
  refine Ev.pos (by omega) (Ev.pos (by omega) (Ev.conb (spec_ToneValid_eq _ _) ?_))
  show Ev _ (toneOk (rd_T59 m i) && _ && _)
  cases ht : toneOk (rd_T59 m i)
  ·
   exact Ev.neg (by simp [ht]) (Ev.now _)
  ·
   refine Ev.pos (by simp [ht]) ?_
   rw [w64 (by omega) (by omega)]
   simpa using ih () trivial) 0 () (Nat.zero_le _) trivial
 refine Ev.eqr (by simpa using this) ?_
 unfold melOk
 rw [Bool.and_comm]

def sizesOk (g : List S43) : Bool := g.all fun x => decide (1 ≤ x.f0 ∧ x.f0 ≤ 4)
def total : List S43 → Int
 | [] => 0
 | x :: xs => x.f0 + total xs
def gOk (m : List S59) (g : List S43) : Bool := melOk m && (sizesOk g && (total g == (m.length : Int)))
theorem total_app (a b : List S43) : total (a ++ b) = total a + total b := by
 induction a with
 | nil => simp [total]
 | cons x xs ih => simp only [List.cons_append, total, ih]; omega
theorem sizesOk_app (a b : List S43) : sizesOk (a ++ b) = (sizesOk a && sizesOk b) := by simp [sizesOk]
theorem total_ge {g : List S43} (h : sizesOk g = true) : (g.length : Int) ≤ total g := by
 induction g with
 | nil => simp [total]
 | cons x xs ih =>
  simp [sizesOk] at h ih
  have := ih h.2
  simp only [total, List.length_cons]
  omega
theorem gOk_mel {m : List S59} {g : List S43} (h : gOk m g = true) : melOk m = true := by
 unfold gOk at h; simp at h; exact h.1
theorem gOk_sizes {m : List S59} {g : List S43} (h : gOk m g = true) : sizesOk g = true := by
 unfold gOk at h; simp at h; exact h.2.1
theorem gOk_total {m : List S59} {g : List S43} (h : gOk m g = true) : total g = (m.length : Int) := by
 unfold gOk at h; simp at h; exact h.2.2
theorem gOk_len {m : List S59} {g : List S43} (h : gOk m g = true) : g.length ≤ 24 := by
 have a := total_ge (gOk_sizes h)
 have b := gOk_total h
 have c := melOk_len (gOk_mel h)
 omega
def goG (acc : List S51) (rest : List S59) : List S43 → List S51 × Bool
 | [] => (acc, ((rest.length : Int) == 0))
 | x :: xs => if x.f0 < 1 ∨ x.f0 > 4 ∨ x.f0 > (rest.length : Int) then ([], false) else goG (acc ++ [⟨rest.take x.f0.toNat, x.f1⟩]) (rest.drop x.f0.toNat) xs
theorem goG_ok : ∀ (g : List S43) (acc : List S51) (rest : List S59), (goG acc rest g).2 = (sizesOk g && (total g == (rest.length : Int)))
 | [], acc, rest => by
  simp only [goG, sizesOk, total, List.all_nil, Bool.true_and]
  rw [Bool.eq_iff_iff, beq_iff_eq, beq_iff_eq]; exact eq_comm
 | x :: xs, acc, rest => by
  simp only [goG]
  split
  ·
   rename_i h
   symm
   rw [Bool.and_eq_false_iff]
   by_cases hs : sizesOk (x :: xs) = true
   ·
    right
    have hs' : (1 ≤ x.f0 ∧ x.f0 ≤ 4) ∧ sizesOk xs = true := by simpa [sizesOk] using hs
    have := total_ge hs'.2
    rw [beq_eq_false_iff_ne]
    simp only [total]
    omega
   ·
    left; simpa using hs
  ·
   rename_i h
   rw [goG_ok xs]
   have h1 : (1 ≤ x.f0 ∧ x.f0 ≤ 4) := by omega
   have e : sizesOk (x :: xs) = sizesOk xs := by simp [sizesOk, h1]
   rw [e]
   congr 1
   rw [Bool.eq_iff_iff]
   simp [total]
   omega
theorem impl_groupsOf_ev (m : List S59) (g : List S43) (hg : g.length ≤ 1000000000000) : Ev (fun k => impl_groupsOf.f k m g) (if melOk m = true then goG [] m g else ([], false)) := by
 unfold impl_groupsOf.f
 refine Ev.bind (impl_MelodyValid_ev m) ?_
 by_cases hm : melOk m = true
 ·
  rw [if_pos hm]
  refine Ev.pos hm ?_
  have hml := melOk_len hm
  have := Ev.over z43 g (fun k (s : List S51 × List S59) i => impl_groupsOf.l0 k s.1 s.2 g g.length i) (fun s l => goG s.1 s.2 l) (fun _ s => s.1.length + s.2.length ≤ 24) (by
   intro s _
   refine Ev.succ ?_
   simp only [impl_groupsOf.l0]
   exact Ev.neg (by omega) (Ev.now _)) (by
   intro s i rest hI hi _ ih
   refine Ev.succ ?_
   simp only [impl_groupsOf.l0]
   refine Ev.pos (by omega) (Ev.pos (by omega) (Ev.pos (by omega) ?_))
   show Ev _ (goG s.1 s.2 (rd_T43 g i :: rest))
   generalize rd_T43 g i = x
   simp only [goG]
   by_cases h : x.f0 < 1 ∨ x.f0 > 4 ∨ x.f0 > (s.2.length : Int)
   ·
    rw [if_pos h]
    by_cases h1 : x.f0 < 1
    ·
     exact Ev.pos h1 (Ev.now _)
    ·
     refine Ev.neg h1 ?_
     by_cases h2 : x.f0 > 4
     ·
      exact Ev.pos h2 (Ev.now _)
     ·
      exact Ev.neg h2 (Ev.pos (by omega) (Ev.now _))
   ·
    rw [if_neg h]
    refine Ev.neg (by omega) (Ev.neg (by omega) (Ev.neg (by omega) (Ev.pos (by omega) (Ev.pos (by omega) (Ev.pos (by omega) ?_)))))
    rw [w64 (by omega) (by omega)]
    exact ih (s.1 ++ [⟨s.2.take x.f0.toNat, x.f1⟩], s.2.drop x.f0.toNat) (by simp; omega)) 0 ([], m) (Nat.zero_le _) (by simpa using hml)
  simpa using this
 ·
  rw [if_neg hm]
  exact Ev.neg hm (Ev.now _)
theorem spec_GroupsValid_ev (m : List S59) (g : List S43) (hm : m.length ≤ 1000000000000) (hg : g.length ≤ 1000000000000) : Ev (fun k => spec_GroupsValid.f k m g) (gOk m g) := by
 unfold spec_GroupsValid.f
 refine Ev.bind (spec_MelodyValid_ev m hm) ?_
 cases hok : melOk m
 ·
  refine Ev.neg (by simp) (Ev.succ ?_)
  simp only [spec_GroupsValid.j0, if_true]
  refine Ev.eqr (Ev.now _) ?_
  unfold gOk; rw [hok]; rfl
 ·
  refine Ev.pos rfl ?_
  have hml := melOk_len hok
  by_cases hl : (g.length : Int) > 24
  ·
   rw [decide_eq_true hl]
   refine Ev.succ ?_
   simp only [spec_GroupsValid.j0, if_true]
   refine Ev.eqr (Ev.now _) ?_
   symm
   rw [Bool.eq_false_iff]
   intro h
   have := gOk_len h
   omega
  ·
   rw [decide_eq_false hl]
   refine Ev.succ ?_
   simp only [spec_GroupsValid.j0]
   refine Ev.neg (by simp) ?_
   have := Ev.over z43 g (fun k (s : Int) i => spec_GroupsValid.l0 k m g s i) (fun s l => sizesOk l && (s + total l == (m.length : Int))) (fun i s => 0 ≤ s ∧ s ≤ 4 * i) (by
    intro s _
    refine Ev.succ ?_
    simp only [spec_GroupsValid.l0]
    refine Ev.eqr (Ev.neg (by omega) (Ev.now _)) ?_
    simp [sizesOk, total]) (by
    intro s i rest hI hi _ ih
    refine Ev.succ ?_
    simp only [spec_GroupsValid.l0]
    refine Ev.pos (by omega) (Ev.pos (by omega) (Ev.conb (spec_l6In_eq _ _ _) ?_))
    show Ev _ (sizesOk (rd_T43 g i :: rest) && (s + total (rd_T43 g i :: rest) == (m.length : Int)))
    generalize rd_T43 g i = x
    by_cases h : 1 ≤ x.f0 ∧ x.f0 ≤ 4
    ·
     refine Ev.pos (by simp [h]) ?_
     rw [w64 (x := s + x.f0) (by omega) (by omega), w64 (by omega) (by omega)]
     refine Ev.eqr (ih (s + x.f0) (by omega)) ?_
     have e : sizesOk (x :: rest) = sizesOk rest := by simp [sizesOk, h]
     rw [e]
     simp only [total]
     rw [Int.add_assoc]
    ·
     refine Ev.eqr (Ev.neg (by simp only [decide_eq_true_eq]; exact h) (Ev.now _)) ?_
     have e : sizesOk (x :: rest) = false := by simp only [sizesOk, List.all_cons, decide_eq_false h, Bool.false_and]
     rw [e]; rfl) 0 0 (Nat.zero_le _) (by omega)
   refine Ev.eqr (by simpa using this) ?_
   unfold gOk
   rw [hok]; simp
def gjoin (m : List S59) (g : List S43) (k : Int) : List S43 × Bool :=
 if gOk m g = true ∧ 0 ≤ k ∧ k < (g.length : Int) - 1 ∧ (rd_T43 g k).f0 + (rd_T43 g (k + 1)).f0 ≤ 4 then (g.take k.toNat ++ [⟨(rd_T43 g k).f0 + (rd_T43 g (k + 1)).f0, (rd_T43 g (k + 1)).f1⟩] ++ g.drop (k + 2).toNat, true) else ([], false)
def gsplit (m : List S59) (g : List S43) (i k : Int) : List S43 × Bool :=
 if gOk m g = true ∧ 0 ≤ i ∧ i < (g.length : Int) ∧ 1 ≤ k ∧ k < (rd_T43 g i).f0 then (g.take i.toNat ++ [⟨k, false⟩, ⟨(rd_T43 g i).f0 - k, (rd_T43 g i).f1⟩] ++ g.drop (i + 1).toNat, true) else ([], false)
theorem rd_mid (A : List S43) (x : S43) (B : List S43) : rd_T43 (A ++ x :: B) (A.length : Int) = x := by simp [rd_T43]
theorem rd_mid' (A : List S43) (x y : S43) (B : List S43) : rd_T43 (A ++ x :: y :: B) ((A.length : Int) + 1) = y := by
 have : ((A.length : Int) + 1).toNat = A.length + 1 := by omega
 simp [rd_T43, this]
theorem size_of {g : List S43} (h : sizesOk g = true) {k : Int} (h0 : 0 ≤ k) (h1 : k < g.length) : 1 ≤ (rd_T43 g k).f0 ∧ (rd_T43 g k).f0 ≤ 4 := by
 have hlt : k.toNat < g.length := by omega
 unfold rd_T43
 rw [List.getD_eq_getElem?_getD, List.getElem?_eq_getElem hlt]
 unfold sizesOk at h
 have := List.all_eq_true.1 h _ (List.getElem_mem hlt)
 simpa using this
theorem cut_at {g : List S43} {k : Int} (h0 : 0 ≤ k) (h1 : k < g.length) : ∃ A x B, g = A ++ x :: B ∧ (A.length : Int) = k := by
 have hlt : k.toNat < g.length := by omega
 refine ⟨g.take k.toNat, g[k.toNat], g.drop (k.toNat + 1), ?_, by rw [List.length_take]; omega⟩
 rw [← List.drop_eq_getElem_cons hlt, List.take_append_drop]
theorem impl_GroupsValid_ev (m : List S59) (g : List S43) (hg : g.length ≤ 1000000000000) : Ev (fun k => impl_GroupsValid.f k m g) (gOk m g) := by
 unfold impl_GroupsValid.f
 refine Ev.eqr (Ev.bind (impl_groupsOf_ev m g hg) (Ev.now _)) ?_
 unfold gOk
 by_cases hm : melOk m = true
 ·
  rw [if_pos hm, goG_ok, hm]; rfl
 ·
  rw [if_neg hm]; simp at hm; rw [hm]; rfl

def gof (m : List S59) (g : List S43) : List S51 × Bool := if melOk m = true then goG [] m g else ([], false)
theorem gof_ok (m : List S59) (g : List S43) : (gof m g).2 = gOk m g := by
 unfold gof gOk
 by_cases hm : melOk m = true
 ·
  rw [if_pos hm, goG_ok, hm]; rfl
 ·
  rw [if_neg hm]; simp at hm; rw [hm]; rfl
theorem goG_at : ∀ (g : List S43) (acc : List S51) (rest : List S59), (goG acc rest g).2 = true → (goG acc rest g).1.length = acc.length + g.length ∧ ∃ t, (goG acc rest g).1 = acc ++ t ∧ ∀ i, i < g.length → (t.getD i z51).f0 = (rest.drop (total (g.take i)).toNat).take (g.getD i z43).f0.toNat
 | [], acc, rest, _ => by
  refine ⟨by simp [goG], [], by simp [goG], fun i hi => absurd hi (by simp)⟩
 | x :: xs, acc, rest, h => by
  have hs : sizesOk (x :: xs) = true := by
   have := goG_ok (x :: xs) acc rest
   rw [h] at this
   simp at this
   exact this.1
  simp only [goG] at h ⊢
  split at h
  ·
   exact absurd h (by simp)
  ·
   rename_i hx
   rw [if_neg hx]
   obtain ⟨h1, t, h2, h3⟩ := goG_at xs _ _ h
   refine ⟨by rw [h1]; simp; omega, ⟨rest.take x.f0.toNat, x.f1⟩ :: t, by rw [h2]; simp, fun i hi => ?_⟩
   cases i with
   | zero => simp [total]
   | succ i =>
    have hi' : i < xs.length := by simpa using hi
    have := h3 i hi'
    simp only [List.getD_cons_succ, List.take_succ_cons, total] at this ⊢
    rw [this, List.drop_drop]
    have hs' : sizesOk xs = true := by simp [sizesOk] at hs ⊢; exact hs.2
    have h0 : 0 ≤ total (xs.take i) := by
     have : sizesOk (xs.take i) = true := by
      have e := sizesOk_app (xs.take i) (xs.drop i)
      rw [List.take_append_drop, hs'] at e
      simp at e; exact e.1
     have := total_ge this
     omega
    rw [Int.toNat_add (by omega) h0]
def gcut (m : List S59) (g : List S43) (k : Int) : List S59 × Bool :=
 if gOk m g = true ∧ 0 ≤ k ∧ k < (g.length : Int) then ((m.drop (total (g.take k.toNat)).toNat).take (rd_T43 g k).f0.toNat, true) else ([], false)
theorem cut_take {P : Program} {α : Type} (d : Kd α) (t e : TypeId) {i : TypeInfo} (ht : P.underlying t = some (.slice e)) (hi : P.info? e = some i) {w : World} {A : Option Addr} {c : Nat} {xs : List α} (j : Int) (hr : d.C w A xs.length xs) (hc : xs.length ≤ c) (h0 : 0 ≤ j) (hm : j ≤ xs.length) :
 (∀ W : World, (Instr.slice t (.slice A xs.length c) none (some (.int .i64 j)) none).run P W = .ok (.slice A j.toNat c) W) ∧ d.C w A j.toNat (xs.take j.toNat) ∧ j.toNat ≤ c ∧ (xs.take j.toNat).length = j.toNat := by
 have e1 : (xs.take j.toNat).length = j.toNat := by rw [List.length_take]; omega
 have h := Kd.C_take (m := j.toNat) hr (by omega)
 rw [e1] at h
 exact ⟨cut_to t e .i64 ht hi A _ c j h0 hm hc, h, by omega, e1⟩
theorem cut_drop {P : Program} {α : Type} (d : Kd α) (t e : TypeId) {i : TypeInfo} (ht : P.underlying t = some (.slice e)) (hi : P.info? e = some i) (hsz : i.size = d.sz) {w : World} {A : Option Addr} {c : Nat} {xs : List α} (j : Int) (hr : d.C w A xs.length xs) (hc : xs.length ≤ c) (h0 : 0 ≤ j) (hm : j ≤ xs.length) :
 ∃ A' c', (∀ W : World, (Instr.slice t (.slice A xs.length c) (some (.int .i64 j)) none none).run P W = .ok (.slice A' (xs.length - j.toNat) c') W) ∧ d.C w A' (xs.length - j.toNat) (xs.drop j.toNat) ∧ xs.length - j.toNat ≤ c' ∧ (xs.drop j.toNat).length = xs.length - j.toNat := by
 have e1 : (xs.drop j.toNat).length = xs.length - j.toNat := by rw [List.length_drop]
 have h := Kd.C_drop (m := j.toNat) (c := c) hr (by omega) hc
 rw [e1] at h
 exact ⟨_, _, cut_from t e .i64 ht hi d.sz hsz A _ c j h0 hm, h, by omega, e1⟩
theorem later_cell {w1 : World} {a : Addr} {v : Value} (h : w1.cell? a = some v) : ∀ o, (w1.alloc o).cell? a = some v := fun o => pw_cell_below (below_alloc (Below.refl _ _) o) h
theorem lit_R {α : Type} (d : Kd α) (W : World) (base e : Nat) (hbase : base ≤ W.heap.size) {xs : List α} {inner : List Value} (hrep : Reps (d.M W base (fun _ => False)) d.sz xs inner) (hm : xs.length ≤ 9223372036854775807) :
 d.R e (W.alloc (.cells inner.toArray e)) base (fun _ => True) (.slice (some ⟨W.heap.size, 0, none⟩) xs.length xs.length) xs := by
 refine ⟨fun _ _ => trivial, inner, ?_, ?_⟩
 ·
  have h2 := World.ownsRow_lit (base := base) (e := e) (size := d.sz) W inner.toArray xs.length hbase (by simpa [maxLen] using hm) (by simpa using hrep.1)
  simpa using h2
 ·
  refine hrep.imp_ (fun p c hp => d.M_mono (fun k hk => hk.elim) (Kd.M_below hp (below_alloc (Below.refl _ _) _)))
theorem lit_C {α : Type} (d : Kd α) (W : World) (e : Nat) {xs : List α} {inner : List Value} (hrep : Reps (d.M W W.heap.size (fun _ => False)) d.sz xs inner) (hm : xs.length ≤ 9223372036854775807) :
 d.C (W.alloc (.cells inner.toArray e)) (some ⟨W.heap.size, 0, none⟩) xs.length xs := (Kd.R_reads' (lit_R d W _ e (Nat.le_refl _) hrep hm)).2.2

end Go.Proofs.Ytpcohkffbjdmfaa.Pure
namespace Go.Proofs.Ytpcohkffbjdmfaa.Pure
set_option linter.unusedVariables false
set_option linter.unusedSimpArgs false
open Go Go.RowKit Go.Proofs.Ytpcohkffbjdmfaa.PFnGroupsSplit Go.Proofs.YtpcohkffbjdmfaaW.PrintWords Go.Proofs.YtpcohkffbjdmfaaW.PrintLast Go.Proofs.YtpcohkffbjdmfaaW.PrintMore

open Go.Shelf
attribute [local go_sem] Oper.semAt_some
def wayB (x y : Int) : Int := if x < y then 117 else if y < x then 100 else 115
def wyAt (m : List S59) (i : Nat) : Int := wayB (rd_T59 m (i : Int)).f0 (rd_T59 m ((i : Int) + 1)).f0
def wyUpto (m : List S59) (k : Nat) : List Int := (List.range k).map (wyAt m)
theorem wyUpto_succ (m : List S59) (k : Nat) : wyUpto m (k + 1) = wyUpto m k ++ [wyAt m k] := by unfold wyUpto; rw [List.range_succ, List.map_append]; rfl
theorem wyUpto_len (m : List S59) (k : Nat) : (wyUpto m k).length = k := by unfold wyUpto; rw [List.length_map, List.length_range]
def ways (m : List S59) : List Int := wyUpto m (m.length - 1)
set_option maxHeartbeats 1000000 in
set_option maxRecDepth 100000 in
theorem impl_wayBetween_calls (a b : Int) (w : World) : Calls Try.prog 29 #[.int .i64 a, .int .i64 b] w fun e w' => e = .returned (.int .u8 (wayB a b)) ∧ w' = w := by
 by_cases h1 : a < b
 ·
  have d1 : decide (a < b) = true := decide_eq_true h1
  have e : wayB a b = 117 := by unfold wayB; rw [if_pos h1]
  rw [e]
  clear h1 e
  go_enter Try.func29, Try.ntmps29
  go_wp2
  go_ret
  exact ⟨rfl, rfl⟩
 ·
  have d1 : decide (a < b) = false := decide_eq_false h1
  by_cases h2 : b < a
  ·
   have d2 : decide (b < a) = true := decide_eq_true h2
   have e : wayB a b = 100 := by unfold wayB; rw [if_neg h1, if_pos h2]
   rw [e]
   clear h1 h2 e
   go_enter Try.func29, Try.ntmps29
   go_wp2
   go_ret
   exact ⟨rfl, rfl⟩
  ·
   have d2 : decide (b < a) = false := decide_eq_false h2
   have e : wayB a b = 115 := by unfold wayB; rw [if_neg h1, if_neg h2]
   rw [e]
   clear h1 h2 e
   go_enter Try.func29, Try.ntmps29
   go_wp2
   go_ret
   exact ⟨rfl, rfl⟩
set_option maxHeartbeats 1000000 in
theorem impl_ways_in (n : Nat) (A : Option Addr) (k c : Nat) (w : World) :
 CallsIn Fence.wide n Try.prog 25 #[.slice A k c] w fun e w' => e = .returned (.func (.func 28) #[] #[.pointer (some ⟨w.heap.size, 0, none⟩)]) ∧ w' = w.alloc (.cells #[.slice A k c] 49) := by
 refine callsIn_of_wp Try.func25 rfl trivial ?_ rfl
 simp only [Try.ntmps25, List.size_toArray, List.length_cons, List.length_nil, Nat.reduceAdd, Nat.reduceSub, Array.replicate_succ, Array.replicate_zero, List.push_toArray, List.append_toArray, List.nil_append, List.cons_append]
 gi_wp2
 go_ret
 exact ⟨rfl, rfl⟩
/-- What a round of the loop over the ways keeps: what lay ahead of the call, and the melody's box. -/
def WKp (n0 Bn : Nat) (v : Value) (W W' : World) : Prop := Below n0 W W' ∧ (Boxed W Bn 49 v → Boxed W' Bn 49 v)
theorem WKp.t {n0 Bn : Nat} {v : Value} {A B C : World} (h : WKp n0 Bn v A B) (h' : WKp n0 Bn v B C) : WKp n0 Bn v A C := ⟨h.1.trans h'.1, fun hb => h'.2 (h.2 hb)⟩
theorem grown_drew (w : World) (row : Option Nat) : w.grownBy w.drew row := ⟨rfl, rfl, rfl, Nat.le_refl _, fun _ _ _ => rfl⟩
def iOf : Value → Int | .int _ q => q | _ => 0
set_option maxHeartbeats 2000000 in
set_option maxRecDepth 100000 in
theorem ways1_in (n : Nat) (hn : 1 ≤ n) (l Bn : Nat) (w0 : World) (A : Option Addr) (c : Nat) (m : List S59) (hr : Kd.C k59 w0 A m.length m) (hm : m.length ≤ 1000) (J Jx : List Int → World → Prop) (hJd : ∀ pre W, J pre W → J pre W.drew)
 (hY : ∀ pre x W, J pre W → pre.length < m.length - 1 → YieldAt Fence.wide (n - 1) Try.prog l #[.int .u8 x] W fun e W' =>
  (e = .returned (.bool true) ∧ J (pre ++ [x]) W' ∧ WKp w0.heap.size Bn (.slice A m.length c) W W') ∨ (e = .returned (.bool false) ∧ Jx (pre ++ [x]) W'))
 (W : World) (hBn : Boxed W Bn 49 (.slice A m.length c)) (hW : Below w0.heap.size w0 W) (h0 : J [] W) :
 CallsIn Fence.wide n Try.prog 28 #[.func (.yield l) #[] #[], .pointer (some ⟨Bn, 0, none⟩)] W fun e W' => (∃ v, e = .returned v) ∧
  ((∃ ys, ys = ways m ∧ J ys W') ∨ (∃ pre, True ∧ Jx pre W')) := by
 refine callsIn_of_wp Try.func28 rfl trivial ?_ rfl
 simp only [Try.ntmps28, List.size_toArray, List.length_cons, List.length_nil, Nat.reduceAdd, Nat.reduceSub, Array.replicate_succ, Array.replicate_zero, List.push_toArray, List.append_toArray, List.nil_append, List.cons_append]
 have HR := Aside0.mk hr
 have HY := Aside0.mk hY
 clear hr hY
 gi_wp2
 gi_loopw [3] (fun p wr => ∃ (i : Nat), p = .int .i64 ((i : Int) + 1) ∧ i ≤ m.length - 1 ∧ J (wyUpto m i) wr ∧ Boxed wr Bn 49 (.slice A m.length c) ∧ Below w0.heap.size w0 wr)
  (fun p _ => m.length - (iOf p).toNat)
 case atStart => exact ⟨0, rfl, Nat.zero_le _, h0, hBn, hW⟩
 case round =>
  obtain ⟨i, rfl, hi, hJs, hbx, hBw⟩ := hrel
  have hbc := hbx.cell
  by_cases hlt : (i : Int) + 1 < (m.length : Int)
  ·
   have hC := Kd.C_below HR.out hBw
   obtain ⟨ad, eA, hx0, _⟩ := at_T59 hC (i : Int) (by omega) (by omega)
   obtain ⟨ad', eA', hy0, _⟩ := at_T59 hC ((i : Int) + 1) (by omega) hlt
   subst eA
   cases eA'
   have hw1 : wr.drew.cell? (ad.add (((i : Int)).toNat * 2)) = some (.int .i64 (rd_T59 m (i : Int)).f0) := hx0
   have hw2 : wr.drew.cell? (ad.add (((i : Int) + 1).toNat * 2)) = some (.int .i64 (rd_T59 m ((i : Int) + 1)).f0) := hy0
   have hw3 : wr.drew.cell? ⟨Bn, 0, none⟩ = some (.slice (some ad) m.length c) := hbc
   have hw2' := hw2
   rw [show ((i : Int) + 1).toNat = i + 1 by omega] at hw2'
   simp only [Int.toNat_natCast] at hw1
   obtain ⟨fn, tmps, assign, body, hy, hR⟩ := HY.out _ (wyAt m i) wr.drew (hJd _ _ hJs) (by rw [wyUpto_len]; omega)
   have hR := hR.mono (R' := fun e W' => ∃ b : Bool, e = .returned (.bool b) ∧ ((b = true ∧ J (wyUpto m i ++ [wyAt m i]) W' ∧ WKp w0.heap.size Bn (.slice (some ad) m.length c) wr.drew W') ∨ (b = false ∧ Jx (wyUpto m i ++ [wyAt m i]) W'))) (by
    rintro e W' (⟨rfl, h1, h2⟩ | ⟨rfl, h1⟩)
    ·
     exact ⟨true, rfl, .inl ⟨rfl, h1, h2⟩⟩
    ·
     exact ⟨false, rfl, .inr ⟨rfl, h1⟩⟩)
   unfold wyAt at hy
   have q1 : IntKind.i64.wrap ((i : Int) + 1 - 1) = (i : Int) := by rw [Go.IntKind.wrap_i64]; omega
   have q1' : IntKind.i64.wrap (i : Int) = (i : Int) := by rw [Go.IntKind.wrap_i64]; omega
   have q2 : IntKind.i64.wrap ((i : Int) + 1 + 1) = (i : Int) + 1 + 1 := by rw [Go.IntKind.wrap_i64]; omega
   have q3 : (i : Int) < (m.length : Int) := by omega
   have q4 : (0 : Int) ≤ (i : Int) := by omega
   have q5 : (0 : Int) ≤ (i : Int) + 1 := by omega
   have q6 : decide ((i : Int) + 1 < (m.length : Int)) = true := decide_eq_true hlt
   clear hx0 hy0 hC hn hm hW h0 hBn
   gi_wp2
   gi_region_with (first
    | (refine ⟨trivial, (fun h => absurd h (by simp [Fence.wide])), ?_⟩; gi_at_call 29; refine (callsIn_wide.2 (impl_wayBetween_calls _ _ _)).mono ?_; rintro e w1 ⟨rfl, rfl⟩)
    | (refine ⟨(fun h => absurd h (by simp [Fence.wide])), ?_⟩; refine hR.mono ?_; rintro e W3 ⟨b, rfl, hb3⟩))
   all_goals
    rcases hb3 with ⟨rfl, hJ3, hk3⟩ | ⟨rfl, hJx3⟩
    ·
     gi_wp2
     go_roundw
     case rel => exact ⟨i + 1, by simp, by omega, by rw [wyUpto_succ]; exact hJ3, hk3.2 hbx, (below_drew1 hBw).trans hk3.1⟩
     case measure => simp [iOf]; omega
    ·
     gi_wp2
     refine bodyPost_ret (results_none rfl _ _ _) rfl ?_
     exact ⟨⟨_, rfl⟩, .inr ⟨_, trivial, hJx3⟩⟩
  ·
   have q6 : decide ((i : Int) + 1 < (m.length : Int)) = false := decide_eq_false hlt
   obtain rfl : i = m.length - 1 := by omega
   gi_wp2
   go_end0
   exact ⟨⟨_, rfl⟩, .inl hJs⟩

end Go.Proofs.Ytpcohkffbjdmfaa.Pure
namespace Go.Proofs.Ytpcohkffbjdmfaa.Pure
set_option linter.unusedVariables false
set_option linter.unusedSimpArgs false
open Go Go.RowKit Go.Proofs.Ytpcohkffbjdmfaa.PFnGroupsSplit Go.Proofs.YtpcohkffbjdmfaaW.PrintWords Go.Proofs.YtpcohkffbjdmfaaW.PrintLast Go.Proofs.YtpcohkffbjdmfaaW.PrintMore

open Go.Shelf
attribute [local go_sem] Oper.semAt_some
set_option maxHeartbeats 2000000 in
set_option maxRecDepth 100000 in
theorem impl_contour_calls (m : List S59) (A : Option Addr) (c : Nat) (w : World) (hr : Kd.C k59 w A m.length m) (hm : m.length ≤ 1000) :
 Calls Try.prog 21 #[.slice A m.length c] w fun e w' => e = .returned (.string (strOfNums (ways m))) ∧ Below w.heap.size w w' := by
 refine (callsIn_wide (n := 5)).1 ?_
 have HR := Aside0.mk hr
 clear hr
 have hinf : (Try.prog.info? 5).map (fun i => (i.zero, i.size, i.bytes)) = some (some (.int .u8 0), 1, 1) := by kernel_rfl
 obtain ⟨i0, hi, hz0, hz1, hz2⟩ := info_parts hinf
 refine callsIn_of_wp_marks Try.func21 rfl trivial ?_ rfl
 simp only [Try.ntmps21, List.size_toArray, List.length_cons, List.length_nil, Nat.reduceAdd, Nat.reduceSub, Array.replicate_succ, Array.replicate_zero, List.push_toArray, List.append_toArray, List.nil_append, List.cons_append]
 gi_wp2_with (refine ⟨trivial, ?_⟩; gi_at_call 25; refine (impl_ways_in _ _ _ _ _).mono ?_; rintro e w' ⟨rfl, rfl⟩)
 obtain ⟨wL, hwL⟩ : ∃ wL, wL = w.alloc (.cells #[] 5) := ⟨_, rfl⟩
 have hLs : wL.heap.size = w.heap.size + 1 := by rw [hwL]; simp
 have bL : wL.heap[w.heap.size]? = some (.cells #[] 5 (0, 0)) := by rw [hwL]; exact World.alloc_heap_new w _
 have hBL : Below w.heap.size w wL := by rw [hwL]; exact (Below.refl _ w).alloc (Nat.le_refl _) _
 rw [← hwL]
 have bO := Boxed.new wL 22 (.slice (some ⟨w.heap.size, 0, none⟩) 0 0)
 rw [hLs] at bO
 obtain ⟨wB, hwB⟩ : ∃ wB, wB = wL.alloc (.cells #[.slice (some ⟨w.heap.size, 0, none⟩) 0 0] 22) := ⟨_, rfl⟩
 have hBs : wB.heap.size = w.heap.size + 2 := by rw [hwB]; simp [hLs]
 have hBB : Below w.heap.size w wB := by rw [hwB]; exact hBL.alloc (by omega) _
 have hrow : wB.ownsRow w.heap.size 5 1 (.slice (some ⟨w.heap.size, 0, none⟩) 0 0) 0 [] := by
  refine ⟨rfl, .inr ⟨w.heap.size, 0, #[], rfl, Nat.le_refl _, ?_, Nat.le_refl _, by unfold maxLen; omega, rfl, rfl⟩⟩
  rw [hwB]
  exact blk_alloc bL _
 rw [← hwB] at bO ⊢
 have bN := Boxed.new wB 49 (.slice A m.length c)
 rw [hBs] at bN
 obtain ⟨wN, hwN⟩ : ∃ wN, wN = wB.alloc (.cells #[.slice A m.length c] 49) := ⟨_, rfl⟩
 have hNs : wN.heap.size = w.heap.size + 3 := by rw [hwN]; simp [hBs]
 have hBN : Below w.heap.size w wN := by rw [hwN]; exact hBB.alloc (by omega) _
 have hrowN : wN.ownsRow w.heap.size 5 1 (.slice (some ⟨w.heap.size, 0, none⟩) 0 0) 0 [] := by rw [hwN]; exact hrow.alloc _
 have bON : Boxed wN (w.heap.size + 1) 22 (.slice (some ⟨w.heap.size, 0, none⟩) 0 0) := by rw [hwN]; exact bO.alloc _
 try simp only [hLs, hBs]
 rw [← hwN] at bN ⊢
 clear hwL hwB hwN bO hrow bL hBL hBB
 refine wpIn_rangeFunc_ownG rfl (by decide) (gf := 28) (lb := #[.pointer (some ⟨w.heap.size + 2, 0, none⟩)]) rfl trivial (enters_of Try.func28 (by kernel_rfl) rfl)
  (encs := fun x : Int => #[Value.int .u8 x]) (Kp := WKp w.heap.size (w.heap.size + 2) (.slice A m.length c)) (S := fun ys => ys = ways m) (Sp := fun _ => True) (N := m.length - 1) (w0 := wN)
  ?seq WKp.t ?hKb (Below.refl _ _) (fun _ => rfl)
  (fun pre W => ((∃ v, Boxed W (w.heap.size + 1) 22 v ∧ W.ownsRow w.heap.size 5 1 v pre.length (nums .u8 pre) ∧ True) ∧ Boxed W (w.heap.size + 2) 49 (.slice A m.length c)) ∧ Below w.heap.size w W)
  (fun _ _ _ => False)
  (OwnFrom.and (OwnFrom.and (Own.from (holdsRow_own w.heap.size (w.heap.size + 1) 22 5 1 (fun pre : List Int => pre.length) (fun pre => nums .u8 pre) (fun _ _ => True)) _) ?ownbox) (ownFrom_below (Nat.le_refl _) (by omega)))
  (fun _ _ _ _ _ hs _ _ => hs)
  ⟨⟨⟨_, bON, hrowN, trivial⟩, bN⟩, hBN⟩
  (fun x => { tmps := #[.slice A m.length c, undef, .string ⟨#[]⟩, .pointer (some ⟨w.heap.size + 1, 0, none⟩), .int .u8 x, .slice (some ⟨w.heap.size, 0, none⟩) 0 0, .slice A m.length c, .func (.func 28) #[] #[.pointer (some ⟨w.heap.size + 2, 0, none⟩)], .int .u8 x, undef, undef, undef, undef, undef, undef], defers := [] }) ?assign ?body ?done ?stop
 case seq =>
  intro l J Jx W hW hJ hJx hY h0
  refine ways1_in _ (by decide) l (w.heap.size + 2) w A c m HR.out hm J Jx (fun pre W' h => hJ pre W' _ none h (grown_drew W' none) (fun r e => by cases e)) hY W ?_ (hBN.trans (hW.mono (by omega))) h0
  exact blk_below bN hW
 case hKb =>
  intro W l o o' hl ho hc hw
  refine ⟨belowK_b (w := wN) (by omega) W l o o' hl ho hc hw, fun hb => hb.kept (grownBy_putObj' W l o') (fun e => ?_)⟩
  ·
   injection e with e
   subst e
   rw [show W.heap[w.heap.size + 2]? = _ from hb] at ho
   cases ho
   cases hc
 case ownbox =>
  intro s X Y row h hg hrow
  refine Boxed.kept h hg (fun e => ?_)
  obtain ⟨_, o, ho, hc⟩ := hrow _ e.symm
  rw [show X.heap[w.heap.size + 2]? = _ from h] at ho
  cases ho
  cases hc
 case assign =>
  intro l x W K hK
  gi_wp2
  exact hK
 case body =>
  rintro l pre x W ⟨⟨⟨v, hv, hrow, _⟩, hb⟩, hB⟩ hlt
  have hc := hv.cell
  gi_wp2_with (gi_at_builtin; refine wpListIn_append_own _ rfl _ _ 22 rfl w.heap.size 5 i0 (.int .u8 0) 1 1 Try.underlying22 hi hz0 hz1 hz2 rfl (by decide) _ _ _ rfl (hrow.alloc _) ⟨W.heap.size, 0, none⟩ 1 1 [.int .u8 x] rfl rfl (cell_one_new _ _ _) (by simp [Value.oneCell']) (by unfold maxLen; omega) (by omega) (by have := hB.size; simp; omega) ?_; intro v' w1 hown' hgrow _; obtain ⟨g', cap', rfl⟩ := ownsRow_succ hown'; obtain ⟨hv1, hv2, hr2, hk2, hb2⟩ := hv.appended (by decide) hrow hB.size (by omega) hown' hgrow; have hc1 := hv1.cell; have hf1 := hv1.frozen)
  exact ⟨hk2.from _, ⟨hb2, fun hb' => ((hb'.alloc _).kept hgrow (hb'.not_row (by decide) hrow)).other (by omega) _⟩, ⟨⟨_, hv2, by simpa [nums] using hr2, trivial⟩, ((hb.alloc _).kept hgrow (hb.not_row (by decide) hrow)).other (by omega) _⟩, hB.trans hb2⟩
 case done =>
  rintro D ys W hD rfl ⟨⟨⟨v, hv, hrow, _⟩, hb⟩, hB⟩ hK
  have hc := hv.cell
  have hcv := own_string (P := Try.prog) (src := 22) (dst := 9) Try.underlying22 Try.underlying5 Try.underlying9 hrow
  gi_wp2
  refine ⟨by simp, .inl ⟨_, _, rfl, run_takeDeferred hK, ?_⟩⟩
  exact ⟨_, results_tmp rfl _ _ _, rfl, hB.trans (belowK_b (w := w) (Nat.le_refl _) W D _ _ (by omega) hK rfl rfl)⟩
 case stop =>
  rintro D c' pre W _ _ h _
  exact h.elim

def cOf (m : List S59) : ByteArray := if melOk m = true then strOfNums (ways m) else ⟨#[]⟩
set_option maxHeartbeats 1000000 in
set_option maxRecDepth 100000 in
theorem impl_ContourOf_calls (m : List S59) (A : Option Addr) (c : Nat) (w : World) (hr : Kd.C k59 w A m.length m) (hc : m.length ≤ c) :
 Calls Try.prog 10 #[.slice A m.length c] w fun e w' => e = .returned (.string (cOf m)) ∧ Below w.heap.size w w' := by
 obtain ⟨kk, hv⟩ := Ev.rounds (impl_MelodyValid_ev m)
 have HR := Aside0.mk hr
 have HC := Aside0.mk hc
 have HV := Aside0.mk hv
 clear hr hc hv
 unfold cOf
 cases hok : melOk m
 ·
  rw [hok] at HV
  rw [if_neg (by simp)]
  go_enter Try.func10, Try.ntmps10
  go_wp2_with (go_at_call 20; refine (impl_MelodyValid.calls kk _ _ m false _ HR.out HC.out HV.out).mono ?_; rintro e w1 ⟨rfl, hb1⟩)
  go_ret
  exact ⟨rfl, hb1⟩
 ·
  rw [hok] at HV
  rw [if_pos rfl]
  have hl := melOk_len hok
  clear hok
  go_enter Try.func10, Try.ntmps10
  go_wp2_with (first
   | (go_at_call 20; refine (impl_MelodyValid.calls kk _ _ m true _ HR.out HC.out HV.out).mono ?_; rintro e w1 ⟨rfl, hb1⟩)
   | (go_at_call 21; refine (impl_contour_calls m _ _ _ (Kd.C_below HR.out hb1) (by omega)).mono ?_; rintro e w2 ⟨rfl, hb2⟩))
  go_ret
  exact ⟨rfl, below_step hb1 hb2⟩

end Go.Proofs.Ytpcohkffbjdmfaa.Pure
namespace Go.Proofs.Ytpcohkffbjdmfaa.Pure
set_option linter.unusedVariables false
set_option linter.unusedSimpArgs false
open Go Go.RowKit Go.Proofs.Ytpcohkffbjdmfaa.PFnGroupsSplit Go.Proofs.YtpcohkffbjdmfaaW.PrintWords Go.Proofs.YtpcohkffbjdmfaaW.PrintLast Go.Proofs.YtpcohkffbjdmfaaW.PrintMore

set_option maxHeartbeats 4000000 in
set_option maxRecDepth 100000 in
theorem impl_GroupsSplit_calls (m : List S59) (g : List S43) (i k : Int) (A0 : Option Addr) (c0 : Nat) (A1 : Option Addr) (c1 : Nat) (w : World) (hr0 : Kd.C k59 w A0 m.length m) (hc0 : m.length ≤ c0) (hr1 : Kd.C k43 w A1 g.length g) (hc1 : g.length ≤ c1) (hg : g.length ≤ 1000000000000) :
 Calls Try.prog 5 #[.slice A0 m.length c0, .slice A1 g.length c1, .int .i64 i, .int .i64 k] w fun e w' => ∃ v, e = .returned (.tuple #[v, .bool (gsplit m g i k).2]) ∧ Kd.R k43 43 w' w.heap.size (fun _ => True) v (gsplit m g i k).1 ∧ Below w.heap.size w w' := by
 obtain ⟨kk, hv⟩ := Ev.rounds (impl_GroupsValid_ev m g (by omega))
 have HR0 := Aside0.mk hr0
 have HC0 := Aside0.mk hc0
 have HR1 := Aside0.mk hr1
 have HC1 := Aside0.mk hc1
 have HV := Aside0.mk hv
 clear hr0 hc0 hr1 hc1 hv
 cases hok : gOk m g
 ·
  have hgj : gsplit m g i k = ([], false) := by unfold gsplit; rw [if_neg (fun h => by rw [hok] at h; exact absurd h.1 (by simp))]
  rw [hgj]
  rw [hok] at HV
  clear hgj hok
  go_enter Try.func5, Try.ntmps5
  go_wp2_with (go_at_call 15; refine (impl_GroupsValid.calls kk _ _ m _ _ g false _ HR0.out HC0.out HR1.out HC1.out HV.out).mono ?_; rintro e w1 ⟨rfl, hb1⟩)
  go_ret2
  exact ⟨_, rfl, Kd.R_nil _ _ _ _ _, hb1⟩
 rw [hok] at HV
 have HOK := Aside0.mk hok
 have hs := gOk_sizes hok
 clear hok
 by_cases h0 : i < 0
 ·
  have hgj : gsplit m g i k = ([], false) := by unfold gsplit; rw [if_neg (fun h => by omega)]
  rw [hgj]
  have d1 : decide (i < 0) = true := decide_eq_true h0
  clear hgj hs h0
  go_enter Try.func5, Try.ntmps5
  go_wp2_with (go_at_call 15; refine (impl_GroupsValid.calls kk _ _ m _ _ g true _ HR0.out HC0.out HR1.out HC1.out HV.out).mono ?_; rintro e w1 ⟨rfl, hb1⟩)
  go_ret2
  exact ⟨_, rfl, Kd.R_nil _ _ _ _ _, hb1⟩
 have d1 : decide (i < 0) = false := decide_eq_false h0
 by_cases h1 : (g.length : Int) ≤ i
 ·
  have hgj : gsplit m g i k = ([], false) := by unfold gsplit; rw [if_neg (fun h => by omega)]
  rw [hgj]
  have d2 : decide ((g.length : Int) ≤ i) = true := decide_eq_true h1
  clear hgj hs h0 h1
  go_enter Try.func5, Try.ntmps5
  go_wp2_with (go_at_call 15; refine (impl_GroupsValid.calls kk _ _ m _ _ g true _ HR0.out HC0.out HR1.out HC1.out HV.out).mono ?_; rintro e w1 ⟨rfl, hb1⟩)
  go_ret2
  exact ⟨_, rfl, Kd.R_nil _ _ _ _ _, hb1⟩
 have d2 : decide ((g.length : Int) ≤ i) = false := decide_eq_false h1
 by_cases h2 : k < 1
 ·
  have hgj : gsplit m g i k = ([], false) := by unfold gsplit; rw [if_neg (fun h => by omega)]
  rw [hgj]
  have d3 : decide (k < 1) = true := decide_eq_true h2
  clear hgj hs h0 h1 h2
  go_enter Try.func5, Try.ntmps5
  go_wp2_with (go_at_call 15; refine (impl_GroupsValid.calls kk _ _ m _ _ g true _ HR0.out HC0.out HR1.out HC1.out HV.out).mono ?_; rintro e w1 ⟨rfl, hb1⟩)
  go_ret2
  exact ⟨_, rfl, Kd.R_nil _ _ _ _ _, hb1⟩
 have d3 : decide (k < 1) = false := decide_eq_false h2
 have S1 := Aside0.mk (size_of hs (k := i) (by omega) (by omega))
 clear hs
 have j1 := eq_true (show i < (g.length : Int) by omega)
 have j2 := eq_true (show 0 ≤ i by omega)
 obtain ⟨ad, e1, ux0, ux1⟩ := at_T43 HR1.out i (by omega) (by omega)
 subst e1
 have HX := Aside0.mk (And.intro ux0 ux1)
 clear ux0 ux1
 by_cases h3 : (rd_T43 g i).f0 ≤ k
 ·
  have hgj : gsplit m g i k = ([], false) := by unfold gsplit; rw [if_neg (fun h => by omega)]
  rw [hgj]
  have d4 : decide ((rd_T43 g i).f0 ≤ k) = true := decide_eq_true h3
  clear hgj h0 h1 h2 h3
  go_enter Try.func5, Try.ntmps5
  go_wp2_with (go_at_call 15; refine (impl_GroupsValid.calls kk _ _ m _ _ g true _ HR0.out HC0.out HR1.out HC1.out HV.out).mono ?_; rintro e w1 ⟨rfl, hb1⟩; have hx0 := pw_cell_below hb1 HX.out.1)
  go_ret2
  exact ⟨_, rfl, Kd.R_nil _ _ _ _ _, hb1⟩
 have d4 : decide ((rd_T43 g i).f0 ≤ k) = false := decide_eq_false h3
 have H5 := Aside0.mk (show 0 ≤ i ∧ i < (g.length : Int) ∧ 1 ≤ k ∧ k < (rd_T43 g i).f0 from ⟨by omega, by omega, by omega, by omega⟩)
 have k1 : decide (0 ≤ i) = true := decide_eq_true (by omega)
 have k2 : decide (i ≤ (g.length : Int)) = true := decide_eq_true (by omega)
 have k3 := eq_true (show i ≤ (g.length : Int) by omega)
 have k4 := eq_true (show i + 1 ≤ (g.length : Int) by omega)
 obtain ⟨i0, hi0, _, hsz0, _⟩ := info_parts info43
 obtain ⟨hcut, ht, _, _⟩ := cut_take k43 24 43 Try.underlying24 hi0 i HR1.out HC1.out (by omega) (by omega)
 obtain ⟨A', c', hcf, hd, hc', _⟩ := cut_drop k43 24 43 Try.underlying24 hi0 hsz0 (i + 1) HR1.out HC1.out (by omega) (by omega)
 have HT := Aside0.mk ht
 have HD := Aside0.mk hd
 clear ht hd hi0 hsz0
 go_enter Try.func5, Try.ntmps5
 go_upto_region 4 with (first
  | (go_at_call 15; refine (impl_GroupsValid.calls kk _ _ m _ _ g true _ HR0.out HC0.out HR1.out HC1.out HV.out).mono ?_; rintro e w1 ⟨rfl, hb1⟩; have hx0 := pw_cell_below hb1 HX.out.1)
  | ((with_reducible refine gate_dst (N := 38) rfl ?_); refine Kd.R_lit k43 _ 43 ?hg (N := 38) ?hd (xs := ([] : List S43)) (inner := []) (ok := fun _ => True) (okp := fun _ => True) ?hr (Reps.none _ _) (fun _ hk => hk) trivial (Below.refl _ _) (Nat.le_refl _) (by simp) ?_; (case hd => rfl); (case hg => rfl); (case hr => first | (go_simp; done) | (go_simp; rfl)); intro v1 w2 ho1 hb2 _ _; replace hb2 := below_step hb1 hb2; replace ho1 := Kd.R_lower ho1 hb1.size)
  | ((with_reducible refine gate_builtin (b := .append) (xs := #[.tmp 38, .tmp 41]) rfl ?_); at_builtin; go_loud (refine Kd.R_append_rows k43 (w0 := w) w.heap.size rfl (.tmp 38) (.tmp 41) 24 43 (.agg #[(.int .i64 0), (.bool false)]) 16 rfl Try.underlying24 info43 rfl (by decide) (by omega) v1 [] (g.take i.toNat) _ _ _ (fun _ => True) (fun _ => False) rfl rfl ho1 (Kd.C_below HT.out hb2) (fun _ _ h => h) (fun _ h => h.elim) (fun _ _ => trivial) hb2 hb2.size (by simp; omega) ?_); intro v2 w3 ho2 hb3 _ _))
 go_cut [10] (fun v10 wc => Aside0 (Kd.R k43 43 wc w.heap.size (fun _ => True) v10 (g.take i.toNat ++ [⟨k, false⟩, ⟨(rd_T43 g i).f0 - k, (rd_T43 g i).f1⟩])) ∧ Aside0 (Below w.heap.size w wc))
 case first =>
  obtain ⟨hx0, hx1⟩ : _ ∧ _ := ⟨pw_cell_below hb3 HX.out.1, pw_cell_below hb3 HX.out.2⟩
  have p6 : IntKind.i64.wrap ((rd_T43 g i).f0 - k) = (rd_T43 g i).f0 - k := by rw [Go.IntKind.wrap_i64]; have := S1.out; have := H5.out; omega
  clear h0 h1 h2 h3
  go_region_held3 (fun w' => w'.cell? (ad.add (i.toNat * 2)) = some (.int .i64 (rd_T43 g i).f0) ∧ w'.cell? ⟨(ad.add (i.toNat * 2)).block, (ad.add (i.toNat * 2)).off + 1, none⟩ = some (.bool (rd_T43 g i).f1))
   (first
    | go_keep
    | (go_split_ands; exact ⟨pw_cell_below hb4 HX.out.1, pw_cell_below hb4 HX.out.2⟩))
   ((refine Kd.R_append_rows_step k43 (w0 := w) (W := w3.drew.alloc (.cells #[.int .i64 k, .bool false, .int .i64 ((rd_T43 g i).f0 - k), .bool (rd_T43 g i).f1] 43 (0, 0))) w.heap.size (by rfl) (.tmp 43) (.tmp 59) 24 43 (.agg #[(.int .i64 0), (.bool false)]) 16 (by rfl) Try.underlying24 info43 rfl (by decide) (by omega) v2 _ [⟨k, false⟩, ⟨(rd_T43 g i).f0 - k, (rd_T43 g i).f1⟩] (some ⟨w3.heap.size, 0, none⟩) 2 2 (fun _ => True) (fun _ => False) (by rfl) (by rfl) (Kd.R_below ho2 (below_alloc (below_drew (Below.refl _ _)) _)) (lit_C k43 w3.drew 43 (xs := [⟨k, false⟩, ⟨(rd_T43 g i).f0 - k, (rd_T43 g i).f1⟩]) (Reps.snoc (Reps.snoc (Reps.none _ _) (k43_mkM _ _ _ _) rfl) (k43_mkM _ _ _ _) rfl) (by simp)) (fun _ _ h => h) (fun _ hk => hk.elim) (fun _ _ => trivial) (below_alloc (below_drew1 hb3) _) (Nat.le_trans hb3.size (by simp)) (by simp; omega) ?_; intro v3 w4 ho3 hb4 _ _))
  go_wp2
  go_meet
  case rel => exact ⟨⟨by simpa using ho3⟩, ⟨hb4⟩⟩
 case rest =>
  obtain ⟨HO, HB⟩ := hcut
  go_wp2_with ((with_reducible refine gate_builtin (b := .append) (xs := #[.tmp 61, .tmp 65]) rfl ?_); at_builtin; go_loud (refine Kd.R_append_rows k43 (w0 := w) w.heap.size rfl (.tmp 61) (.tmp 65) 24 43 (.agg #[(.int .i64 0), (.bool false)]) 16 rfl Try.underlying24 info43 rfl (by decide) (by omega) _ _ (g.drop (i + 1).toNat) _ _ _ (fun _ => True) (fun _ => False) rfl rfl HO.out (Kd.C_below HD.out HB.out) (fun _ _ h => h) (fun _ h => h.elim) (fun _ _ => trivial) HB.out HB.out.size (by simp; omega) ?_); intro v4 w5 ho4 hb5 _ _)
  go_ret2
  have hgj : gsplit m g i k = (g.take i.toNat ++ [⟨k, false⟩, ⟨(rd_T43 g i).f0 - k, (rd_T43 g i).f1⟩] ++ g.drop (i + 1).toNat, true) := by
   unfold gsplit; rw [if_pos ⟨HOK.out, H5.out.1, H5.out.2.1, H5.out.2.2.1, H5.out.2.2.2⟩]
  rw [hgj]
  exact ⟨_, rfl, ho4, hb5⟩

end Go.Proofs.Ytpcohkffbjdmfaa.Pure
namespace Go.Proofs.Ytpcohkffbjdmfaa.PFnGroupsSplit
set_option linter.unusedVariables false
set_option linter.unusedSimpArgs false
open Go Go.RowKit Go.Proofs.Ytpcohkffbjdmfaa.Pure Go.Proofs.YtpcohkffbjdmfaaW.PrintWords Go.Proofs.YtpcohkffbjdmfaaW.PrintLast Go.Proofs.YtpcohkffbjdmfaaW.PrintMore
def impl_GroupsSplit.f (l0 : List S59) (l1 : List S43) (a2 : Int) (a3 : Int) : Option (List S43 × Bool) := if l0.length ≤ 1000000000000 ∧ l1.length ≤ 1000000000000 then some (gsplit l0 l1 a2 a3) else none
theorem impl_GroupsSplit.calls (A0 : Option Addr) (c0 : Nat) (l0 : List S59) (A1 : Option Addr) (c1 : Nat) (l1 : List S43) (a2 : Int) (a3 : Int) (r1 : List S43) (r2 : Bool) (w : World) (hr0 : Kd.C k59 w A0 l0.length l0) (hc0 : l0.length ≤ c0) (hr1 : Kd.C k43 w A1 l1.length l1) (hc1 : l1.length ≤ c1) (h : impl_GroupsSplit.f l0 l1 a2 a3 = some (r1, r2)) :
 Calls Try.prog 5 #[.slice A0 l0.length c0, .slice A1 l1.length c1, .int .i64 a2, .int .i64 a3] w fun e w' => ∃ v0_ : Value, e = .returned (.tuple #[v0_, .bool r2]) ∧ Kd.R k43 43 w' w.heap.size (fun _ => True) v0_ r1 ∧ Below w.heap.size w w' := by
 unfold impl_GroupsSplit.f at h; split at h
 ·
  rename_i hh
  injection h with h
  have := impl_GroupsSplit_calls l0 l1 a2 a3 A0 c0 A1 c1 w hr0 hc0 hr1 hc1 hh.2; rw [h] at this; exact this
 ·
  cases h

end Go.Proofs.Ytpcohkffbjdmfaa.PFnGroupsSplit
namespace Go.Proofs.Ytpcohkffbjdmfaa.Pure
set_option linter.unusedVariables false
set_option linter.unusedSimpArgs false
open Go Go.RowKit Go.Proofs.Ytpcohkffbjdmfaa.PFnGroupsSplit Go.Proofs.YtpcohkffbjdmfaaW.PrintWords Go.Proofs.YtpcohkffbjdmfaaW.PrintLast Go.Proofs.YtpcohkffbjdmfaaW.PrintMore

theorem spec_l6In_calls (a b c : Int) (r : Bool) (w : World) (h : decide (b ≤ a ∧ a ≤ c) = r) :
 Calls Try.prog 17 #[.int .i64 a, .int .i64 b, .int .i64 c] w fun e w' => e = .returned (.bool r) ∧ Below w.heap.size w w' := by
 refine (spec_l6In.calls a b c r w (by rw [spec_l6In_eq, h])).mono ?_
 rintro e w' ⟨rfl, hd⟩
 exact ⟨rfl, hd.below⟩

theorem gsplit_len (m : List S59) (g : List S43) (i k : Int) : (gsplit m g i k).1.length ≤ g.length + 2 := by
 unfold gsplit
 split
 ·
  simp; omega
 ·
  simp
set_option maxHeartbeats 4000000 in
set_option maxRecDepth 100000 in
theorem spec_GroupsSplit_calls (m : List S59) (g : List S43) (i k : Int) (A0 : Option Addr) (c0 : Nat) (A1 : Option Addr) (c1 : Nat) (w : World) (hr0 : Kd.C k59 w A0 m.length m) (hc0 : m.length ≤ c0) (hr1 : Kd.C k43 w A1 g.length g) (hc1 : g.length ≤ c1) (hm : m.length ≤ 1000000000000) (hg : g.length ≤ 1000000000000) :
 Calls Try.prog 6 #[.slice A0 m.length c0, .slice A1 g.length c1, .int .i64 i, .int .i64 k] w fun e w' => ∃ v, e = .returned (.tuple #[v, .bool (gsplit m g i k).2]) ∧ Kd.R k43 43 w' w.heap.size (fun _ => True) v (gsplit m g i k).1 ∧ Below w.heap.size w w' := by
 obtain ⟨kk, hv⟩ := Ev.rounds (spec_GroupsValid_ev m g hm hg)
 have HR0 := Aside0.mk hr0
 have HC0 := Aside0.mk hc0
 have HR1 := Aside0.mk hr1
 have HC1 := Aside0.mk hc1
 have HV := Aside0.mk hv
 clear hr0 hc0 hr1 hc1 hv hm
 cases hok : gOk m g
 ·
  have hgj : gsplit m g i k = ([], false) := by unfold gsplit; rw [if_neg (fun h => by rw [hok] at h; exact absurd h.1 (by simp))]
  rw [hgj]
  rw [hok] at HV
  clear hgj hok
  go_enter Try.func6, Try.ntmps6
  go_wp2_with (first
   | (go_at_call 16; refine (spec_GroupsValid.calls kk _ _ m _ _ g false _ HR0.out HC0.out HR1.out HC1.out HV.out).mono ?_; rintro e w1 ⟨rfl, hb1⟩)
   | ((with_reducible refine gate_dst (N := 34) rfl ?_); refine Kd.R_lit k43 _ 43 ?hg (N := 34) ?hd (xs := ([] : List S43)) (inner := []) (ok := fun _ => True) (okp := fun _ => True) ?hr (Reps.none _ _) (fun _ hk => hk) trivial (Below.refl _ _) (Nat.le_refl _) (by simp) ?_; (case hd => rfl); (case hg => rfl); (case hr => first | (go_simp; done) | (go_simp; rfl)); intro v7 w7 ho7 hb7 _ _))
  go_ret2
  exact ⟨_, rfl, Kd.R_lower ho7 hb1.size, below_step hb1 hb7⟩
 rw [hok] at HV
 have HOK := Aside0.mk hok
 have hs := gOk_sizes hok
 have HG := Aside0.mk (gOk_len hok)
 clear hok
 by_cases hi : 0 ≤ i ∧ i ≤ (g.length : Int) - 1
 ·
  have HI := Aside0.mk (decide_eq_true hi)
  have S1 := Aside0.mk (size_of hs (k := i) (by omega) (by omega))
  clear hs
  have j1 := eq_true (show i < (g.length : Int) by omega)
  have j2 := eq_true (show 0 ≤ i by omega)
  have w1' : -1 ≤ (rd_T43 g i).f0 := by have := S1.out; omega
  have w2' : (rd_T43 g i).f0 ≤ 10 := by have := S1.out; omega
  obtain ⟨ad, e1, ux0, ux1⟩ := at_T43 HR1.out i (by omega) (by omega)
  subst e1
  have HX := Aside0.mk (And.intro ux0 ux1)
  clear ux0 ux1
  by_cases hk : 1 ≤ k ∧ k ≤ (rd_T43 g i).f0 - 1
  ·
   have HK := Aside0.mk (decide_eq_true hk)
   have H5 := Aside0.mk (show 0 ≤ i ∧ i < (g.length : Int) ∧ 1 ≤ k ∧ k < (rd_T43 g i).f0 from ⟨by omega, by omega, by omega, by omega⟩)
   have k1 : decide (0 ≤ i) = true := decide_eq_true (by omega)
   have k2 : decide (i ≤ (g.length : Int)) = true := decide_eq_true (by omega)
   have k3 := eq_true (show i ≤ (g.length : Int) by omega)
   have k4 := eq_true (show i + 1 ≤ (g.length : Int) by omega)
   obtain ⟨i0, hi0, _, hsz0, _⟩ := info_parts info43
   obtain ⟨hcut, ht, _, _⟩ := cut_take k43 24 43 Try.underlying24 hi0 i HR1.out HC1.out (by omega) (by omega)
   obtain ⟨A', c', hcf, hd, hc', _⟩ := cut_drop k43 24 43 Try.underlying24 hi0 hsz0 (i + 1) HR1.out HC1.out (by omega) (by omega)
   have HT := Aside0.mk ht
   have HD := Aside0.mk hd
   have bi : i ≤ 1000000000000 := by omega
   have bi' : -1 ≤ i := by omega
   clear ht hd hi0 hsz0 hi hk
   go_enter Try.func6, Try.ntmps6
   go_wp2_with fail
   refine (spec_GroupsValid.calls kk _ _ m _ _ g true _ HR0.out HC0.out HR1.out HC1.out HV.out).mono ?_
   rintro e w1 ⟨rfl, hb1⟩
   go_wp2_with fail
   refine (spec_l6In_calls _ _ _ true _ HI.out).mono ?_
   rintro e w2 ⟨rfl, hb2⟩
   replace hb2 := below_step hb1 hb2
   have hx0 := pw_cell_below hb2 HX.out.1
   go_wp2_with fail
   refine (spec_l6In_calls _ _ _ true _ HK.out).mono ?_
   rintro e w3 ⟨rfl, hb3⟩
   replace hb3 := below_step hb2 hb3
   clear hx0
   go_upto_region 4 with (first
    | ((with_reducible refine gate_dst (N := 35) rfl ?_); refine Kd.R_lit k43 _ 43 ?hg (N := 35) ?hd (xs := ([] : List S43)) (inner := []) (ok := fun _ => True) (okp := fun _ => True) ?hr (Reps.none _ _) (fun _ hk => hk) trivial (Below.refl _ _) (Nat.le_refl _) (by simp) ?_; (case hd => rfl); (case hg => rfl); (case hr => first | (go_simp; done) | (go_simp; rfl)); intro v1 w4 ho1 hb4 _ _; replace ho1 := Kd.R_lower ho1 hb3.size; replace hb4 := below_step hb3 hb4)
    | ((with_reducible refine gate_builtin (b := .append) (xs := #[.tmp 35, .tmp 38]) rfl ?_); at_builtin; go_loud (refine Kd.R_append_rows k43 (w0 := w) w.heap.size rfl (.tmp 35) (.tmp 38) 24 43 (.agg #[(.int .i64 0), (.bool false)]) 16 rfl Try.underlying24 info43 rfl (by decide) (by omega) v1 [] (g.take i.toNat) _ _ _ (fun _ => True) (fun _ => False) rfl rfl ho1 (Kd.C_below HT.out hb4) (fun _ _ h => h) (fun _ h => h.elim) (fun _ _ => trivial) hb4 hb4.size (by have h5 := H5.out; simp; omega) ?_); intro v2 w5 ho2 hb5 _ _))
   go_cut [10] (fun v10 wc => Aside0 (Kd.R k43 43 wc w.heap.size (fun _ => True) v10 (g.take i.toNat ++ [⟨k, false⟩, ⟨(rd_T43 g i).f0 - k, (rd_T43 g i).f1⟩])) ∧ Aside0 (Below w.heap.size w wc))
   case first =>
    obtain ⟨hx0, hx1⟩ : _ ∧ _ := ⟨pw_cell_below hb5 HX.out.1, pw_cell_below hb5 HX.out.2⟩
    have p6 : IntKind.i64.wrap ((rd_T43 g i).f0 - k) = (rd_T43 g i).f0 - k := by rw [Go.IntKind.wrap_i64]; have := S1.out; have := H5.out; omega
    clear w1' w2'
    go_region_held3 (fun w' => w'.cell? (ad.add (i.toNat * 2)) = some (.int .i64 (rd_T43 g i).f0) ∧ w'.cell? ⟨(ad.add (i.toNat * 2)).block, (ad.add (i.toNat * 2)).off + 1, none⟩ = some (.bool (rd_T43 g i).f1))
     (first
      | go_keep
      | (go_split_ands; exact ⟨pw_cell_below hb6 HX.out.1, pw_cell_below hb6 HX.out.2⟩))
     ((refine Kd.R_append_rows_step k43 (w0 := w) (W := w5.drew.alloc (.cells #[.int .i64 k, .bool false, .int .i64 ((rd_T43 g i).f0 - k), .bool (rd_T43 g i).f1] 43 (0, 0))) w.heap.size (by rfl) (.tmp 40) (.tmp 56) 24 43 (.agg #[(.int .i64 0), (.bool false)]) 16 (by rfl) Try.underlying24 info43 rfl (by decide) (by omega) v2 _ [⟨k, false⟩, ⟨(rd_T43 g i).f0 - k, (rd_T43 g i).f1⟩] (some ⟨w5.heap.size, 0, none⟩) 2 2 (fun _ => True) (fun _ => False) (by rfl) (by rfl) (Kd.R_below ho2 (below_alloc (below_drew (Below.refl _ _)) _)) (lit_C k43 w5.drew 43 (xs := [⟨k, false⟩, ⟨(rd_T43 g i).f0 - k, (rd_T43 g i).f1⟩]) (Reps.snoc (Reps.snoc (Reps.none _ _) (k43_mkM _ _ _ _) rfl) (k43_mkM _ _ _ _) rfl) (by simp)) (fun _ _ h => h) (fun _ hk => hk.elim) (fun _ _ => trivial) (below_alloc (below_drew1 hb5) _) (Nat.le_trans hb5.size (by simp)) (by have h5 := H5.out; simp; omega) ?_; intro v3 w6 ho3 hb6 _ _))
    go_wp2
    go_meet
    case rel => exact ⟨⟨by simpa using ho3⟩, ⟨hb6⟩⟩
   case rest =>
    obtain ⟨HO, HB⟩ := hcut
    go_wp2_with ((with_reducible refine gate_builtin (b := .append) (xs := #[.tmp 58, .tmp 62]) rfl ?_); at_builtin; go_loud (refine Kd.R_append_rows k43 (w0 := w) w.heap.size rfl (.tmp 58) (.tmp 62) 24 43 (.agg #[(.int .i64 0), (.bool false)]) 16 rfl Try.underlying24 info43 rfl (by decide) (by omega) _ _ (g.drop (i + 1).toNat) _ _ _ (fun _ => True) (fun _ => False) rfl rfl HO.out (Kd.C_below HD.out HB.out) (fun _ _ h => h) (fun _ h => h.elim) (fun _ _ => trivial) HB.out HB.out.size (by have h5 := H5.out; simp; omega) ?_); intro v4 w7 ho4 hb7 _ _)
    go_ret2
    have hgj : gsplit m g i k = (g.take i.toNat ++ [⟨k, false⟩, ⟨(rd_T43 g i).f0 - k, (rd_T43 g i).f1⟩] ++ g.drop (i + 1).toNat, true) := by
     unfold gsplit; rw [if_pos ⟨HOK.out, H5.out.1, H5.out.2.1, H5.out.2.2.1, H5.out.2.2.2⟩]
    rw [hgj]
    exact ⟨_, rfl, ho4, hb7⟩
  ·
   have hgj : gsplit m g i k = ([], false) := by unfold gsplit; rw [if_neg (fun h => hk ⟨by omega, by omega⟩)]
   rw [hgj]
   have HK := Aside0.mk (decide_eq_false hk)
   clear hgj hk hi
   go_enter Try.func6, Try.ntmps6
   go_wp2_with fail
   refine (spec_GroupsValid.calls kk _ _ m _ _ g true _ HR0.out HC0.out HR1.out HC1.out HV.out).mono ?_
   rintro e w1 ⟨rfl, hb1⟩
   go_wp2_with fail
   refine (spec_l6In_calls _ _ _ true _ HI.out).mono ?_
   rintro e w2 ⟨rfl, hb2⟩
   replace hb2 := below_step hb1 hb2
   have hx0 := pw_cell_below hb2 HX.out.1
   go_wp2_with fail
   refine (spec_l6In_calls _ _ _ false _ HK.out).mono ?_
   rintro e w3 ⟨rfl, hb3⟩
   replace hb3 := below_step hb2 hb3
   clear hx0
   go_wp2_with ((with_reducible refine gate_dst (N := 34) rfl ?_); refine Kd.R_lit k43 _ 43 ?hg (N := 34) ?hd (xs := ([] : List S43)) (inner := []) (ok := fun _ => True) (okp := fun _ => True) ?hr (Reps.none _ _) (fun _ hk => hk) trivial (Below.refl _ _) (Nat.le_refl _) (by simp) ?_; (case hd => rfl); (case hg => rfl); (case hr => first | (go_simp; done) | (go_simp; rfl)); intro v7 w7 ho7 hb7 _ _)
   go_ret2
   exact ⟨_, rfl, Kd.R_lower ho7 hb3.size, below_step hb3 hb7⟩
 ·
  have hgj : gsplit m g i k = ([], false) := by unfold gsplit; rw [if_neg (fun h => hi ⟨by omega, by omega⟩)]
  rw [hgj]
  have HI := Aside0.mk (decide_eq_false hi)
  clear hgj hi hs
  go_enter Try.func6, Try.ntmps6
  go_wp2_with fail
  refine (spec_GroupsValid.calls kk _ _ m _ _ g true _ HR0.out HC0.out HR1.out HC1.out HV.out).mono ?_
  rintro e w1 ⟨rfl, hb1⟩
  go_wp2_with fail
  refine (spec_l6In_calls _ _ _ false _ HI.out).mono ?_
  rintro e w2 ⟨rfl, hb2⟩
  replace hb2 := below_step hb1 hb2
  go_wp2_with ((with_reducible refine gate_dst (N := 34) rfl ?_); refine Kd.R_lit k43 _ 43 ?hg (N := 34) ?hd (xs := ([] : List S43)) (inner := []) (ok := fun _ => True) (okp := fun _ => True) ?hr (Reps.none _ _) (fun _ hk => hk) trivial (Below.refl _ _) (Nat.le_refl _) (by simp) ?_; (case hd => rfl); (case hg => rfl); (case hr => first | (go_simp; done) | (go_simp; rfl)); intro v7 w7 ho7 hb7 _ _)
  go_ret2
  exact ⟨_, rfl, Kd.R_lower ho7 hb2.size, below_step hb2 hb7⟩

end Go.Proofs.Ytpcohkffbjdmfaa.Pure
namespace Go.Proofs.Ytpcohkffbjdmfaa.PFnGroupsSplit
set_option linter.unusedVariables false
set_option linter.unusedSimpArgs false
open Go Go.RowKit Go.Proofs.Ytpcohkffbjdmfaa.Pure Go.Proofs.YtpcohkffbjdmfaaW.PrintWords Go.Proofs.YtpcohkffbjdmfaaW.PrintLast Go.Proofs.YtpcohkffbjdmfaaW.PrintMore
def spec_GroupsSplit.f (l0 : List S59) (l1 : List S43) (a2 : Int) (a3 : Int) : Option (List S43 × Bool) := if l0.length ≤ 1000000000000 ∧ l1.length ≤ 1000000000000 then some (gsplit l0 l1 a2 a3) else none
theorem spec_GroupsSplit.calls (A0 : Option Addr) (c0 : Nat) (l0 : List S59) (A1 : Option Addr) (c1 : Nat) (l1 : List S43) (a2 : Int) (a3 : Int) (r1 : List S43) (r2 : Bool) (w : World) (hr0 : Kd.C k59 w A0 l0.length l0) (hc0 : l0.length ≤ c0) (hr1 : Kd.C k43 w A1 l1.length l1) (hc1 : l1.length ≤ c1) (h : spec_GroupsSplit.f l0 l1 a2 a3 = some (r1, r2)) :
 Calls Try.prog 6 #[.slice A0 l0.length c0, .slice A1 l1.length c1, .int .i64 a2, .int .i64 a3] w fun e w' => ∃ v0_ : Value, e = .returned (.tuple #[v0_, .bool r2]) ∧ Kd.R k43 43 w' w.heap.size (fun _ => True) v0_ r1 ∧ Below w.heap.size w w' := by
 unfold spec_GroupsSplit.f at h; split at h
 ·
  rename_i hh
  injection h with h
  have := spec_GroupsSplit_calls l0 l1 a2 a3 A0 c0 A1 c1 w hr0 hc0 hr1 hc1 hh.1 hh.2; rw [h] at this; exact this
 ·
  cases h

end Go.Proofs.Ytpcohkffbjdmfaa.PFnGroupsSplit
namespace Go.Proofs.Ytpcohkffbjdmfaa.PFnGroupsSplit
open Go.RowKit Go.Proofs.YtpcohkffbjdmfaaW.PrintWords Go.Proofs.YtpcohkffbjdmfaaW.PrintLast Go.Proofs.YtpcohkffbjdmfaaW.PrintMore
attribute [local go_sem] max2_int min2_int max_two min_two max_three min_three max_four min_four   -- for this text's walks alone
set_option linter.unusedVariables false
set_option linter.unusedSimpArgs false

theorem eqA43 (d : Nat) (w : World) (x0 y0 : Int) (x1 y1 : Bool) :
 (Op.equalIn (d + 2) 43 (.agg #[.int .i64 x0, .bool x1]) (.agg #[.int .i64 y0, .bool y1])).run Try.prog w = .ok (x0 == y0 && (x1 == y1)) w := by
 refine eqA_of Try.underlying43 (by kernel_rfl) ?_; refine eqf_cons (by rfl) (by go_simp; rfl) (by go_simp; rfl) (by go_simp) ?_; exact eqf_last (by rfl) (by go_simp; rfl) (by go_simp; rfl) (by go_simp)
end Go.Proofs.Ytpcohkffbjdmfaa.PFnGroupsSplit
namespace Go.Proofs.Ytpcohkffbjdmfaa.PFnGroupsSplit
open Go.RowKit Go.Proofs.YtpcohkffbjdmfaaW.PrintWords Go.Proofs.YtpcohkffbjdmfaaW.PrintLast Go.Proofs.YtpcohkffbjdmfaaW.PrintMore
attribute [local go_sem] max2_int min2_int max_two min_two max_three min_three max_four min_four   -- for this text's walks alone
set_option linter.unusedVariables false
set_option linter.unusedSimpArgs false

attribute [local go_sem high] eqA43
def laws_sameGroups.l0 : Nat → List (S43) → List (S43) → Int → Option (Bool)
 | 0, _, _, _ => none
 | k + 1, x0, x1, x5 => if x5 < (x0.length : Int) then (if 0 ≤ x5 then (if x5 < (x1.length : Int) then (if (!(((rd_T43 x0 x5).f0) == ((rd_T43 x1 x5).f0)) || (!(((rd_T43 x0 x5).f1) == ((rd_T43 x1 x5).f1)))) = true then (some false) else (laws_sameGroups.l0 k x0 x1 (wrap64 (x5 + 1)))) else (none)) else (none)) else (some true)
def laws_sameGroups.f (k : Nat) (l0 : List (S43)) (l1 : List (S43)) : Option (Bool) := if (l0.length : Int) = (l1.length : Int) then (laws_sameGroups.l0 k l0 l1 0) else (some false)
set_option maxHeartbeats 8000000 in
set_option maxRecDepth 100000 in
theorem laws_sameGroups.calls (k : Nat) (A0 : Option Addr) (c0 : Nat) (l0 : List (S43)) (A1 : Option Addr) (c1 : Nat) (l1 : List (S43)) (r : Bool) (w : World) (hr0 : Kd.C k43 w A0 l0.length l0) (hc0 : l0.length ≤ c0) (hr1 : Kd.C k43 w A1 l1.length l1) (hc1 : l1.length ≤ c1) (h : laws_sameGroups.f k l0 l1 = some r) :
 Calls Try.prog 7 #[.slice A0 l0.length c0, .slice A1 l1.length c1] w fun e w' => e = .returned (.bool r) ∧ Drawn0 w w' := by
 have hu43 := Try.underlying43; have HR0 := Aside0.mk hr0; have HC0 := Aside0.mk hc0; clear hr0 hc0; have HR1 := Aside0.mk hr1; have HC1 := Aside0.mk hc1; clear hr1 hc1; have H : (if (l0.length : Int) = (l1.length : Int) then (laws_sameGroups.l0 k l0 l1 0) else (some false)) = some r := h; clear h; by_cases c3 : (l0.length : Int) = (l1.length : Int)
 ·
  rw [if_pos c3] at H; have c3b0 : ((l0.length : Int) == (l1.length : Int)) = true := beq_iff_eq.mpr c3; have c3b1 : ((l0.length : Int) != (l1.length : Int)) = false := bne_eq_false_iff_eq.mpr c3; have c3b2 : (l0.length == l1.length) = true := by first | simpa using c3 | (simp at c3 ⊢; omega)
  clear c3; have H' := Aside0.mk H; clear H; go_enter Try.func7, Try.ntmps7
  go_wp2; repeat (go_quiet (fail); try go_wp2)
  go_loopg [5] k (fun kq v5 w' => ∃ (x5_1 : Int), v5 = .int .i64 x5_1 ∧ Aside0 (laws_sameGroups.l0 kq l0 l1 x5_1 = some r) ∧ Aside0 (kq ≤ k) ∧ Drawn0 w w')
  case atStart => exact ⟨(0), (by first | rfl | (simp; done) | (simp [*]; done)), H', ⟨Nat.le_refl _⟩, by repeat (first | exact Drawn0.refl _ | apply Drawn0.step)⟩
  case round =>
   clear H'; try clear c1
   try clear p2
   try clear c3
   try clear c3b0
   try clear c3b1
   try clear c3b2
   obtain ⟨x5_1, rfl, HA, HK1, ⟨m1, rfl⟩⟩ := hrel; cases gk with
   | zero => exact absurd HA.out (by simp [laws_sameGroups.l0])
   | succ k1 =>
    have H := HA.out; clear HA; simp only [laws_sameGroups.l0] at H; by_cases c4 : x5_1 < (l0.length : Int)
    ·
     rw [if_pos c4] at H; have c4b0 : decide (x5_1 < (l0.length : Int)) = true := decide_eq_true c4; clear c4; by_cases c5 : 0 ≤ x5_1
     ·
      rw [if_pos c5] at H; have c5b0 : decide (0 ≤ x5_1) = true := decide_eq_true c5; clear c5; by_cases c6 : x5_1 < (l1.length : Int)
      ·
       rw [if_pos c6] at H; have c6b0 : decide (x5_1 < (l1.length : Int)) = true := decide_eq_true c6; clear c6; by_cases c7 : (!(((rd_T43 l0 x5_1).f0) == ((rd_T43 l1 x5_1).f0)) || (!(((rd_T43 l0 x5_1).f1) == ((rd_T43 l1 x5_1).f1)))) = true
       ·
        rw [if_pos c7] at H; have c7b0 : (!(((rd_T43 l0 x5_1).f0) == ((rd_T43 l1 x5_1).f0)) || (!(((rd_T43 l0 x5_1).f1) == ((rd_T43 l1 x5_1).f1)))) = true := c7; clear c7; obtain rfl := Option.some.inj H; have p237 : 0 ≤ (x5_1 : Int) := of_decide_eq_true (by first | (with_reducible assumption) | assumption); have q237 : x5_1 < (l0.length : Int) := of_decide_eq_true (by first | (with_reducible assumption) | assumption); obtain ⟨ad237, e237, hx237_0, hx237_1⟩ := at_T43 HR0.out x5_1 p237 q237; cases e237; replace p237 := eq_true p237; replace q237 := eq_true q237; have p238 : 0 ≤ (x5_1 : Int) := of_decide_eq_true (by first | (with_reducible assumption) | assumption); have q238 : x5_1 < (l1.length : Int) := of_decide_eq_true (by first | (with_reducible assumption) | assumption); obtain ⟨ad238, e238, hx238_0, hx238_1⟩ := at_T43 HR1.out x5_1 p238 q238; cases e238; replace p238 := eq_true p238; replace q238 := eq_true q238; go_wp2; repeat (go_quiet (fail); try go_wp2)
        go_ret
        exact ⟨by first | rfl | (simp; done) | (simp [*]; done), by repeat (first | exact Drawn0.refl _ | apply Drawn0.step)⟩
       ·
        rw [if_neg c7] at H; have c7b0 : (!(((rd_T43 l0 x5_1).f0) == ((rd_T43 l1 x5_1).f0)) || (!(((rd_T43 l0 x5_1).f1) == ((rd_T43 l1 x5_1).f1)))) = false := by simpa using c7
        clear c7; have H' := Aside0.mk H; clear H; have p237 : 0 ≤ (x5_1 : Int) := of_decide_eq_true (by first | (with_reducible assumption) | assumption); have q237 : x5_1 < (l0.length : Int) := of_decide_eq_true (by first | (with_reducible assumption) | assumption); obtain ⟨ad237, e237, hx237_0, hx237_1⟩ := at_T43 HR0.out x5_1 p237 q237; cases e237; replace p237 := eq_true p237; replace q237 := eq_true q237; have p238 : 0 ≤ (x5_1 : Int) := of_decide_eq_true (by first | (with_reducible assumption) | assumption); have q238 : x5_1 < (l1.length : Int) := of_decide_eq_true (by first | (with_reducible assumption) | assumption); obtain ⟨ad238, e238, hx238_0, hx238_1⟩ := at_T43 HR1.out x5_1 p238 q238; cases e238; replace p238 := eq_true p238; replace q238 := eq_true q238; go_wp2; repeat (go_quiet (fail); try go_wp2)
        go_roundg k1
        case measure => have := HK1.out; omega
        case rel => exact ⟨(wrap64 (x5_1 + 1)), (by first | rfl | (simp; done) | (simp [*]; done)), H', ⟨by have := HK1.out; omega⟩, by repeat (first | exact Drawn0.refl _ | apply Drawn0.step)⟩
      ·
       rw [if_neg c6] at H; exact absurd H (by simp)
     ·
      rw [if_neg c5] at H; exact absurd H (by simp)
    ·
     rw [if_neg c4] at H; have c4b0 : decide (x5_1 < (l0.length : Int)) = false := decide_eq_false c4; clear c4; obtain rfl := Option.some.inj H; go_wp2; repeat (go_quiet (fail); try go_wp2)
     go_ret
     exact ⟨by first | rfl | (simp; done) | (simp [*]; done), by repeat (first | exact Drawn0.refl _ | apply Drawn0.step)⟩
 ·
  rw [if_neg c3] at H; have c3b0 : ((l0.length : Int) == (l1.length : Int)) = false := beq_eq_false_iff_ne.mpr c3; have c3b1 : ((l0.length : Int) != (l1.length : Int)) = true := bne_iff_ne.mpr c3; have c3b2 : (l0.length == l1.length) = false := by first | simpa using c3 | (simp at c3 ⊢; omega)
  obtain rfl := Option.some.inj H; go_enter Try.func7, Try.ntmps7
  go_wp2; repeat (go_quiet (fail); try go_wp2)
  go_ret
  exact ⟨by first | rfl | (simp; done) | (simp [*]; done), by repeat (first | exact Drawn0.refl _ | apply Drawn0.step)⟩

end Go.Proofs.Ytpcohkffbjdmfaa.PFnGroupsSplit
namespace Go.Proofs.Ytpcohkffbjdmfaa.Pure
set_option linter.unusedVariables false
set_option linter.unusedSimpArgs false
open Go Go.RowKit Go.Proofs.Ytpcohkffbjdmfaa.PFnGroupsSplit Go.Proofs.YtpcohkffbjdmfaaW.PrintWords Go.Proofs.YtpcohkffbjdmfaaW.PrintLast Go.Proofs.YtpcohkffbjdmfaaW.PrintMore

set_option maxHeartbeats 4000000 in
set_option maxRecDepth 100000 in
theorem impl_GroupsJoin_calls (m : List S59) (g : List S43) (k : Int) (A0 : Option Addr) (c0 : Nat) (A1 : Option Addr) (c1 : Nat) (w : World) (hr0 : Kd.C k59 w A0 m.length m) (hc0 : m.length ≤ c0) (hr1 : Kd.C k43 w A1 g.length g) (hc1 : g.length ≤ c1) (hg : g.length ≤ 1000000000000) :
 Calls Try.prog 8 #[.slice A0 m.length c0, .slice A1 g.length c1, .int .i64 k] w fun e w' => ∃ v, e = .returned (.tuple #[v, .bool (gjoin m g k).2]) ∧ Kd.R k43 43 w' w.heap.size (fun _ => True) v (gjoin m g k).1 ∧ Below w.heap.size w w' := by
 obtain ⟨kk, hv⟩ := Ev.rounds (impl_GroupsValid_ev m g (by omega))
 have HR0 := Aside0.mk hr0
 have HC0 := Aside0.mk hc0
 have HR1 := Aside0.mk hr1
 have HC1 := Aside0.mk hc1
 have HV := Aside0.mk hv
 clear hr0 hc0 hr1 hc1 hv
 by_cases hgood : gOk m g = true ∧ 0 ≤ k ∧ k < (g.length : Int) - 1
 ·
  obtain ⟨hok, h0, h1⟩ := hgood
  rw [hok] at HV
  have hs := gOk_sizes hok
  have S1 := Aside0.mk (size_of hs (k := k) (by omega) (by omega))
  have S2 := Aside0.mk (size_of hs (k := k + 1) (by omega) (by omega))
  have HOK := Aside0.mk hok
  clear hs hok
  have d1 : decide (k < 0) = false := decide_eq_false (by omega)
  have d2 : decide ((g.length : Int) - 1 ≤ k) = false := decide_eq_false (by omega)
  go_enter Try.func8, Try.ntmps8
  go_upto_region 3 with (go_at_call 15; refine (impl_GroupsValid.calls kk _ _ m _ _ g true _ HR0.out HC0.out HR1.out HC1.out HV.out).mono ?_; rintro e w1 ⟨rfl, hb1⟩)
  go_cut [8] (fun v8 wc => ∃ gb : Nat, v8 = .pointer (some ⟨gb, 0, none⟩) ∧ Aside0 (w.heap.size ≤ gb) ∧ Aside0 (wc.heap[gb]? = some (.cells #[.int .i64 ((rd_T43 g k).f0 + (rd_T43 g (k + 1)).f0), .bool (rd_T43 g (k + 1)).f1] 43 (0, 0))) ∧ Aside0 (Below w.heap.size w wc))
  case first =>
   obtain ⟨ad, e1, hx0, hx1⟩ := at_T43 (Kd.C_below HR1.out hb1) k (by omega) (by omega)
   subst e1
   obtain ⟨ad2, e2, hy0, hy1⟩ := at_T43 (Kd.C_below HR1.out hb1) (k + 1) (by omega) (by omega)
   obtain rfl := Option.some.inj e2
   have i1 : decide (k < (g.length : Int)) = true := decide_eq_true (by omega)
   have i2 : decide (k + 1 < (g.length : Int)) = true := decide_eq_true (by omega)
   have i3 : decide (0 ≤ k) = true := decide_eq_true (by omega)
   have i4 : decide (0 ≤ k + 1) = true := decide_eq_true (by omega)
   clear e2
   have hx0' := later_cell hx0
   have hx1' := later_cell hx1
   have hy0' := later_cell hy0
   have hy1' := later_cell hy1
   go_region
   go_wp2
   go_meet
   case rel =>
    exact ⟨_, rfl, ⟨hb1.size⟩, ⟨by rw [w64 (by have := S1.out; have := S2.out; omega) (by have := S1.out; have := S2.out; omega)]; exact blk_drew (blk_new _ _)⟩, ⟨by exact pw_below_drewN (n := 1) (below_alloc hb1 _)⟩⟩
  case rest =>
   obtain ⟨gb, rfl, GE, BK, HB⟩ := hcut
   have hcz0 : wc.cell? ⟨gb, 0, none⟩ = some (.int .i64 ((rd_T43 g k).f0 + (rd_T43 g (k + 1)).f0)) := (blk_cell BK.out 0).trans rfl
   have hcz1 : wc.cell? ⟨gb, 1, none⟩ = some (.bool (rd_T43 g (k + 1)).f1) := (blk_cell BK.out 1).trans rfl
   by_cases h4 : (rd_T43 g k).f0 + (rd_T43 g (k + 1)).f0 ≤ 4
   ·
    have H4 := Aside0.mk h4
    clear h4
    have d4 : decide (4 < (rd_T43 g k).f0 + (rd_T43 g (k + 1)).f0) = false := decide_eq_false (by have := H4.out; omega)
    have k1 : decide (0 ≤ k) = true := decide_eq_true (by omega)
    have k2 : decide (k ≤ (g.length : Int)) = true := decide_eq_true (by omega)
    obtain ⟨i0, hi0, _, hsz0, _⟩ := info_parts info43
    obtain ⟨hcut, ht, _, _⟩ := cut_take k43 24 43 Try.underlying24 hi0 k (Kd.C_below HR1.out HB.out) HC1.out h0 (by omega)
    obtain ⟨A', c', hcf, hd, _, _⟩ := cut_drop k43 24 43 Try.underlying24 hi0 hsz0 (k + 2) (Kd.C_below HR1.out HB.out) HC1.out (by omega) (by omega)
    have HT := Aside0.mk ht
    have HD := Aside0.mk hd
    clear ht hd hi0 hsz0
    go_wp2_with (first
     | ((with_reducible refine gate_dst (N := 47) rfl ?_); refine Kd.R_lit k43 _ 43 ?hg (N := 47) ?hd (xs := ([] : List S43)) (inner := []) (ok := fun _ => True) (okp := fun _ => True) ?hr (Reps.none _ _) (fun _ hk => hk) trivial (Below.refl _ _) (Nat.le_refl _) (by simp) ?_; (case hd => rfl); (case hg => rfl); (case hr => first | (go_simp; done) | (go_simp; rfl)); intro v1 w2 ho1 hb2 _ _)
     | ((with_reducible refine gate_builtin (b := .append) (xs := #[.tmp 47, .tmp 50]) rfl ?_); at_builtin; go_loud (refine Kd.R_append_rows k43 (w0 := wc) wc.heap.size rfl (.tmp 47) (.tmp 50) 24 43 (.agg #[(.int .i64 0), (.bool false)]) 16 rfl Try.underlying24 info43 rfl (by decide) (by omega) v1 [] (g.take k.toNat) _ _ _ (fun _ => True) (fun _ => False) rfl rfl ho1 (Kd.C_below HT.out hb2) (fun _ _ h => h) (fun _ h => h.elim) (fun _ _ => trivial) hb2 hb2.size (by simp; omega) ?_); intro v2 w3 ho2 hb3 _ _; have z0 := pw_cell_below hb3 hcz0; have z1 := pw_cell_below hb3 hcz1)
     | ((with_reducible refine gate_builtin (b := .append) (xs := #[.tmp 52, .tmp 54]) rfl ?_); at_builtin; go_loud (refine Kd.R_append k43 (w0 := wc) wc.heap.size rfl (.tmp 52) (.tmp 54) 24 43 (.agg #[(.int .i64 0), (.bool false)]) 16 rfl Try.underlying24 info43 rfl (by decide) (by omega) v2 _ (⟨(rd_T43 g k).f0 + (rd_T43 g (k + 1)).f0, (rd_T43 g (k + 1)).f1⟩ : S43) [.int .i64 ((rd_T43 g k).f0 + (rd_T43 g (k + 1)).f0), .bool (rd_T43 g (k + 1)).f1] (fun _ => True) (fun _ => False) rfl rfl (k43_mkM _ _ _ _) (fun _ hk => hk.elim) (fun _ _ => trivial) ho2 hb3 hb3.size (by simp; omega) ?_); intro v3 w4 ho3 hb4 _ _)
     | ((with_reducible refine gate_builtin (b := .append) (xs := #[.tmp 56, .tmp 60]) rfl ?_); at_builtin; go_loud (refine Kd.R_append_rows k43 (w0 := wc) wc.heap.size rfl (.tmp 56) (.tmp 60) 24 43 (.agg #[(.int .i64 0), (.bool false)]) 16 rfl Try.underlying24 info43 rfl (by decide) (by omega) v3 _ (g.drop (k + 2).toNat) _ _ _ (fun _ => True) (fun _ => False) rfl rfl ho3 (Kd.C_below HD.out hb4) (fun _ _ h => h) (fun _ h => h.elim) (fun _ _ => trivial) hb4 hb4.size (by simp; omega) ?_); intro v4 w5 ho4 hb5 _ _))
    go_ret2
    have hgj : gjoin m g k = (g.take k.toNat ++ [⟨(rd_T43 g k).f0 + (rd_T43 g (k + 1)).f0, (rd_T43 g (k + 1)).f1⟩] ++ g.drop (k + 2).toNat, true) := by
     unfold gjoin; rw [if_pos ⟨HOK.out, h0, h1, H4.out⟩]
    rw [hgj]
    exact ⟨v4, rfl, Kd.R_lower ho4 HB.out.size, below_step HB.out hb5⟩
   ·
    have d4 : decide (4 < (rd_T43 g k).f0 + (rd_T43 g (k + 1)).f0) = true := decide_eq_true (by omega)
    have H4 := Aside0.mk h4
    clear h4
    go_wp2
    go_ret2
    have hgj : gjoin m g k = ([], false) := by
     unfold gjoin; rw [if_neg (fun h => by have h5 := H4.out; have h6 := h.2.2.2; omega)]
    rw [hgj]
    exact ⟨_, rfl, Kd.R_nil _ _ _ _ _, HB.out⟩
 ·
  have hgj : gjoin m g k = ([], false) := by
   unfold gjoin; rw [if_neg (fun h => hgood ⟨h.1, h.2.1, h.2.2.1⟩)]
  rw [hgj]
  cases hok : gOk m g
  ·
   rw [hok] at HV
   clear hgj hok hgood
   go_enter Try.func8, Try.ntmps8
   go_wp2_with (go_at_call 15; refine (impl_GroupsValid.calls kk _ _ m _ _ g false _ HR0.out HC0.out HR1.out HC1.out HV.out).mono ?_; rintro e w1 ⟨rfl, hb1⟩)
   go_ret2
   exact ⟨_, rfl, Kd.R_nil _ _ _ _ _, hb1⟩
  ·
   rw [hok] at HV
   by_cases h0 : k < 0
   ·
    have d1 : decide (k < 0) = true := decide_eq_true h0
    clear hgj hok hgood h0
    go_enter Try.func8, Try.ntmps8
    go_wp2_with (go_at_call 15; refine (impl_GroupsValid.calls kk _ _ m _ _ g true _ HR0.out HC0.out HR1.out HC1.out HV.out).mono ?_; rintro e w1 ⟨rfl, hb1⟩)
    go_ret2
    exact ⟨_, rfl, Kd.R_nil _ _ _ _ _, hb1⟩
   ·
    have d1 : decide (k < 0) = false := decide_eq_false h0
    have d2 : decide ((g.length : Int) - 1 ≤ k) = true := decide_eq_true (by by_cases h : (g.length : Int) - 1 ≤ k; exact h; exact absurd ⟨hok, by omega, by omega⟩ hgood)
    clear hgj hok hgood h0
    go_enter Try.func8, Try.ntmps8
    go_wp2_with (go_at_call 15; refine (impl_GroupsValid.calls kk _ _ m _ _ g true _ HR0.out HC0.out HR1.out HC1.out HV.out).mono ?_; rintro e w1 ⟨rfl, hb1⟩)
    go_ret2
    exact ⟨_, rfl, Kd.R_nil _ _ _ _ _, hb1⟩

end Go.Proofs.Ytpcohkffbjdmfaa.Pure
namespace Go.Proofs.Ytpcohkffbjdmfaa.PFnGroupsSplit
set_option linter.unusedVariables false
set_option linter.unusedSimpArgs false
open Go Go.RowKit Go.Proofs.Ytpcohkffbjdmfaa.Pure Go.Proofs.YtpcohkffbjdmfaaW.PrintWords Go.Proofs.YtpcohkffbjdmfaaW.PrintLast Go.Proofs.YtpcohkffbjdmfaaW.PrintMore
def impl_GroupsJoin.f (l0 : List S59) (l1 : List S43) (a2 : Int) : Option (List S43 × Bool) := if l0.length ≤ 1000000000000 ∧ l1.length ≤ 1000000000000 then some (gjoin l0 l1 a2) else none
theorem impl_GroupsJoin.calls (A0 : Option Addr) (c0 : Nat) (l0 : List S59) (A1 : Option Addr) (c1 : Nat) (l1 : List S43) (a2 : Int) (r1 : List S43) (r2 : Bool) (w : World) (hr0 : Kd.C k59 w A0 l0.length l0) (hc0 : l0.length ≤ c0) (hr1 : Kd.C k43 w A1 l1.length l1) (hc1 : l1.length ≤ c1) (h : impl_GroupsJoin.f l0 l1 a2 = some (r1, r2)) :
 Calls Try.prog 8 #[.slice A0 l0.length c0, .slice A1 l1.length c1, .int .i64 a2] w fun e w' => ∃ v0_ : Value, e = .returned (.tuple #[v0_, .bool r2]) ∧ Kd.R k43 43 w' w.heap.size (fun _ => True) v0_ r1 ∧ Below w.heap.size w w' := by
 unfold impl_GroupsJoin.f at h; split at h
 ·
  rename_i hh
  injection h with h
  have := impl_GroupsJoin_calls l0 l1 a2 A0 c0 A1 c1 w hr0 hc0 hr1 hc1 hh.2; rw [h] at this; exact this
 ·
  cases h

end Go.Proofs.Ytpcohkffbjdmfaa.PFnGroupsSplit
namespace Go.Proofs.Ytpcohkffbjdmfaa.Pure
set_option linter.unusedVariables false
set_option linter.unusedSimpArgs false
open Go Go.RowKit Go.Proofs.Ytpcohkffbjdmfaa.PFnGroupsSplit Go.Proofs.YtpcohkffbjdmfaaW.PrintWords Go.Proofs.YtpcohkffbjdmfaaW.PrintLast Go.Proofs.YtpcohkffbjdmfaaW.PrintMore

theorem ones_of {α : Type} {d : Kd α} {W : World} {base : Nat} {okp : Nat → Prop} {ys : List α} {news : List Value} (hs0 : 0 < d.sz) (hnM : Reps (d.M W base okp) d.sz ys news) : ∀ u ∈ news, u.oneCell' = true := by
 intro u hu
 obtain ⟨q, hq, rfl⟩ := List.mem_iff_getElem.1 hu
 have hql : q / d.sz < ys.length := by
  rw [Nat.div_lt_iff_lt_mul hs0]
  have := hnM.1
  omega
 have hc := hnM.2 (q / d.sz) _ (List.getElem?_eq_getElem hql)
 refine d.K_one (d.K_of_M hc) _ ?_
 rw [List.mem_iff_getElem?]
 exact ⟨q % d.sz, by rw [List.getElem?_take, if_pos (Nat.mod_lt _ hs0), List.getElem?_drop, Nat.mul_comm, Nat.div_add_mod, List.getElem?_eq_getElem hq]⟩
theorem R_copy_all {P : Program} {ops : Array Oper} {o : Oper} {rest : List Oper} {a : Act} {Q : Exit → Act → World → Prop} {α : Type} (d : Kd α) {w0 W : World} (base : Nat) (hgd : o.guard = none) (s x : Operand) (t e : TypeId)
 (ho : o.op = .call { callee := .builtin .copy, args := #[s, x], argTypes := #[t, t] }) (ht : P.underlying t = some (.slice e)) (hsz : (P.info? e).map (·.size) = some d.sz) (hs0 : 0 < d.sz)
 (v : Value) (zs xs : List α) (hl : zs.length = xs.length) (A : Option Addr) (c : Nat) (hv : a.eval s = v) (hx : a.eval x = .slice A xs.length c)
 (HO : d.R e W base (fun _ => True) v zs) (HR : d.C W A xs.length xs) (hKM : ∀ p cs, d.K W p cs → d.M W base (fun _ => False) p cs) (HB : Below base w0 W)
 (h : ∀ w1, d.R e w1 base (fun _ => True) v xs → Below base w0 w1 → wpList P ops Q rest (a.put o.dst (goInt xs.length)) w1) : wpList P ops Q (o :: rest) a W := by
 obtain ⟨i, hi, hisz⟩ := Option.map_eq_some_iff.1 hsz
 have hrun : ∃ w1, (Builtin.copy_ #[t, t] o.type #[v, .slice A xs.length c]).run P W = .ok (goInt xs.length) w1 ∧ d.R e w1 base (fun _ => True) v xs ∧ Below base w0 w1 := by
  obtain ⟨hok, inner, hown, hr⟩ := HO
  by_cases h0 : xs.length = 0
  ·
   obtain rfl : xs = [] := List.eq_nil_of_length_eq_zero h0
   obtain rfl : zs = [] := List.eq_nil_of_length_eq_zero (by simpa using hl)
   have hl0 : ∀ (y : Addr), (loadCells y 0).run P W = .ok #[] W := fun y => by simpa using run_loadCells_list (P := P) W y [] (by simp)
   refine ⟨W, ?_, ⟨hok, inner, hown, hr⟩, HB⟩
   rcases hown.2 with ⟨rfl, _⟩ | ⟨g, cap, cur, rfl, _⟩ <;> cases A <;> simp [Builtin.copy_, run_underlying ht, Builtin.lenOf, Builtin.firstCells, sizeOf, typeInfo, hi, storeCells, hl0]
  ·
   obtain ⟨ad, rfl, hcc⟩ := HR.2.2 (by omega)
   obtain ⟨news, hnr, hnc⟩ := ReadsRow.inner_ HR
   have hnM : Reps (d.M W base (fun _ => False)) d.sz xs news := hnr.imp_ (fun p c hp => hKM p c hp)
   have hone := ones_of hs0 hnM
   rcases hown.2 with ⟨rfl, hz⟩ | ⟨g, cap, cur, rfl, hg, hh, hncap, hcm, hcs, htk⟩
   ·
    omega
   ·
    have hfit : news.length ≤ cur.size := by
     rw [hnM.1, hcs, ← hl]
     exact Nat.mul_le_mul_right _ hncap
    have hst := run_storeCells_at P g 0 e news 0 cur W hh (by omega) hone
    have hld := run_loadCells_list (P := P) W ad news hnc
    have hnl : news.length = xs.length * d.sz := hnM.1
    refine ⟨W.setRow g (cur.toList.take 0 ++ news ++ cur.toList.drop (0 + 0 + news.length)).toArray, ?_, ⟨fun _ _ => trivial, news, ?_, ?_⟩, below_setRow HB hg _⟩
    ·
     rw [hnl] at hld
     simp [Builtin.copy_, run_underlying ht, Builtin.lenOf, Builtin.firstCells, sizeOf, typeInfo, hi, hisz, hl, hld, hst]
    ·
     refine ⟨hnl, .inr ⟨g, cap, _, by rw [hl], hg, setRow_heap W g cur _ e _ hh, by omega, hcm, ?_, ?_⟩⟩
     ·
      simp only [List.take_zero, List.nil_append, List.size_toArray, List.length_append, List.length_drop, Array.length_toList]
      omega
     ·
      simp only [List.take_zero, List.nil_append]
      rw [← hnl, List.take_append_of_le_length (Nat.le_refl _), List.take_length]
    ·
     exact hnM.imp_ (fun p c hp => d.M_mono (fun k hk => hk.elim) (d.M_move (fun k hk => hk.elim) hp))
 obtain ⟨w1, hr1, h1, hb1⟩ := hrun
 refine wpList_plain hgd fun K hK => ?_
 unfold Oper.wp execOp
 simp only [ho, resolve, invoke, builtin, Sem.run_bind, Sem.run_pure, Result.andThen_ok, List.map_toArray, List.map_cons, List.map_nil, hv, hx, hr1]
 exact hK _ _ (h w1 h1 hb1)

theorem tone_heap : Kd.Heap k59 := Kd.heap_iso _ (Kd.heap_pair (Kd.heap_int .i64) Kd.heap_bool)
set_option maxHeartbeats 4000000 in
set_option maxRecDepth 100000 in
theorem impl_copiedTones_calls (m : List S59) (A0 : Option Addr) (c0 : Nat) (w : World) (hr0 : Kd.C k59 w A0 m.length m) (hc0 : m.length ≤ c0) (hm : m.length ≤ 1000000000000) :
 Calls Try.prog 19 #[.slice A0 m.length c0] w fun e w' => ∃ v, e = .returned v ∧ Kd.R k59 59 w' w.heap.size (fun _ => True) v m ∧ Below w.heap.size w w' := by
 have HR0 := Aside0.mk hr0
 have HC0 := Aside0.mk hc0
 clear hr0 hc0
 go_enter Try.func19, Try.ntmps19
 go_wp2_with (first
  | ((with_reducible refine gate_dst (N := 6) rfl ?_); refine Kd.R_make k59 _ 59 rfl (N := 6) rfl 23 _ _ rfl (m.length : Int) rfl rfl Try.underlying23 (.agg #[(.int .i64 0), (.bool false)]) 16 info59 rfl (by decide) (by omega) z59 (ok := fun _ => True) (okp := fun _ => True) (k59_mkM _ _ _ z59) (fun _ hk => hk) trivial (by omega) (by omega) (Below.refl _ _) (Nat.le_refl _) ?_; intro v1 w1 ho1 hb1 hg1 _)
  | ((with_reducible refine gate_builtin (b := .copy) (xs := #[.tmp 7, .tmp 8]) rfl ?_); go_loud (refine R_copy_all k59 w.heap.size rfl (.tmp 7) (.tmp 8) 23 59 rfl Try.underlying23 (by have h := congrArg (Option.map (fun x => x.2.1)) info59; rw [Option.map_map] at h; exact h) (by decide) v1 (List.replicate (m.length : Int).toNat z59) m (by simp) A0 c0 rfl rfl ho1 (Kd.C_below HR0.out hb1) (fun p c h => by rw [k59_open h]; exact k59_mkM _ _ _ p) hb1 ?_); intro w2 ho2 hb2))
 go_ret
 exact ⟨_, rfl, ho2, hb2⟩
set_option maxHeartbeats 4000000 in
set_option maxRecDepth 100000 in
theorem impl_GroupsCut_calls (m : List S59) (g : List S43) (k : Int) (A0 : Option Addr) (c0 : Nat) (A1 : Option Addr) (c1 : Nat) (w : World) (hr0 : Kd.C k59 w A0 m.length m) (hc0 : m.length ≤ c0) (hr1 : Kd.C k43 w A1 g.length g) (hc1 : g.length ≤ c1) (hg : g.length ≤ 1000000000000) :
 Calls Try.prog 9 #[.slice A0 m.length c0, .slice A1 g.length c1, .int .i64 k] w fun e w' => ∃ v, e = .returned (.tuple #[v, .bool (gcut m g k).2]) ∧ Kd.R k59 59 w' w.heap.size (fun _ => True) v (gcut m g k).1 ∧ Below w.heap.size w w' := by
 obtain ⟨kk, hv⟩ := Ev.rounds (impl_groupsOf_ev m g hg)
 replace hv : impl_groupsOf.f kk m g = some (gof m g) := hv
 have HR0 := Aside0.mk hr0
 have HC0 := Aside0.mk hc0
 have HR1 := Aside0.mk hr1
 have HC1 := Aside0.mk hc1
 clear hr0 hc0 hr1 hc1
 obtain ⟨gr, hgr⟩ : ∃ gr, gof m g = (gr, gOk m g) := ⟨(gof m g).1, by rw [← gof_ok]⟩
 rw [hgr] at hv
 cases hok : gOk m g
 ·
  have hgj : gcut m g k = ([], false) := by unfold gcut; rw [if_neg (fun h => by rw [hok] at h; exact absurd h.1 (by simp))]
  rw [hgj]
  rw [hok] at hv
  have HV := Aside0.mk hv
  clear hgj hok hv hgr
  go_enter Try.func9, Try.ntmps9
  go_wp2_with (go_at_call 18; refine (impl_groupsOf.calls kk (fun k_ => k_ < w.heap.size) _ _ m _ _ g gr false _ (Kd.V_mk HC0.out (Kd.C_F tone_heap HR0.out)) HR1.out HC1.out HV.out).mono ?_; rintro e w1 ⟨v0, rfl, hn1, hb1⟩; obtain ⟨B0, d0, rfl⟩ := Kd.N_slice hn1)
  go_ret2
  exact ⟨_, rfl, Kd.R_nil _ _ _ _ _, hb1⟩
 rw [hok] at hv
 have HV := Aside0.mk hv
 have hat : gr.length = g.length ∧ ∀ i, i < g.length → (gr.getD i z51).f0 = (m.drop (total (g.take i)).toNat).take (g.getD i z43).f0.toNat := by
  have e : gof m g = goG [] m g := by unfold gof; rw [if_pos (gOk_mel hok)]
  rw [e] at hgr
  obtain ⟨h1, t, h2, h3⟩ := goG_at g [] m (by rw [hgr, hok])
  rw [hgr] at h1 h2
  simp only [List.nil_append, List.length_nil, Nat.zero_add] at h1 h2
  subst h2
  exact ⟨h1, h3⟩
 have HOK := Aside0.mk hok
 have hml := melOk_len (gOk_mel hok)
 clear hv hgr hok
 obtain ⟨hl, hat⟩ := hat
 have HL := Aside0.mk hl
 by_cases h0 : k < 0
 ·
  have hgj : gcut m g k = ([], false) := by unfold gcut; rw [if_neg (fun h => by omega)]
  rw [hgj]
  have d1 : decide (k < 0) = true := decide_eq_true h0
  clear hgj h0 hat
  go_enter Try.func9, Try.ntmps9
  go_wp2_with (go_at_call 18; refine (impl_groupsOf.calls kk (fun k_ => k_ < w.heap.size) _ _ m _ _ g gr true _ (Kd.V_mk HC0.out (Kd.C_F tone_heap HR0.out)) HR1.out HC1.out HV.out).mono ?_; rintro e w1 ⟨v0, rfl, hn1, hb1⟩; obtain ⟨B0, d0, rfl⟩ := Kd.N_slice hn1)
  go_ret2
  exact ⟨_, rfl, Kd.R_nil _ _ _ _ _, hb1⟩
 have d1 : decide (k < 0) = false := decide_eq_false h0
 by_cases h1 : (gr.length : Int) ≤ k
 ·
  have hgj : gcut m g k = ([], false) := by unfold gcut; rw [if_neg (fun h => by omega)]
  rw [hgj]
  have d2 : decide ((gr.length : Int) ≤ k) = true := decide_eq_true h1
  clear hgj h0 h1 hat hl
  go_enter Try.func9, Try.ntmps9
  go_wp2_with (go_at_call 18; refine (impl_groupsOf.calls kk (fun k_ => k_ < w.heap.size) _ _ m _ _ g gr true _ (Kd.V_mk HC0.out (Kd.C_F tone_heap HR0.out)) HR1.out HC1.out HV.out).mono ?_; rintro e w1 ⟨v0, rfl, hn1, hb1⟩; obtain ⟨B0, d0, rfl⟩ := Kd.N_slice hn1)
  go_ret2
  exact ⟨_, rfl, Kd.R_nil _ _ _ _ _, hb1⟩
 have d2 : decide ((gr.length : Int) ≤ k) = false := decide_eq_false h1
 have j1 := eq_true (show k < (gr.length : Int) by omega)
 have j2 := eq_true (show 0 ≤ k by omega)
 have hx : (rd_T51 gr k).f0 = (m.drop (total (g.take k.toNat)).toNat).take (rd_T43 g k).f0.toNat := hat k.toNat (by omega)
 have hgj : gcut m g k = ((rd_T51 gr k).f0, true) := by unfold gcut; rw [if_pos ⟨HOK.out, by omega, by omega⟩, hx]
 have hxl : (rd_T51 gr k).f0.length ≤ 24 := by rw [hx, List.length_take, List.length_drop]; omega
 rw [hgj]
 have K2 := Aside0.mk (show 0 ≤ k ∧ k < (gr.length : Int) from ⟨by omega, by omega⟩)
 obtain ⟨X, hX⟩ : ∃ X, X = (rd_T51 gr k).f0 := ⟨_, rfl⟩
 rw [← hX] at hxl ⊢
 have HX := Aside0.mk hX
 clear hgj h0 h1 hat hl hx hX
 go_enter Try.func9, Try.ntmps9
 go_wp2_with (first
  | (go_at_call 18; refine (impl_groupsOf.calls kk (fun k_ => k_ < w.heap.size) _ _ m _ _ g gr true _ (Kd.V_mk HC0.out (Kd.C_F tone_heap HR0.out)) HR1.out HC1.out HV.out).mono ?_; rintro e w1 ⟨v0, rfl, hn1, hb1⟩; obtain ⟨B0, d0, rfl⟩ := Kd.N_slice hn1; obtain ⟨ad, A2, c2, e2, ux0, ux1, hc2, hr2⟩ := at_T51 (Kd.N_reads' hn1).2.2 k K2.out.1 K2.out.2; subst e2; rw [← HX.out] at ux0 hc2 hr2; have HR2 := Aside0.mk hr2; have HC2 := Aside0.mk hc2; clear hr2 hc2 hn1)
  | (go_at_call 19; refine (impl_copiedTones_calls X _ _ _ HR2.out HC2.out (by omega)).mono ?_; rintro e w2 ⟨v, rfl, ho2, hb2⟩))
 go_ret2
 exact ⟨_, rfl, Kd.R_lower ho2 hb1.size, below_step hb1 hb2⟩

end Go.Proofs.Ytpcohkffbjdmfaa.Pure
namespace Go.Proofs.Ytpcohkffbjdmfaa.PFnGroupsSplit
set_option linter.unusedVariables false
set_option linter.unusedSimpArgs false
open Go Go.RowKit Go.Proofs.Ytpcohkffbjdmfaa.Pure Go.Proofs.YtpcohkffbjdmfaaW.PrintWords Go.Proofs.YtpcohkffbjdmfaaW.PrintLast Go.Proofs.YtpcohkffbjdmfaaW.PrintMore
def impl_GroupsCut.f (l0 : List S59) (l1 : List S43) (a2 : Int) : Option (List S59 × Bool) := if l0.length ≤ 1000000000000 ∧ l1.length ≤ 1000000000000 then some (gcut l0 l1 a2) else none
theorem impl_GroupsCut.calls (A0 : Option Addr) (c0 : Nat) (l0 : List S59) (A1 : Option Addr) (c1 : Nat) (l1 : List S43) (a2 : Int) (r1 : List S59) (r2 : Bool) (w : World) (hr0 : Kd.C k59 w A0 l0.length l0) (hc0 : l0.length ≤ c0) (hr1 : Kd.C k43 w A1 l1.length l1) (hc1 : l1.length ≤ c1) (h : impl_GroupsCut.f l0 l1 a2 = some (r1, r2)) :
 Calls Try.prog 9 #[.slice A0 l0.length c0, .slice A1 l1.length c1, .int .i64 a2] w fun e w' => ∃ v0_ : Value, e = .returned (.tuple #[v0_, .bool r2]) ∧ Kd.R k59 59 w' w.heap.size (fun _ => True) v0_ r1 ∧ Below w.heap.size w w' := by
 unfold impl_GroupsCut.f at h; split at h
 ·
  rename_i hh
  injection h with h
  have := impl_GroupsCut_calls l0 l1 a2 A0 c0 A1 c1 w hr0 hc0 hr1 hc1 hh.2; rw [h] at this; exact this
 ·
  cases h

end Go.Proofs.Ytpcohkffbjdmfaa.PFnGroupsSplit
namespace Go.Proofs.Ytpcohkffbjdmfaa.PFnGroupsSplit
set_option linter.unusedVariables false
set_option linter.unusedSimpArgs false
open Go Go.RowKit Go.Proofs.Ytpcohkffbjdmfaa.Pure Go.Proofs.YtpcohkffbjdmfaaW.PrintWords Go.Proofs.YtpcohkffbjdmfaaW.PrintLast Go.Proofs.YtpcohkffbjdmfaaW.PrintMore
def impl_ContourOf.f (l0 : List S59) : Option ByteArray := some (cOf l0)
theorem impl_ContourOf.calls (A0 : Option Addr) (c0 : Nat) (l0 : List S59) (r : ByteArray) (w : World) (hr0 : Kd.C k59 w A0 l0.length l0) (hc0 : l0.length ≤ c0) (h : impl_ContourOf.f l0 = some r) :
 Calls Try.prog 10 #[.slice A0 l0.length c0] w fun e w' => e = .returned (.string r) ∧ Below w.heap.size w w' := by
 unfold impl_ContourOf.f at h; injection h with h
 subst h; exact impl_ContourOf_calls l0 A0 c0 w hr0 hc0

end Go.Proofs.Ytpcohkffbjdmfaa.PFnGroupsSplit
namespace Go.Proofs.Ytpcohkffbjdmfaa.PFnGroupsSplit
open Go.RowKit Go.Proofs.YtpcohkffbjdmfaaW.PrintWords Go.Proofs.YtpcohkffbjdmfaaW.PrintLast Go.Proofs.YtpcohkffbjdmfaaW.PrintMore
attribute [local go_sem] max2_int min2_int max_two min_two max_three min_three max_four min_four   -- for this text's walks alone
set_option linter.unusedVariables false
set_option linter.unusedSimpArgs false

def laws_FnGroupsSplit.j0 : Nat → List (S59) → List (S43) → Int → Int → List (S43) → Bool → List (S43) → Bool → Bool → Option (Bool)
 | 0, _, _, _, _, _, _, _, _, _ => none
 | k + 1, x3, x4, x5, x6, x7, x8, x9, x10, x58 => if x58 = true then (if (x8 == x10) = true then ((laws_sameGroups.f k x7 x9).bind fun t277 => (some t277)) else (some false)) else ((impl_GroupsJoin.f x3 x7 x5).bind fun bt278 => ((impl_GroupsCut.f x3 x7 x5).bind fun bt282 => ((impl_GroupsCut.f x3 x7 (wrap64 (x5 + 1))).bind fun bt286 => ((impl_GroupsCut.f x3 x4 x5).bind fun bt290 => ((impl_ContourOf.f bt290.1).bind fun t294 => (if bt278.2 = true then (if bt282.2 = true then (if bt286.2 = true then (if bt290.2 = true then ((laws_sameGroups.f k bt278.1 x4).bind fun t295 => (if t295 = true then (if (x7.length : Int) = (wrap64 ((x4.length : Int) + 1)) then (if 0 ≤ (wrap64 (x6 - 1)) then (if (wrap64 (x6 - 1)) ≤ (t294.size : Int) then ((impl_ContourOf.f bt282.1).bind fun t296 => (if (t294.extract 0 ((wrap64 (x6 - 1)) : Int).toNat).toList = t296.toList then (if 0 ≤ x6 then (if x6 ≤ (t294.size : Int) then ((impl_ContourOf.f bt286.1).bind fun t297 => (some ((t294.extract (x6 : Int).toNat t294.size).toList == t297.toList))) else (none)) else (none)) else (some false))) else (none)) else (none)) else (some false)) else (some false))) else (some false)) else (some false)) else (some false)) else (some false)))))))
def laws_FnGroupsSplit.f (k : Nat) (l0 : List Int) : Option (Bool) := if (l0.length : Int) > 1048576 then (some true) else ((spec_DrawGroupsSplit.f k l0).bind fun bt260 => ((impl_GroupsSplit.f bt260.1 bt260.2.1 bt260.2.2.1 bt260.2.2.2).bind fun bt268 => ((spec_GroupsSplit.f bt260.1 bt260.2.1 bt260.2.2.1 bt260.2.2.2).bind fun bt272 => (if (bt268.2 != bt272.2) = true then (laws_FnGroupsSplit.j0 k bt260.1 bt260.2.1 bt260.2.2.1 bt260.2.2.2 bt268.1 bt268.2 bt272.1 bt272.2 true) else ((laws_sameGroups.f k bt268.1 bt272.1).bind fun t276 => (if t276 = true then (laws_FnGroupsSplit.j0 k bt260.1 bt260.2.1 bt260.2.2.1 bt260.2.2.2 bt268.1 bt268.2 bt272.1 bt272.2 (!bt268.2)) else (laws_FnGroupsSplit.j0 k bt260.1 bt260.2.1 bt260.2.2.1 bt260.2.2.2 bt268.1 bt268.2 bt272.1 bt272.2 true)))))))
def laws_FnGroupsSplit.T13 : Bool × List (List Nat × List Nat) := (true, [([], []), ([0], [0]), ([1], [1]), ([1, 2], [1, 2]), ([3, 1], [3]), ([4], [4]), ([4, 5], [4, 5]), ([6, 4], [6]), ([7], [7]), ([7, 8], [7, 8]), ([9, 7], [9]), ([10], [10]), ([10], [10]), ([11, 12, 10, 10], [10, 11, 12]), ([10, 13], [10, 13]), ([14, 13], [14]), ([15], [15]), ([16, 15], [15, 16]), ([15], [15]), ([18, 15], [15, 18]), ([19, 15], [15, 19]), ([17, 20, 15], [15, 17, 20]), ([15, 21], [15, 21]), ([22, 15], [22]), ([23], [23]), ([23], [23]), ([25, 23], [23, 25]), ([24, 26, 23], [23, 24, 26]), ([23], [23]), ([28, 23, 23], [23, 28]), ([27, 29, 23], [23, 27, 29]), ([23, 30], [23, 30]), ([31, 29], [31]), ([32], [32]), ([32], [32]), ([33, 34, 32], [32, 33, 34]), ([32], [32]), ([36, 32, 32], [32, 36]), ([35, 37, 32], [32, 35, 37]), ([32, 38], [32, 38]), ([39, 37, 0, 1, 2, 3, 4, 5, 6, 7, 8, 9, 10, 11, 12, 13, 14, 15, 16, 17, 18, 19, 20, 21, 22, 23, 24, 25, 26, 27, 28, 29, 30, 31, 32, 33, 34, 35, 36, 37, 38, 39], [39])])
def laws_FnGroupsSplit.B13 : List Nat := [0, 1, 3, 7, 15, 31, 63, 127, 255, 511, 1023, 2047, 2047, 8191, 16383, 32767, 65535, 131071, 65535, 327679, 851967, 2097151, 4194303, 8388607, 16777215, 16777215, 50331647, 134217727, 16777215, 285212671, 1073741823, 2147483647, 4294967295, 8589934591, 8589934591, 34359738367, 8589934591, 77309411327, 274877906943, 549755813887, 1099511627775]
theorem laws_FnGroupsSplit.tab13 : rtab .any (opsOf Try.f3 13) = laws_FnGroupsSplit.T13 := by kernel_rfl
theorem laws_FnGroupsSplit.bits13 : waitsOk laws_FnGroupsSplit.T13.2 laws_FnGroupsSplit.B13 = true := by kernel_rfl
set_option maxHeartbeats 8000000 in
set_option maxRecDepth 100000 in
theorem laws_FnGroupsSplit.calls (k : Nat) (A0 : Option Addr) (c0 : Nat) (l0 : List Int) (r : Bool) (w : World) (hr0 : Kd.C (Kd.int .u8) w A0 l0.length l0) (hc0 : l0.length ≤ c0) (hr : r = true) (h : laws_FnGroupsSplit.f k l0 = some r) :
 Calls Try.prog 3 #[.slice A0 l0.length c0] w fun e w' => e = .returned (.bool r) ∧ Below w.heap.size w w' := by
 have HRR := Aside0.mk hr; clear hr; have HR0 := Aside0.mk hr0; have HC0 := Aside0.mk hc0; clear hr0 hc0; have HB := Aside0.mk (Below.refl w.heap.size w); have H : (if (l0.length : Int) > 1048576 then (some true) else ((spec_DrawGroupsSplit.f k l0).bind fun bt260 => ((impl_GroupsSplit.f bt260.1 bt260.2.1 bt260.2.2.1 bt260.2.2.2).bind fun bt268 => ((spec_GroupsSplit.f bt260.1 bt260.2.1 bt260.2.2.1 bt260.2.2.2).bind fun bt272 => (if (bt268.2 != bt272.2) = true then (laws_FnGroupsSplit.j0 k bt260.1 bt260.2.1 bt260.2.2.1 bt260.2.2.2 bt268.1 bt268.2 bt272.1 bt272.2 true) else ((laws_sameGroups.f k bt268.1 bt272.1).bind fun t276 => (if t276 = true then (laws_FnGroupsSplit.j0 k bt260.1 bt260.2.1 bt260.2.2.1 bt260.2.2.2 bt268.1 bt268.2 bt272.1 bt272.2 (!bt268.2)) else (laws_FnGroupsSplit.j0 k bt260.1 bt260.2.1 bt260.2.2.1 bt260.2.2.2 bt268.1 bt268.2 bt272.1 bt272.2 true)))))))) = some r := h; clear h; by_cases c2 : (l0.length : Int) > 1048576
 ·
  rw [if_pos c2] at H; have c2b0 : decide (1048576 < (l0.length : Int)) = true := decide_eq_true c2; have c2b1 : decide (1048576 < l0.length) = true := decide_eq_true (by omega); clear c2; obtain rfl := Option.some.inj H; go_enter Try.func3, Try.ntmps3
  go_wp2; go_ret
  exact ⟨by first | rfl | (simp [errW_none, errW_some] <;> rfl) | (simp [*, errW_none, errW_some] <;> rfl), by repeat (first | (with_reducible first | exact HB.out | apply below_alloc | apply pw_below_drewN | apply below_drew1) | exact HB.out)⟩
 ·
  rw [if_neg c2] at H; have c2b0 : decide (1048576 < (l0.length : Int)) = false := decide_eq_false c2; have c2b1 : decide (1048576 < l0.length) = false := decide_eq_false (by omega); clear c2; replace H := Option.bind_eq_some_iff.mp H; obtain ⟨⟨t260, t261, t262, t263⟩, A30, H⟩ := H; replace H : ((impl_GroupsSplit.f t260 t261 t262 t263).bind fun bt268 => ((spec_GroupsSplit.f t260 t261 t262 t263).bind fun bt272 => (if (bt268.2 != bt272.2) = true then (laws_FnGroupsSplit.j0 k t260 t261 t262 t263 bt268.1 bt268.2 bt272.1 bt272.2 true) else ((laws_sameGroups.f k bt268.1 bt272.1).bind fun t276 => (if t276 = true then (laws_FnGroupsSplit.j0 k t260 t261 t262 t263 bt268.1 bt268.2 bt272.1 bt272.2 (!bt268.2)) else (laws_FnGroupsSplit.j0 k t260 t261 t262 t263 bt268.1 bt268.2 bt272.1 bt272.2 true)))))) = some r := H; have A3 := Aside0.mk A30; clear A30; replace H := Option.bind_eq_some_iff.mp H; obtain ⟨⟨t268, t269⟩, A40, H⟩ := H; replace H : ((spec_GroupsSplit.f t260 t261 t262 t263).bind fun bt272 => (if (t269 != bt272.2) = true then (laws_FnGroupsSplit.j0 k t260 t261 t262 t263 t268 t269 bt272.1 bt272.2 true) else ((laws_sameGroups.f k t268 bt272.1).bind fun t276 => (if t276 = true then (laws_FnGroupsSplit.j0 k t260 t261 t262 t263 t268 t269 bt272.1 bt272.2 (!t269)) else (laws_FnGroupsSplit.j0 k t260 t261 t262 t263 t268 t269 bt272.1 bt272.2 true))))) = some r := H; have A4 := Aside0.mk A40; clear A40; replace H := Option.bind_eq_some_iff.mp H; obtain ⟨⟨t272, t273⟩, A50, H⟩ := H; replace H : (if (t269 != t273) = true then (laws_FnGroupsSplit.j0 k t260 t261 t262 t263 t268 t269 t272 t273 true) else ((laws_sameGroups.f k t268 t272).bind fun t276 => (if t276 = true then (laws_FnGroupsSplit.j0 k t260 t261 t262 t263 t268 t269 t272 t273 (!t269)) else (laws_FnGroupsSplit.j0 k t260 t261 t262 t263 t268 t269 t272 t273 true)))) = some r := H; have A5 := Aside0.mk A50; clear A50; have HC6 := Aside0.mk H; clear H; go_enter Try.func3, Try.ntmps3
  go_upto_region 6 with (first | ((with_reducible refine gate_callee (f := 4) rfl ?_); refine goesL_ (some 25) rfl rfl Try.func4 (by kernel_rfl) rfl #[.slice A0 l0.length c0] rfl (by (try simp only [List.map_toArray, List.map_cons, List.map_nil]); first | done | rfl | (simp only [List.length_drop, List.length_take]; rfl)) ?_; (with_reducible refine (spec_DrawGroupsSplit.calls k _ _ l0 t260 t261 t262 t263 _ ?side1 ?side2 A3.out).mono ?_); (case side1 => repeat (first | exact HR0.out | (with_reducible refine Kd.C_alloc ?_ _) | (with_reducible refine Kd.C_drewN ?_ _) | (with_reducible refine Kd.C_drew ?_))); (case side2 => exact HC0.out); rintro e w7 ⟨v264, v266, rfl, ho0, ho1, hb⟩; refine ⟨_, rfl, ?_⟩; have n0_ := Aside0.mk (Kd.R_lower ho0 (below_size (by repeat (first | (with_reducible first | exact HB.out | apply below_alloc | apply pw_below_drewN | apply below_drew1) | exact HB.out)))); have n1_ := Aside0.mk (Kd.Q_lower ho1 (below_size (by repeat (first | (with_reducible first | exact HB.out | apply below_alloc | apply pw_below_drewN | apply below_drew1) | exact HB.out)))); have n2_ := Aside0.mk (below_step (by repeat (first | (with_reducible first | exact HB.out | apply below_alloc | apply pw_below_drewN | apply below_drew1) | exact HB.out)) hb); clear HB; have HO265 := n0_; have HO267 := n1_; have HB := n2_; clear n0_ n1_ n2_; (try clear hb); (try clear hb2); (try clear hk); (try clear hi); (try clear ho0); (try clear ho1); obtain ⟨Ao8, co8, eo8⟩ := Kd.R_slice HO265.out; subst eo8; obtain ⟨Ao9, co9, eo9, _⟩ := Kd.Q_slice HO267.out; subst eo9) | ((with_reducible refine gate_callee (f := 5) rfl ?_); refine goesL_ (some 35) rfl rfl Try.func5 (by kernel_rfl) rfl #[.slice Ao8 t260.length co8, .slice Ao9 t261.length co9, .int .i64 t262, .int .i64 t263] rfl (by (try simp only [List.map_toArray, List.map_cons, List.map_nil]); first | done | rfl | (simp only [List.length_drop, List.length_take]; rfl)) ?_; (with_reducible refine (impl_GroupsSplit.calls _ _ t260 _ _ t261 t262 t263 t268 t269 _ ?side1 ?side2 ?side3 ?side4 A4.out).mono ?_); (case side1 => repeat (first | exact (Kd.R_reads' HO265.out).2.2 | (with_reducible refine Kd.C_alloc ?_ _) | (with_reducible refine Kd.C_drewN ?_ _) | (with_reducible refine Kd.C_drew ?_))); (case side2 => exact (Kd.R_reads' HO265.out).2.1); (case side3 => repeat (first | exact (Kd.Q_reads' HO267.out).2.2 | (with_reducible refine Kd.C_alloc ?_ _) | (with_reducible refine Kd.C_drewN ?_ _) | (with_reducible refine Kd.C_drew ?_))); (case side4 => exact (Kd.Q_reads' HO267.out).2.1); rintro e w10 ⟨v270, rfl, ho0, hb⟩; refine ⟨_, rfl, ?_⟩; have n0_ := Aside0.mk (Kd.R_below (by (with_reducible repeat (first | apply Kd.R_alloc | apply Kd.R_drewN | apply Kd.R_drew)); exact HO265.out) hb); have n1_ := Aside0.mk (Kd.Q_elder' (by (with_reducible repeat (first | apply Kd.Q_alloc | apply Kd.Q_drewN | apply Kd.Q_drew)); exact HO267.out) (Kd.R_base ho0) hb); have n2_ := Aside0.mk (Kd.R_lower (Kd.R_new' ho0 (Kd.Q_lt (by (with_reducible repeat (first | apply Kd.Q_alloc | apply Kd.Q_drewN | apply Kd.Q_drew)); exact HO267.out))) (below_size (by repeat (first | (with_reducible first | exact HB.out | apply below_alloc | apply pw_below_drewN | apply below_drew1) | exact HB.out)))); have n3_ := Aside0.mk (below_step (by repeat (first | (with_reducible first | exact HB.out | apply below_alloc | apply pw_below_drewN | apply below_drew1) | exact HB.out)) hb); clear HO265; clear HO267; clear HB; have HO265 := n0_; have HO267 := n1_; have HO271 := n2_; have HB := n3_; clear n0_ n1_ n2_ n3_; (try clear hb); (try clear hb2); (try clear hk); (try clear hi); (try clear ho0)) | ((with_reducible refine gate_callee (f := 6) rfl ?_); refine goesL_ (some 43) rfl rfl Try.func6 (by kernel_rfl) rfl #[.slice Ao8 t260.length co8, .slice Ao9 t261.length co9, .int .i64 t262, .int .i64 t263] rfl (by (try simp only [List.map_toArray, List.map_cons, List.map_nil]); first | done | rfl | (simp only [List.length_drop, List.length_take]; rfl)) ?_; (with_reducible refine (spec_GroupsSplit.calls _ _ t260 _ _ t261 t262 t263 t272 t273 _ ?side1 ?side2 ?side3 ?side4 A5.out).mono ?_); (case side1 => repeat (first | exact (Kd.R_reads' HO265.out).2.2 | (with_reducible refine Kd.C_alloc ?_ _) | (with_reducible refine Kd.C_drewN ?_ _) | (with_reducible refine Kd.C_drew ?_))); (case side2 => exact (Kd.R_reads' HO265.out).2.1); (case side3 => repeat (first | exact (Kd.Q_reads' HO267.out).2.2 | (with_reducible refine Kd.C_alloc ?_ _) | (with_reducible refine Kd.C_drewN ?_ _) | (with_reducible refine Kd.C_drew ?_))); (case side4 => exact (Kd.Q_reads' HO267.out).2.1); rintro e w11 ⟨v274, rfl, ho0, hb⟩; refine ⟨_, rfl, ?_⟩; have n0_ := Aside0.mk (Kd.R_below (by (with_reducible repeat (first | apply Kd.R_alloc | apply Kd.R_drewN | apply Kd.R_drew)); exact HO265.out) hb); have n1_ := Aside0.mk (Kd.Q_elder' (by (with_reducible repeat (first | apply Kd.Q_alloc | apply Kd.Q_drewN | apply Kd.Q_drew)); exact HO267.out) (Kd.R_base ho0) hb); have n2_ := Aside0.mk (Kd.R_elder' (by (with_reducible repeat (first | apply Kd.R_alloc | apply Kd.R_drewN | apply Kd.R_drew)); exact HO271.out) (Kd.R_base ho0) hb); have n3_ := Aside0.mk (Kd.R_lower (Kd.R_new' (Kd.R_new' ho0 (Kd.Q_lt (by (with_reducible repeat (first | apply Kd.Q_alloc | apply Kd.Q_drewN | apply Kd.Q_drew)); exact HO267.out))) (Kd.R_lt (by (with_reducible repeat (first | apply Kd.R_alloc | apply Kd.R_drewN | apply Kd.R_drew)); exact HO271.out))) (below_size (by repeat (first | (with_reducible first | exact HB.out | apply below_alloc | apply pw_below_drewN | apply below_drew1) | exact HB.out)))); have n4_ := Aside0.mk (below_step (by repeat (first | (with_reducible first | exact HB.out | apply below_alloc | apply pw_below_drewN | apply below_drew1) | exact HB.out)) hb); clear HO265; clear HO267; clear HO271; clear HB; have HO265 := n0_; have HO267 := n1_; have HO271 := n2_; have HO275 := n3_; have HB := n4_; clear n0_ n1_ n2_ n3_ n4_; (try clear hb); (try clear hb2); (try clear hk); (try clear hi); (try clear ho0)))
  (try simp only [Act.put, List.setIfInBounds_toArray, List.set_cons_zero, List.set_cons_succ])
  go_cut [58] (fun v58 wc => ∃ (kq : Nat) (x58_5 : Bool), v58 = .bool x58_5 ∧ Aside0 (laws_FnGroupsSplit.j0 kq t260 t261 t262 t263 t268 t269 t272 t273 x58_5 = some r) ∧ Aside0 (kq ≤ k) ∧ Aside0 (Kd.R k59 59 wc w.heap.size (fun _ => True) (.slice Ao8 t260.length co8) t260) ∧ Aside0 (Kd.Q k43 43 wc w.heap.size (fun k_ => some k_ ≠ (v270 : Value).ownBlock ∧ some k_ ≠ (v274 : Value).ownBlock) (.slice Ao9 t261.length co9) t261) ∧ Aside0 (Kd.R k43 43 wc w.heap.size (fun k_ => some k_ ≠ ((.slice Ao9 t261.length co9) : Value).ownBlock ∧ some k_ ≠ (v274 : Value).ownBlock) v270 t268) ∧ Aside0 (Kd.R k43 43 wc w.heap.size (fun k_ => some k_ ≠ ((.slice Ao9 t261.length co9) : Value).ownBlock ∧ some k_ ≠ (v270 : Value).ownBlock) v274 t272) ∧ Aside0 (Below w.heap.size w wc))
  case first =>
   have H := HC6.out; clear HC6; by_cases c12 : (t269 != t273) = true
   ·
    rw [if_pos c12] at H; have c12b0 : (t269 != t273) = true := c12; (try (have c12b1 : decide (t269 = t273) = false := by simpa using c12))
    (try (have c12b2 : (t269 == t273) = false := by simpa using c12))
    (try (have c12b3 : ¬ (t269 = t273) := by simpa using c12))
    clear c12; (first | rw [c12b0] | (simp only [i64_w, i32_w]; rw [c12b0]) | skip)
    have H' := Aside0.mk H; clear H; go_wp2; go_meet
    case rel => exact ⟨_, (true), (by first | rfl | (simp; done) | (simp [*]; done)), H', ⟨by first | omega | exact Nat.le_refl _⟩, ⟨by (with_reducible repeat (first | apply Kd.R_alloc | apply Kd.R_drewN | apply Kd.R_drew)); exact HO265.out⟩, ⟨by (with_reducible repeat (first | apply Kd.Q_alloc | apply Kd.Q_drewN | apply Kd.Q_drew)); exact Kd.Q_mono HO267.out (fun _ hk => ⟨hk.1.2, hk.2⟩)⟩, ⟨by (with_reducible repeat (first | apply Kd.R_alloc | apply Kd.R_drewN | apply Kd.R_drew)); exact Kd.R_mono HO271.out (fun _ hk => ⟨hk.1.2, hk.2⟩)⟩, ⟨by (with_reducible repeat (first | apply Kd.R_alloc | apply Kd.R_drewN | apply Kd.R_drew)); exact Kd.R_mono HO275.out (fun _ hk => ⟨hk.1.2, hk.2⟩)⟩, ⟨by repeat (first | (with_reducible first | exact HB.out | apply below_alloc | apply pw_below_drewN | apply below_drew1) | exact HB.out)⟩⟩
   ·
    rw [if_neg c12] at H; have c12b0 : (t269 != t273) = false := by simpa using c12
    (try (have c12b1 : decide (t269 = t273) = true := by simpa using c12))
    (try (have c12b2 : (t269 == t273) = true := by simpa using c12))
    clear c12; (first | rw [c12b0] | (simp only [i64_w, i32_w]; rw [c12b0]) | skip)
    replace H := Option.bind_eq_some_iff.mp H; obtain ⟨t276, A130, H⟩ := H; replace H : (if t276 = true then (laws_FnGroupsSplit.j0 k t260 t261 t262 t263 t268 t269 t272 t273 (!t269)) else (laws_FnGroupsSplit.j0 k t260 t261 t262 t263 t268 t269 t272 t273 true)) = some r := H; have A13 := Aside0.mk A130; clear A130; by_cases c14 : t276 = true
    ·
     subst c14; have H1 : (laws_FnGroupsSplit.j0 k t260 t261 t262 t263 t268 t269 t272 t273 (!t269)) = some r := by rw [if_pos rfl] at H; exact H
     clear H; have H := H1; clear H1; have H' := Aside0.mk H; clear H; obtain ⟨Ao15, co15, eo15⟩ := Kd.R_slice HO271.out; subst eo15; obtain ⟨Ao16, co16, eo16⟩ := Kd.R_slice HO275.out; subst eo16; go_wp2_with (first | (go_at_call 7; (with_reducible refine (laws_sameGroups.calls k _ _ t268 _ _ t272 true _ ?side1 ?side2 ?side3 ?side4 A13.out).mono ?_); (case side1 => repeat (first | exact (Kd.R_reads' HO271.out).2.2 | (with_reducible refine Kd.C_alloc ?_ _) | (with_reducible refine Kd.C_drewN ?_ _) | (with_reducible refine Kd.C_drew ?_))); (case side2 => exact (Kd.R_reads' HO271.out).2.1); (case side3 => repeat (first | exact (Kd.R_reads' HO275.out).2.2 | (with_reducible refine Kd.C_alloc ?_ _) | (with_reducible refine Kd.C_drewN ?_ _) | (with_reducible refine Kd.C_drew ?_))); (case side4 => exact (Kd.R_reads' HO275.out).2.1); rintro e w' ⟨rfl, ⟨nd, rfl⟩⟩))
     go_meet
     case rel => exact ⟨_, (!t269), (by first | rfl | (simp; done) | (simp [*]; done)), H', ⟨by first | omega | exact Nat.le_refl _⟩, ⟨by (with_reducible repeat (first | apply Kd.R_alloc | apply Kd.R_drewN | apply Kd.R_drew)); exact HO265.out⟩, ⟨by (with_reducible repeat (first | apply Kd.Q_alloc | apply Kd.Q_drewN | apply Kd.Q_drew)); exact Kd.Q_mono HO267.out (fun _ hk => ⟨hk.1.2, hk.2⟩)⟩, ⟨by (with_reducible repeat (first | apply Kd.R_alloc | apply Kd.R_drewN | apply Kd.R_drew)); exact Kd.R_mono HO271.out (fun _ hk => ⟨hk.1.2, hk.2⟩)⟩, ⟨by (with_reducible repeat (first | apply Kd.R_alloc | apply Kd.R_drewN | apply Kd.R_drew)); exact Kd.R_mono HO275.out (fun _ hk => ⟨hk.1.2, hk.2⟩)⟩, ⟨by repeat (first | (with_reducible first | exact HB.out | apply below_alloc | apply pw_below_drewN | apply below_drew1) | exact HB.out)⟩⟩
    ·
     replace c14 := Bool.eq_false_iff.mpr c14; subst c14; have H1 : (laws_FnGroupsSplit.j0 k t260 t261 t262 t263 t268 t269 t272 t273 true) = some r := by rw [if_neg (show ¬ (false = true) by decide)] at H; exact H
     clear H; have H := H1; clear H1; have H' := Aside0.mk H; clear H; obtain ⟨Ao17, co17, eo17⟩ := Kd.R_slice HO271.out; subst eo17; obtain ⟨Ao18, co18, eo18⟩ := Kd.R_slice HO275.out; subst eo18; go_wp2_with (first | (go_at_call 7; (with_reducible refine (laws_sameGroups.calls k _ _ t268 _ _ t272 false _ ?side1 ?side2 ?side3 ?side4 A13.out).mono ?_); (case side1 => repeat (first | exact (Kd.R_reads' HO271.out).2.2 | (with_reducible refine Kd.C_alloc ?_ _) | (with_reducible refine Kd.C_drewN ?_ _) | (with_reducible refine Kd.C_drew ?_))); (case side2 => exact (Kd.R_reads' HO271.out).2.1); (case side3 => repeat (first | exact (Kd.R_reads' HO275.out).2.2 | (with_reducible refine Kd.C_alloc ?_ _) | (with_reducible refine Kd.C_drewN ?_ _) | (with_reducible refine Kd.C_drew ?_))); (case side4 => exact (Kd.R_reads' HO275.out).2.1); rintro e w' ⟨rfl, ⟨nd, rfl⟩⟩))
     go_meet
     case rel => exact ⟨_, (true), (by first | rfl | (simp; done) | (simp [*]; done)), H', ⟨by first | omega | exact Nat.le_refl _⟩, ⟨by (with_reducible repeat (first | apply Kd.R_alloc | apply Kd.R_drewN | apply Kd.R_drew)); exact HO265.out⟩, ⟨by (with_reducible repeat (first | apply Kd.Q_alloc | apply Kd.Q_drewN | apply Kd.Q_drew)); exact Kd.Q_mono HO267.out (fun _ hk => ⟨hk.1.2, hk.2⟩)⟩, ⟨by (with_reducible repeat (first | apply Kd.R_alloc | apply Kd.R_drewN | apply Kd.R_drew)); exact Kd.R_mono HO271.out (fun _ hk => ⟨hk.1.2, hk.2⟩)⟩, ⟨by (with_reducible repeat (first | apply Kd.R_alloc | apply Kd.R_drewN | apply Kd.R_drew)); exact Kd.R_mono HO275.out (fun _ hk => ⟨hk.1.2, hk.2⟩)⟩, ⟨by repeat (first | (with_reducible first | exact HB.out | apply below_alloc | apply pw_below_drewN | apply below_drew1) | exact HB.out)⟩⟩
  case rest =>
   clear HC6; try clear c1
   try clear c2
   try clear c2b0
   try clear c2b1
   try clear p2
   try clear c3
   try clear c4
   try clear c5
   try clear c6
   try clear c12
   try clear c12b0
   try clear c12b1
   try clear c12b2
   try clear c14
   obtain ⟨kq, x58_5, rfl, HA, HJ5, HO_3, HO_4, HO_7, HO_9, HB⟩ := hcut; cases kq with
   | zero => exact absurd HA.out (by simp [laws_FnGroupsSplit.j0])
   | succ kj5 =>
    have H := HA.out; clear HA; simp only [laws_FnGroupsSplit.j0] at H; by_cases c19 : x58_5 = true
    ·
     subst c19; have H1 : (if (t269 == t273) = true then ((laws_sameGroups.f kj5 t268 t272).bind fun t277 => (some t277)) else (some false)) = some r := by rw [if_pos rfl] at H; exact H
     clear H; have H := H1; clear H1; by_cases c20 : (t269 == t273) = true
     ·
      rw [if_pos c20] at H; have c20b0 : (t269 == t273) = true := c20; (try (have c20b1 : decide (t269 = t273) = true := by simpa using c20))
      (try (have c20b2 : (t269 == t273) = true := by simpa using c20))
      clear c20; replace H := Option.bind_eq_some_iff.mp H; obtain ⟨t277, A210, H⟩ := H; replace H : (some t277) = some r := H; have A21 := Aside0.mk A210; clear A210; obtain rfl := Option.some.inj H; obtain ⟨Ao22, co22, eo22⟩ := Kd.R_slice HO_7.out; subst eo22; obtain ⟨Ao23, co23, eo23⟩ := Kd.R_slice HO_9.out; subst eo23; go_wp2_with (first | (go_at_call 7; (with_reducible refine (laws_sameGroups.calls kj5 _ _ t268 _ _ t272 t277 _ ?side1 ?side2 ?side3 ?side4 A21.out).mono ?_); (case side1 => repeat (first | exact (Kd.R_reads' HO_7.out).2.2 | (with_reducible refine Kd.C_alloc ?_ _) | (with_reducible refine Kd.C_drewN ?_ _) | (with_reducible refine Kd.C_drew ?_))); (case side2 => exact (Kd.R_reads' HO_7.out).2.1); (case side3 => repeat (first | exact (Kd.R_reads' HO_9.out).2.2 | (with_reducible refine Kd.C_alloc ?_ _) | (with_reducible refine Kd.C_drewN ?_ _) | (with_reducible refine Kd.C_drew ?_))); (case side4 => exact (Kd.R_reads' HO_9.out).2.1); rintro e w' ⟨rfl, ⟨nd, rfl⟩⟩))
      go_ret
      exact ⟨by first | rfl | (simp [errW_none, errW_some] <;> rfl) | (simp [*, errW_none, errW_some] <;> rfl), by repeat (first | (with_reducible first | exact HB.out | apply below_alloc | apply pw_below_drewN | apply below_drew1) | exact HB.out)⟩
     ·
      rw [if_neg c20] at H; exact absurd (H.trans (congrArg some HRR.out)) (by simp)
    ·
     replace c19 := Bool.eq_false_iff.mpr c19; subst c19; have H1 : ((impl_GroupsJoin.f t260 t268 t262).bind fun bt278 => ((impl_GroupsCut.f t260 t268 t262).bind fun bt282 => ((impl_GroupsCut.f t260 t268 (wrap64 (t262 + 1))).bind fun bt286 => ((impl_GroupsCut.f t260 t261 t262).bind fun bt290 => ((impl_ContourOf.f bt290.1).bind fun t294 => (if bt278.2 = true then (if bt282.2 = true then (if bt286.2 = true then (if bt290.2 = true then ((laws_sameGroups.f kj5 bt278.1 t261).bind fun t295 => (if t295 = true then (if (t268.length : Int) = (wrap64 ((t261.length : Int) + 1)) then (if 0 ≤ (wrap64 (t263 - 1)) then (if (wrap64 (t263 - 1)) ≤ (t294.size : Int) then ((impl_ContourOf.f bt282.1).bind fun t296 => (if (t294.extract 0 ((wrap64 (t263 - 1)) : Int).toNat).toList = t296.toList then (if 0 ≤ t263 then (if t263 ≤ (t294.size : Int) then ((impl_ContourOf.f bt286.1).bind fun t297 => (some ((t294.extract (t263 : Int).toNat t294.size).toList == t297.toList))) else (none)) else (none)) else (some false))) else (none)) else (none)) else (some false)) else (some false))) else (some false)) else (some false)) else (some false)) else (some false))))))) = some r := by rw [if_neg (show ¬ (false = true) by decide)] at H; exact H
     clear H; have H := H1; clear H1; replace H := Option.bind_eq_some_iff.mp H; obtain ⟨⟨t278, t279⟩, A240, H⟩ := H; replace H : ((impl_GroupsCut.f t260 t268 t262).bind fun bt282 => ((impl_GroupsCut.f t260 t268 (wrap64 (t262 + 1))).bind fun bt286 => ((impl_GroupsCut.f t260 t261 t262).bind fun bt290 => ((impl_ContourOf.f bt290.1).bind fun t294 => (if t279 = true then (if bt282.2 = true then (if bt286.2 = true then (if bt290.2 = true then ((laws_sameGroups.f kj5 t278 t261).bind fun t295 => (if t295 = true then (if (t268.length : Int) = (wrap64 ((t261.length : Int) + 1)) then (if 0 ≤ (wrap64 (t263 - 1)) then (if (wrap64 (t263 - 1)) ≤ (t294.size : Int) then ((impl_ContourOf.f bt282.1).bind fun t296 => (if (t294.extract 0 ((wrap64 (t263 - 1)) : Int).toNat).toList = t296.toList then (if 0 ≤ t263 then (if t263 ≤ (t294.size : Int) then ((impl_ContourOf.f bt286.1).bind fun t297 => (some ((t294.extract (t263 : Int).toNat t294.size).toList == t297.toList))) else (none)) else (none)) else (some false))) else (none)) else (none)) else (some false)) else (some false))) else (some false)) else (some false)) else (some false)) else (some false)))))) = some r := H; have A24 := Aside0.mk A240; clear A240; replace H := Option.bind_eq_some_iff.mp H; obtain ⟨⟨t282, t283⟩, A250, H⟩ := H; replace H : ((impl_GroupsCut.f t260 t268 (wrap64 (t262 + 1))).bind fun bt286 => ((impl_GroupsCut.f t260 t261 t262).bind fun bt290 => ((impl_ContourOf.f bt290.1).bind fun t294 => (if t279 = true then (if t283 = true then (if bt286.2 = true then (if bt290.2 = true then ((laws_sameGroups.f kj5 t278 t261).bind fun t295 => (if t295 = true then (if (t268.length : Int) = (wrap64 ((t261.length : Int) + 1)) then (if 0 ≤ (wrap64 (t263 - 1)) then (if (wrap64 (t263 - 1)) ≤ (t294.size : Int) then ((impl_ContourOf.f t282).bind fun t296 => (if (t294.extract 0 ((wrap64 (t263 - 1)) : Int).toNat).toList = t296.toList then (if 0 ≤ t263 then (if t263 ≤ (t294.size : Int) then ((impl_ContourOf.f bt286.1).bind fun t297 => (some ((t294.extract (t263 : Int).toNat t294.size).toList == t297.toList))) else (none)) else (none)) else (some false))) else (none)) else (none)) else (some false)) else (some false))) else (some false)) else (some false)) else (some false)) else (some false))))) = some r := H; have A25 := Aside0.mk A250; clear A250; replace H := Option.bind_eq_some_iff.mp H; obtain ⟨⟨t286, t287⟩, A260, H⟩ := H; replace H : ((impl_GroupsCut.f t260 t261 t262).bind fun bt290 => ((impl_ContourOf.f bt290.1).bind fun t294 => (if t279 = true then (if t283 = true then (if t287 = true then (if bt290.2 = true then ((laws_sameGroups.f kj5 t278 t261).bind fun t295 => (if t295 = true then (if (t268.length : Int) = (wrap64 ((t261.length : Int) + 1)) then (if 0 ≤ (wrap64 (t263 - 1)) then (if (wrap64 (t263 - 1)) ≤ (t294.size : Int) then ((impl_ContourOf.f t282).bind fun t296 => (if (t294.extract 0 ((wrap64 (t263 - 1)) : Int).toNat).toList = t296.toList then (if 0 ≤ t263 then (if t263 ≤ (t294.size : Int) then ((impl_ContourOf.f t286).bind fun t297 => (some ((t294.extract (t263 : Int).toNat t294.size).toList == t297.toList))) else (none)) else (none)) else (some false))) else (none)) else (none)) else (some false)) else (some false))) else (some false)) else (some false)) else (some false)) else (some false)))) = some r := H; have A26 := Aside0.mk A260; clear A260; replace H := Option.bind_eq_some_iff.mp H; obtain ⟨⟨t290, t291⟩, A270, H⟩ := H; replace H : ((impl_ContourOf.f t290).bind fun t294 => (if t279 = true then (if t283 = true then (if t287 = true then (if t291 = true then ((laws_sameGroups.f kj5 t278 t261).bind fun t295 => (if t295 = true then (if (t268.length : Int) = (wrap64 ((t261.length : Int) + 1)) then (if 0 ≤ (wrap64 (t263 - 1)) then (if (wrap64 (t263 - 1)) ≤ (t294.size : Int) then ((impl_ContourOf.f t282).bind fun t296 => (if (t294.extract 0 ((wrap64 (t263 - 1)) : Int).toNat).toList = t296.toList then (if 0 ≤ t263 then (if t263 ≤ (t294.size : Int) then ((impl_ContourOf.f t286).bind fun t297 => (some ((t294.extract (t263 : Int).toNat t294.size).toList == t297.toList))) else (none)) else (none)) else (some false))) else (none)) else (none)) else (some false)) else (some false))) else (some false)) else (some false)) else (some false)) else (some false))) = some r := H; have A27 := Aside0.mk A270; clear A270; replace H := Option.bind_eq_some_iff.mp H; obtain ⟨t294, A280, H⟩ := H; replace H : (if t279 = true then (if t283 = true then (if t287 = true then (if t291 = true then ((laws_sameGroups.f kj5 t278 t261).bind fun t295 => (if t295 = true then (if (t268.length : Int) = (wrap64 ((t261.length : Int) + 1)) then (if 0 ≤ (wrap64 (t263 - 1)) then (if (wrap64 (t263 - 1)) ≤ (t294.size : Int) then ((impl_ContourOf.f t282).bind fun t296 => (if (t294.extract 0 ((wrap64 (t263 - 1)) : Int).toNat).toList = t296.toList then (if 0 ≤ t263 then (if t263 ≤ (t294.size : Int) then ((impl_ContourOf.f t286).bind fun t297 => (some ((t294.extract (t263 : Int).toNat t294.size).toList == t297.toList))) else (none)) else (none)) else (some false))) else (none)) else (none)) else (some false)) else (some false))) else (some false)) else (some false)) else (some false)) else (some false)) = some r := H; have A28 := Aside0.mk A280; clear A280; by_cases c29 : t279 = true
     ·
      subst c29; have H1 : (if t283 = true then (if t287 = true then (if t291 = true then ((laws_sameGroups.f kj5 t278 t261).bind fun t295 => (if t295 = true then (if (t268.length : Int) = (wrap64 ((t261.length : Int) + 1)) then (if 0 ≤ (wrap64 (t263 - 1)) then (if (wrap64 (t263 - 1)) ≤ (t294.size : Int) then ((impl_ContourOf.f t282).bind fun t296 => (if (t294.extract 0 ((wrap64 (t263 - 1)) : Int).toNat).toList = t296.toList then (if 0 ≤ t263 then (if t263 ≤ (t294.size : Int) then ((impl_ContourOf.f t286).bind fun t297 => (some ((t294.extract (t263 : Int).toNat t294.size).toList == t297.toList))) else (none)) else (none)) else (some false))) else (none)) else (none)) else (some false)) else (some false))) else (some false)) else (some false)) else (some false)) = some r := by rw [if_pos rfl] at H; exact H
      clear H; have H := H1; clear H1; by_cases c30 : t283 = true
      ·
       subst c30; have H1 : (if t287 = true then (if t291 = true then ((laws_sameGroups.f kj5 t278 t261).bind fun t295 => (if t295 = true then (if (t268.length : Int) = (wrap64 ((t261.length : Int) + 1)) then (if 0 ≤ (wrap64 (t263 - 1)) then (if (wrap64 (t263 - 1)) ≤ (t294.size : Int) then ((impl_ContourOf.f t282).bind fun t296 => (if (t294.extract 0 ((wrap64 (t263 - 1)) : Int).toNat).toList = t296.toList then (if 0 ≤ t263 then (if t263 ≤ (t294.size : Int) then ((impl_ContourOf.f t286).bind fun t297 => (some ((t294.extract (t263 : Int).toNat t294.size).toList == t297.toList))) else (none)) else (none)) else (some false))) else (none)) else (none)) else (some false)) else (some false))) else (some false)) else (some false)) = some r := by rw [if_pos rfl] at H; exact H
       clear H; have H := H1; clear H1; by_cases c31 : t287 = true
       ·
        subst c31; have H1 : (if t291 = true then ((laws_sameGroups.f kj5 t278 t261).bind fun t295 => (if t295 = true then (if (t268.length : Int) = (wrap64 ((t261.length : Int) + 1)) then (if 0 ≤ (wrap64 (t263 - 1)) then (if (wrap64 (t263 - 1)) ≤ (t294.size : Int) then ((impl_ContourOf.f t282).bind fun t296 => (if (t294.extract 0 ((wrap64 (t263 - 1)) : Int).toNat).toList = t296.toList then (if 0 ≤ t263 then (if t263 ≤ (t294.size : Int) then ((impl_ContourOf.f t286).bind fun t297 => (some ((t294.extract (t263 : Int).toNat t294.size).toList == t297.toList))) else (none)) else (none)) else (some false))) else (none)) else (none)) else (some false)) else (some false))) else (some false)) = some r := by rw [if_pos rfl] at H; exact H
        clear H; have H := H1; clear H1; by_cases c32 : t291 = true
        ·
         subst c32; have H1 : ((laws_sameGroups.f kj5 t278 t261).bind fun t295 => (if t295 = true then (if (t268.length : Int) = (wrap64 ((t261.length : Int) + 1)) then (if 0 ≤ (wrap64 (t263 - 1)) then (if (wrap64 (t263 - 1)) ≤ (t294.size : Int) then ((impl_ContourOf.f t282).bind fun t296 => (if (t294.extract 0 ((wrap64 (t263 - 1)) : Int).toNat).toList = t296.toList then (if 0 ≤ t263 then (if t263 ≤ (t294.size : Int) then ((impl_ContourOf.f t286).bind fun t297 => (some ((t294.extract (t263 : Int).toNat t294.size).toList == t297.toList))) else (none)) else (none)) else (some false))) else (none)) else (none)) else (some false)) else (some false))) = some r := by rw [if_pos rfl] at H; exact H
         clear H; have H := H1; clear H1; replace H := Option.bind_eq_some_iff.mp H; obtain ⟨t295, A330, H⟩ := H; replace H : (if t295 = true then (if (t268.length : Int) = (wrap64 ((t261.length : Int) + 1)) then (if 0 ≤ (wrap64 (t263 - 1)) then (if (wrap64 (t263 - 1)) ≤ (t294.size : Int) then ((impl_ContourOf.f t282).bind fun t296 => (if (t294.extract 0 ((wrap64 (t263 - 1)) : Int).toNat).toList = t296.toList then (if 0 ≤ t263 then (if t263 ≤ (t294.size : Int) then ((impl_ContourOf.f t286).bind fun t297 => (some ((t294.extract (t263 : Int).toNat t294.size).toList == t297.toList))) else (none)) else (none)) else (some false))) else (none)) else (none)) else (some false)) else (some false)) = some r := H; have A33 := Aside0.mk A330; clear A330; by_cases c34 : t295 = true
         ·
          subst c34; have H1 : (if (t268.length : Int) = (wrap64 ((t261.length : Int) + 1)) then (if 0 ≤ (wrap64 (t263 - 1)) then (if (wrap64 (t263 - 1)) ≤ (t294.size : Int) then ((impl_ContourOf.f t282).bind fun t296 => (if (t294.extract 0 ((wrap64 (t263 - 1)) : Int).toNat).toList = t296.toList then (if 0 ≤ t263 then (if t263 ≤ (t294.size : Int) then ((impl_ContourOf.f t286).bind fun t297 => (some ((t294.extract (t263 : Int).toNat t294.size).toList == t297.toList))) else (none)) else (none)) else (some false))) else (none)) else (none)) else (some false)) = some r := by rw [if_pos rfl] at H; exact H
          clear H; have H := H1; clear H1; by_cases c35 : (t268.length : Int) = (wrap64 ((t261.length : Int) + 1))
          ·
           rw [if_pos c35] at H; have c35b0 : ((t268.length : Int) == (wrap64 ((t261.length : Int) + 1))) = true := beq_iff_eq.mpr c35; have c35b1 : ((t268.length : Int) != (wrap64 ((t261.length : Int) + 1))) = false := bne_eq_false_iff_eq.mpr c35; clear c35; obtain ⟨ji36, hji36⟩ : ∃ j_ : Int, (wrap64 (t263 - 1)) = j_ := ⟨_, rfl⟩
           replace H : (if 0 ≤ (ji36) then (if (ji36) ≤ (t294.size : Int) then ((impl_ContourOf.f t282).bind fun t296 => (if (t294.extract 0 ((ji36) : Int).toNat).toList = t296.toList then (if 0 ≤ t263 then (if t263 ≤ (t294.size : Int) then ((impl_ContourOf.f t286).bind fun t297 => (some ((t294.extract (t263 : Int).toNat t294.size).toList == t297.toList))) else (none)) else (none)) else (some false))) else (none)) else (none)) = some r := by first | (rw [hji36] at H; exact H) | (simp only [hji36] at H ⊢; exact H)
           (try rw [hji36] at A24)
           (try rw [hji36] at A25)
           (try rw [hji36] at A26)
           (try rw [hji36] at A27)
           (try rw [hji36] at A28)
           (try rw [hji36] at A33)
           have hji36w : (IntKind.i64.wrap (t263 - 1)) = ji36 := (i64_w _).trans hji36; by_cases c37 : 0 ≤ (ji36)
           ·
            rw [if_pos c37] at H; have c37b0 := eq_true c37; have c37b1 : decide (0 ≤ (ji36)) = true := decide_eq_true c37; clear c37; by_cases c38 : (ji36) ≤ (t294.size : Int)
            ·
             rw [if_pos c38] at H; have c38b0 := eq_true c38; have c38b1 : decide ((ji36) ≤ (t294.size : Int)) = true := decide_eq_true c38; clear c38; replace H := Option.bind_eq_some_iff.mp H; obtain ⟨t296, A390, H⟩ := H; replace H : (if (t294.extract 0 ((ji36) : Int).toNat).toList = t296.toList then (if 0 ≤ t263 then (if t263 ≤ (t294.size : Int) then ((impl_ContourOf.f t286).bind fun t297 => (some ((t294.extract (t263 : Int).toNat t294.size).toList == t297.toList))) else (none)) else (none)) else (some false)) = some r := H; have A39 := Aside0.mk A390; clear A390; by_cases c40 : (t294.extract 0 ((ji36) : Int).toNat).toList = t296.toList
             ·
              rw [if_pos c40] at H; have c40b0 : ((t294.extract 0 ((ji36) : Int).toNat).toList == t296.toList) = true := beq_iff_eq.mpr c40; have c40b1 : ((t294.extract 0 ((ji36) : Int).toNat).toList != t296.toList) = false := bne_eq_false_iff_eq.mpr c40; clear c40; by_cases c41 : 0 ≤ t263
              ·
               rw [if_pos c41] at H; have c41b0 := eq_true c41; have c41b1 : decide (0 ≤ t263) = true := decide_eq_true c41; clear c41; by_cases c42 : t263 ≤ (t294.size : Int)
               ·
                rw [if_pos c42] at H; have c42b0 := eq_true c42; have c42b1 : decide (t263 ≤ (t294.size : Int)) = true := decide_eq_true c42; clear c42; replace H := Option.bind_eq_some_iff.mp H; obtain ⟨t297, A430, H⟩ := H; replace H : (some ((t294.extract (t263 : Int).toNat t294.size).toList == t297.toList)) = some r := H; have A43 := Aside0.mk A430; clear A430; obtain rfl := Option.some.inj H; obtain ⟨Ao44, co44, eo44⟩ := Kd.R_slice HO_7.out; subst eo44; try go_wp2_with (first | ((with_reducible refine gate_callee (f := 8) rfl ?_); refine goesL_ (some 71) rfl rfl Try.func8 (by kernel_rfl) rfl #[.slice Ao8 t260.length co8, .slice Ao44 t268.length co44, .int .i64 t262] rfl (by (try simp only [List.map_toArray, List.map_cons, List.map_nil]); first | done | rfl | (simp only [List.length_drop, List.length_take]; rfl)) ?_; (with_reducible refine (impl_GroupsJoin.calls _ _ t260 _ _ t268 t262 t278 true _ ?side1 ?side2 ?side3 ?side4 A24.out).mono ?_); (case side1 => repeat (first | exact (Kd.R_reads' HO_3.out).2.2 | (with_reducible refine Kd.C_alloc ?_ _) | (with_reducible refine Kd.C_drewN ?_ _) | (with_reducible refine Kd.C_drew ?_))); (case side2 => exact (Kd.R_reads' HO_3.out).2.1); (case side3 => repeat (first | exact (Kd.R_reads' HO_7.out).2.2 | (with_reducible refine Kd.C_alloc ?_ _) | (with_reducible refine Kd.C_drewN ?_ _) | (with_reducible refine Kd.C_drew ?_))); (case side4 => exact (Kd.R_reads' HO_7.out).2.1); rintro e w45 ⟨v280, rfl, ho0, hb⟩; refine ⟨_, rfl, ?_⟩; have n0_ := Aside0.mk (Kd.R_below (by (with_reducible repeat (first | apply Kd.R_alloc | apply Kd.R_drewN | apply Kd.R_drew)); exact HO_3.out) hb); have n1_ := Aside0.mk (Kd.Q_elder' (by (with_reducible repeat (first | apply Kd.Q_alloc | apply Kd.Q_drewN | apply Kd.Q_drew)); exact HO_4.out) (Kd.R_base ho0) hb); have n2_ := Aside0.mk (Kd.R_elder' (by (with_reducible repeat (first | apply Kd.R_alloc | apply Kd.R_drewN | apply Kd.R_drew)); exact HO_7.out) (Kd.R_base ho0) hb); have n3_ := Aside0.mk (Kd.R_elder' (by (with_reducible repeat (first | apply Kd.R_alloc | apply Kd.R_drewN | apply Kd.R_drew)); exact HO_9.out) (Kd.R_base ho0) hb); have n4_ := Aside0.mk (Kd.R_lower (Kd.R_new' (Kd.R_new' (Kd.R_new' ho0 (Kd.Q_lt (by (with_reducible repeat (first | apply Kd.Q_alloc | apply Kd.Q_drewN | apply Kd.Q_drew)); exact HO_4.out))) (Kd.R_lt (by (with_reducible repeat (first | apply Kd.R_alloc | apply Kd.R_drewN | apply Kd.R_drew)); exact HO_7.out))) (Kd.R_lt (by (with_reducible repeat (first | apply Kd.R_alloc | apply Kd.R_drewN | apply Kd.R_drew)); exact HO_9.out))) (below_size (by repeat (first | (with_reducible first | exact HB.out | apply below_alloc | apply pw_below_drewN | apply below_drew1) | exact HB.out)))); have n5_ := Aside0.mk (below_step (by repeat (first | (with_reducible first | exact HB.out | apply below_alloc | apply pw_below_drewN | apply below_drew1) | exact HB.out)) hb); clear HO_3; clear HO_4; clear HO_7; clear HO_9; clear HB; have HO_3 := n0_; have HO_4 := n1_; have HO_7 := n2_; have HO_9 := n3_; have HO281 := n4_; have HB := n5_; clear n0_ n1_ n2_ n3_ n4_ n5_; (try clear hb); (try clear hb2); (try clear hk); (try clear hi); (try clear ho0)) | ((with_reducible refine gate_callee (f := 9) rfl ?_); refine goesL_ (some 78) rfl rfl Try.func9 (by kernel_rfl) rfl #[.slice Ao8 t260.length co8, .slice Ao44 t268.length co44, .int .i64 t262] rfl (by (try simp only [List.map_toArray, List.map_cons, List.map_nil]); first | done | rfl | (simp only [List.length_drop, List.length_take]; rfl)) ?_; (with_reducible refine (impl_GroupsCut.calls _ _ t260 _ _ t268 t262 t282 true _ ?side1 ?side2 ?side3 ?side4 A25.out).mono ?_); (case side1 => repeat (first | exact (Kd.R_reads' HO_3.out).2.2 | (with_reducible refine Kd.C_alloc ?_ _) | (with_reducible refine Kd.C_drewN ?_ _) | (with_reducible refine Kd.C_drew ?_))); (case side2 => exact (Kd.R_reads' HO_3.out).2.1); (case side3 => repeat (first | exact (Kd.R_reads' HO_7.out).2.2 | (with_reducible refine Kd.C_alloc ?_ _) | (with_reducible refine Kd.C_drewN ?_ _) | (with_reducible refine Kd.C_drew ?_))); (case side4 => exact (Kd.R_reads' HO_7.out).2.1); rintro e w46 ⟨v284, rfl, ho0, hb⟩; refine ⟨_, rfl, ?_⟩; have n0_ := Aside0.mk (Kd.R_elder' (by (with_reducible repeat (first | apply Kd.R_alloc | apply Kd.R_drewN | apply Kd.R_drew)); exact HO_3.out) (Kd.R_base ho0) hb); have n1_ := Aside0.mk (Kd.Q_below (by (with_reducible repeat (first | apply Kd.Q_alloc | apply Kd.Q_drewN | apply Kd.Q_drew)); exact HO_4.out) hb); have n2_ := Aside0.mk (Kd.R_below (by (with_reducible repeat (first | apply Kd.R_alloc | apply Kd.R_drewN | apply Kd.R_drew)); exact HO_7.out) hb); have n3_ := Aside0.mk (Kd.R_below (by (with_reducible repeat (first | apply Kd.R_alloc | apply Kd.R_drewN | apply Kd.R_drew)); exact HO_9.out) hb); have n4_ := Aside0.mk (Kd.R_below (by (with_reducible repeat (first | apply Kd.R_alloc | apply Kd.R_drewN | apply Kd.R_drew)); exact HO281.out) hb); have n5_ := Aside0.mk (Kd.R_lower (Kd.R_new' ho0 (Kd.R_lt (by (with_reducible repeat (first | apply Kd.R_alloc | apply Kd.R_drewN | apply Kd.R_drew)); exact HO_3.out))) (below_size (by repeat (first | (with_reducible first | exact HB.out | apply below_alloc | apply pw_below_drewN | apply below_drew1) | exact HB.out)))); have n6_ := Aside0.mk (below_step (by repeat (first | (with_reducible first | exact HB.out | apply below_alloc | apply pw_below_drewN | apply below_drew1) | exact HB.out)) hb); clear HO_3; clear HO_4; clear HO_7; clear HO_9; clear HO281; clear HB; have HO_3 := n0_; have HO_4 := n1_; have HO_7 := n2_; have HO_9 := n3_; have HO281 := n4_; have HO285 := n5_; have HB := n6_; clear n0_ n1_ n2_ n3_ n4_ n5_ n6_; (try clear hb); (try clear hb2); (try clear hk); (try clear hi); (try clear ho0)) | ((with_reducible refine gate_callee (f := 9) rfl ?_); refine goesL_ (some 86) rfl rfl Try.func9 (by kernel_rfl) rfl #[.slice Ao8 t260.length co8, .slice Ao44 t268.length co44, .int .i64 (wrap64 (t262 + 1))] rfl (by (try simp only [List.map_toArray, List.map_cons, List.map_nil]); first | done | rfl | (simp only [List.length_drop, List.length_take]; rfl)) ?_; (with_reducible refine (impl_GroupsCut.calls _ _ t260 _ _ t268 (wrap64 (t262 + 1)) t286 true _ ?side1 ?side2 ?side3 ?side4 A26.out).mono ?_); (case side1 => repeat (first | exact (Kd.R_reads' HO_3.out).2.2 | (with_reducible refine Kd.C_alloc ?_ _) | (with_reducible refine Kd.C_drewN ?_ _) | (with_reducible refine Kd.C_drew ?_))); (case side2 => exact (Kd.R_reads' HO_3.out).2.1); (case side3 => repeat (first | exact (Kd.R_reads' HO_7.out).2.2 | (with_reducible refine Kd.C_alloc ?_ _) | (with_reducible refine Kd.C_drewN ?_ _) | (with_reducible refine Kd.C_drew ?_))); (case side4 => exact (Kd.R_reads' HO_7.out).2.1); rintro e w47 ⟨v288, rfl, ho0, hb⟩; refine ⟨_, rfl, ?_⟩; have n0_ := Aside0.mk (Kd.R_elder' (by (with_reducible repeat (first | apply Kd.R_alloc | apply Kd.R_drewN | apply Kd.R_drew)); exact HO_3.out) (Kd.R_base ho0) hb); have n1_ := Aside0.mk (Kd.Q_below (by (with_reducible repeat (first | apply Kd.Q_alloc | apply Kd.Q_drewN | apply Kd.Q_drew)); exact HO_4.out) hb); have n2_ := Aside0.mk (Kd.R_below (by (with_reducible repeat (first | apply Kd.R_alloc | apply Kd.R_drewN | apply Kd.R_drew)); exact HO_7.out) hb); have n3_ := Aside0.mk (Kd.R_below (by (with_reducible repeat (first | apply Kd.R_alloc | apply Kd.R_drewN | apply Kd.R_drew)); exact HO_9.out) hb); have n4_ := Aside0.mk (Kd.R_below (by (with_reducible repeat (first | apply Kd.R_alloc | apply Kd.R_drewN | apply Kd.R_drew)); exact HO281.out) hb); have n5_ := Aside0.mk (Kd.R_elder' (by (with_reducible repeat (first | apply Kd.R_alloc | apply Kd.R_drewN | apply Kd.R_drew)); exact HO285.out) (Kd.R_base ho0) hb); have n6_ := Aside0.mk (Kd.R_lower (Kd.R_new' (Kd.R_new' ho0 (Kd.R_lt (by (with_reducible repeat (first | apply Kd.R_alloc | apply Kd.R_drewN | apply Kd.R_drew)); exact HO_3.out))) (Kd.R_lt (by (with_reducible repeat (first | apply Kd.R_alloc | apply Kd.R_drewN | apply Kd.R_drew)); exact HO285.out))) (below_size (by repeat (first | (with_reducible first | exact HB.out | apply below_alloc | apply pw_below_drewN | apply below_drew1) | exact HB.out)))); have n7_ := Aside0.mk (below_step (by repeat (first | (with_reducible first | exact HB.out | apply below_alloc | apply pw_below_drewN | apply below_drew1) | exact HB.out)) hb); clear HO_3; clear HO_4; clear HO_7; clear HO_9; clear HO281; clear HO285; clear HB; have HO_3 := n0_; have HO_4 := n1_; have HO_7 := n2_; have HO_9 := n3_; have HO281 := n4_; have HO285 := n5_; have HO289 := n6_; have HB := n7_; clear n0_ n1_ n2_ n3_ n4_ n5_ n6_ n7_; (try clear hb); (try clear hb2); (try clear hk); (try clear hi); (try clear ho0)) | ((with_reducible refine gate_callee (f := 9) rfl ?_); refine goesL_ (some 93) rfl rfl Try.func9 (by kernel_rfl) rfl #[.slice Ao8 t260.length co8, .slice Ao9 t261.length co9, .int .i64 t262] rfl (by (try simp only [List.map_toArray, List.map_cons, List.map_nil]); first | done | rfl | (simp only [List.length_drop, List.length_take]; rfl)) ?_; (with_reducible refine (impl_GroupsCut.calls _ _ t260 _ _ t261 t262 t290 true _ ?side1 ?side2 ?side3 ?side4 A27.out).mono ?_); (case side1 => repeat (first | exact (Kd.R_reads' HO_3.out).2.2 | (with_reducible refine Kd.C_alloc ?_ _) | (with_reducible refine Kd.C_drewN ?_ _) | (with_reducible refine Kd.C_drew ?_))); (case side2 => exact (Kd.R_reads' HO_3.out).2.1); (case side3 => repeat (first | exact (Kd.Q_reads' HO_4.out).2.2 | (with_reducible refine Kd.C_alloc ?_ _) | (with_reducible refine Kd.C_drewN ?_ _) | (with_reducible refine Kd.C_drew ?_))); (case side4 => exact (Kd.Q_reads' HO_4.out).2.1); rintro e w48 ⟨v292, rfl, ho0, hb⟩; refine ⟨_, rfl, ?_⟩; have n0_ := Aside0.mk (Kd.R_elder' (by (with_reducible repeat (first | apply Kd.R_alloc | apply Kd.R_drewN | apply Kd.R_drew)); exact HO_3.out) (Kd.R_base ho0) hb); have n1_ := Aside0.mk (Kd.Q_below (by (with_reducible repeat (first | apply Kd.Q_alloc | apply Kd.Q_drewN | apply Kd.Q_drew)); exact HO_4.out) hb); have n2_ := Aside0.mk (Kd.R_below (by (with_reducible repeat (first | apply Kd.R_alloc | apply Kd.R_drewN | apply Kd.R_drew)); exact HO_7.out) hb); have n3_ := Aside0.mk (Kd.R_below (by (with_reducible repeat (first | apply Kd.R_alloc | apply Kd.R_drewN | apply Kd.R_drew)); exact HO_9.out) hb); have n4_ := Aside0.mk (Kd.R_below (by (with_reducible repeat (first | apply Kd.R_alloc | apply Kd.R_drewN | apply Kd.R_drew)); exact HO281.out) hb); have n5_ := Aside0.mk (Kd.R_elder' (by (with_reducible repeat (first | apply Kd.R_alloc | apply Kd.R_drewN | apply Kd.R_drew)); exact HO285.out) (Kd.R_base ho0) hb); have n6_ := Aside0.mk (Kd.R_elder' (by (with_reducible repeat (first | apply Kd.R_alloc | apply Kd.R_drewN | apply Kd.R_drew)); exact HO289.out) (Kd.R_base ho0) hb); have n7_ := Aside0.mk (Kd.R_lower (Kd.R_new' (Kd.R_new' (Kd.R_new' ho0 (Kd.R_lt (by (with_reducible repeat (first | apply Kd.R_alloc | apply Kd.R_drewN | apply Kd.R_drew)); exact HO_3.out))) (Kd.R_lt (by (with_reducible repeat (first | apply Kd.R_alloc | apply Kd.R_drewN | apply Kd.R_drew)); exact HO285.out))) (Kd.R_lt (by (with_reducible repeat (first | apply Kd.R_alloc | apply Kd.R_drewN | apply Kd.R_drew)); exact HO289.out))) (below_size (by repeat (first | (with_reducible first | exact HB.out | apply below_alloc | apply pw_below_drewN | apply below_drew1) | exact HB.out)))); have n8_ := Aside0.mk (below_step (by repeat (first | (with_reducible first | exact HB.out | apply below_alloc | apply pw_below_drewN | apply below_drew1) | exact HB.out)) hb); clear HO_3; clear HO_4; clear HO_7; clear HO_9; clear HO281; clear HO285; clear HO289; clear HB; have HO_3 := n0_; have HO_4 := n1_; have HO_7 := n2_; have HO_9 := n3_; have HO281 := n4_; have HO285 := n5_; have HO289 := n6_; have HO293 := n7_; have HB := n8_; clear n0_ n1_ n2_ n3_ n4_ n5_ n6_ n7_ n8_; (try clear hb); (try clear hb2); (try clear hk); (try clear hi); (try clear ho0); obtain ⟨Ao49, co49, eo49⟩ := Kd.R_slice HO293.out; subst eo49) | ((with_reducible refine gate_callee (f := 10) rfl ?_); refine goesL_ (some 97) rfl rfl Try.func10 (by kernel_rfl) rfl #[.slice Ao49 t290.length co49] rfl (by (try simp only [List.map_toArray, List.map_cons, List.map_nil]); first | done | rfl | (simp only [List.length_drop, List.length_take]; rfl)) ?_; (with_reducible refine (impl_ContourOf.calls _ _ t290 t294 _ ?side1 ?side2 A28.out).mono ?_); (case side1 => repeat (first | exact (Kd.R_reads' HO293.out).2.2 | (with_reducible refine Kd.C_alloc ?_ _) | (with_reducible refine Kd.C_drewN ?_ _) | (with_reducible refine Kd.C_drew ?_))); (case side2 => exact (Kd.R_reads' HO293.out).2.1); rintro e w50 ⟨rfl, hb⟩; refine ⟨_, rfl, ?_⟩; have n0_ := Aside0.mk (Kd.R_below (by (with_reducible repeat (first | apply Kd.R_alloc | apply Kd.R_drewN | apply Kd.R_drew)); exact HO_3.out) hb); have n1_ := Aside0.mk (Kd.Q_below (by (with_reducible repeat (first | apply Kd.Q_alloc | apply Kd.Q_drewN | apply Kd.Q_drew)); exact HO_4.out) hb); have n2_ := Aside0.mk (Kd.R_below (by (with_reducible repeat (first | apply Kd.R_alloc | apply Kd.R_drewN | apply Kd.R_drew)); exact HO_7.out) hb); have n3_ := Aside0.mk (Kd.R_below (by (with_reducible repeat (first | apply Kd.R_alloc | apply Kd.R_drewN | apply Kd.R_drew)); exact HO_9.out) hb); have n4_ := Aside0.mk (Kd.R_below (by (with_reducible repeat (first | apply Kd.R_alloc | apply Kd.R_drewN | apply Kd.R_drew)); exact HO281.out) hb); have n5_ := Aside0.mk (Kd.R_below (by (with_reducible repeat (first | apply Kd.R_alloc | apply Kd.R_drewN | apply Kd.R_drew)); exact HO285.out) hb); have n6_ := Aside0.mk (Kd.R_below (by (with_reducible repeat (first | apply Kd.R_alloc | apply Kd.R_drewN | apply Kd.R_drew)); exact HO289.out) hb); have n7_ := Aside0.mk (Kd.R_below (by (with_reducible repeat (first | apply Kd.R_alloc | apply Kd.R_drewN | apply Kd.R_drew)); exact HO293.out) hb); have n8_ := Aside0.mk (below_step (by repeat (first | (with_reducible first | exact HB.out | apply below_alloc | apply pw_below_drewN | apply below_drew1) | exact HB.out)) hb); clear HO_3; clear HO_4; clear HO_7; clear HO_9; clear HO281; clear HO285; clear HO289; clear HO293; clear HB; have HO_3 := n0_; have HO_4 := n1_; have HO_7 := n2_; have HO_9 := n3_; have HO281 := n4_; have HO285 := n5_; have HO289 := n6_; have HO293 := n7_; have HB := n8_; clear n0_ n1_ n2_ n3_ n4_ n5_ n6_ n7_ n8_; (try clear hb); (try clear hb2); (try clear hk); (try clear hi)))
                have n0_ := Aside0.mk (Kd.R_drew HO_3.out); have n1_ := Aside0.mk (Kd.Q_drew HO_4.out); have n2_ := Aside0.mk (Kd.R_drew HO_7.out); have n3_ := Aside0.mk (Kd.R_drew HO_9.out); have n4_ := Aside0.mk (Kd.R_drew HO281.out); have n5_ := Aside0.mk (Kd.R_drew HO285.out); have n6_ := Aside0.mk (Kd.R_drew HO289.out); have n7_ := Aside0.mk (Kd.R_drew HO293.out); have n8_ := Aside0.mk (below_drew1 HB.out); clear HO_3; clear HO_4; clear HO_7; clear HO_9; clear HO281; clear HO285; clear HO289; clear HO293; clear HB; have HO_3 := n0_; have HO_4 := n1_; have HO_7 := n2_; have HO_9 := n3_; have HO281 := n4_; have HO285 := n5_; have HO289 := n6_; have HO293 := n7_; have HB := n8_; clear n0_ n1_ n2_ n3_ n4_ n5_ n6_ n7_ n8_; obtain ⟨Ao52, co52, eo52⟩ := Kd.R_slice HO281.out; (first | subst eo52 | (injection eo52 with f1_ f2_ f3_; have f4_ := f1_.symm; have f5_ := f3_.symm; clear f1_ f2_ f3_; subst f4_; subst f5_))
                refine start_ (n := 41) (S := fun w' => True) (ds := []) (rowB 41 0) (by kernel_rfl) rfl rfl trivial (fun hHeld => ?_); refine with_tabW laws_FnGroupsSplit.tab13 laws_FnGroupsSplit.bits13 (fun HT_ HW_ => ?_); generalize w50.drew = w51 at HO_3 HO_4 HO_7 HO_9 HO281 HO285 HO289 HO293 HB hHeld ⊢; refine pure_ (i := 0) (N := some 98) (v := ?_) (a' := ?_) (rowB 41 1) rfl rfl (any_of HT_.out (by kernel_rfl)) (fun _ _ _ h => h) (Or.inl ⟨by rfl, ?_⟩) ?_ ?_; rotate_left; (· intro w'; go_simp; with_reducible rfl); rotate_left; (· simp only [Act.put, List.setIfInBounds_toArray, List.set_cons_zero, List.set_cons_succ, i64_w, i32_w]; rfl); refine pure_ (i := 1) (N := some 99) (v := ?_) (a' := ?_) (rowB 41 3) rfl rfl (any_of HT_.out (by kernel_rfl)) (fun _ _ _ h => h) (Or.inl ⟨by rfl, ?_⟩) ?_ ?_; rotate_left; (· intro w'; go_simp; with_reducible rfl); rotate_left; (· simp only [Act.put, List.setIfInBounds_toArray, List.set_cons_zero, List.set_cons_succ, i64_w, i32_w]; rfl); refine pure_ (i := 2) (N := some 100) (v := ?_) (a' := ?_) (rowB 41 7) rfl rfl (any_of HT_.out (by kernel_rfl)) (fun _ _ _ h => h) (Or.inl ⟨by rfl, ?_⟩) ?_ ?_; rotate_left; (· intro w'; go_simp; with_reducible rfl); rotate_left; (· simp only [Act.put, List.setIfInBounds_toArray, List.set_cons_zero, List.set_cons_succ, i64_w, i32_w]; rfl); refine pure_ (i := 3) (N := some 101) (v := ?_) (a' := ?_) (rowB 41 15) rfl rfl (any_of HT_.out (by kernel_rfl)) (fun _ _ _ h => h) (Or.inl ⟨by rfl, ?_⟩) ?_ ?_; rotate_left; (· intro w'; go_simp; with_reducible rfl); rotate_left; (· simp only [Act.put, List.setIfInBounds_toArray, List.set_cons_zero, List.set_cons_succ, i64_w, i32_w]; rfl); refine pure_ (i := 4) (N := some 102) (v := ?_) (a' := ?_) (rowB 41 31) rfl rfl (any_of HT_.out (by kernel_rfl)) (fun _ _ _ h => h) (Or.inl ⟨by rfl, ?_⟩) ?_ ?_; rotate_left; (· intro w'; go_simp; with_reducible rfl); rotate_left; (· simp only [Act.put, List.setIfInBounds_toArray, List.set_cons_zero, List.set_cons_succ, i64_w, i32_w]; rfl); refine pure_ (i := 5) (N := some 103) (v := ?_) (a' := ?_) (rowB 41 63) rfl rfl (any_of HT_.out (by kernel_rfl)) (fun _ _ _ h => h) (Or.inl ⟨by rfl, ?_⟩) ?_ ?_; rotate_left; (· intro w'; go_simp; with_reducible rfl); rotate_left; (· simp only [Act.put, List.setIfInBounds_toArray, List.set_cons_zero, List.set_cons_succ, i64_w, i32_w]; rfl); refine pure_ (i := 6) (N := some 104) (v := ?_) (a' := ?_) (rowB 41 127) rfl rfl (any_of HT_.out (by kernel_rfl)) (fun _ _ _ h => h) (Or.inl ⟨by rfl, ?_⟩) ?_ ?_; rotate_left; (· intro w'; go_simp; with_reducible rfl); rotate_left; (· simp only [Act.put, List.setIfInBounds_toArray, List.set_cons_zero, List.set_cons_succ, i64_w, i32_w]; rfl); refine pure_ (i := 7) (N := some 105) (v := ?_) (a' := ?_) (rowB 41 255) rfl rfl (any_of HT_.out (by kernel_rfl)) (fun _ _ _ h => h) (Or.inl ⟨by rfl, ?_⟩) ?_ ?_; rotate_left; (· intro w'; go_simp; with_reducible rfl); rotate_left; (· simp only [Act.put, List.setIfInBounds_toArray, List.set_cons_zero, List.set_cons_succ, i64_w, i32_w]; rfl); refine pure_ (i := 8) (N := some 106) (v := ?_) (a' := ?_) (rowB 41 511) rfl rfl (any_of HT_.out (by kernel_rfl)) (fun _ _ _ h => h) (Or.inl ⟨by rfl, ?_⟩) ?_ ?_; rotate_left; (· intro w'; go_simp; with_reducible rfl); rotate_left; (· simp only [Act.put, List.setIfInBounds_toArray, List.set_cons_zero, List.set_cons_succ, i64_w, i32_w]; rfl); refine pure_ (i := 9) (N := some 107) (v := ?_) (a' := ?_) (rowB 41 1023) rfl rfl (any_of HT_.out (by kernel_rfl)) (fun _ _ _ h => h) (Or.inl ⟨by rfl, ?_⟩) ?_ ?_; rotate_left; (· intro w'; go_simp; with_reducible rfl); rotate_left; (· simp only [Act.put, List.setIfInBounds_toArray, List.set_cons_zero, List.set_cons_succ, i64_w, i32_w]; rfl); refine pure_ (i := 10) (N := some 108) (v := ?_) (a' := ?_) (rowB 41 2047) rfl rfl (any_of HT_.out (by kernel_rfl)) (fun _ _ _ h => h) (Or.inl ⟨by rfl, ?_⟩) ?_ ?_; rotate_left; (· intro w'; go_simp; with_reducible rfl); rotate_left; (· simp only [Act.put, List.setIfInBounds_toArray, List.set_cons_zero, List.set_cons_succ, i64_w, i32_w]; rfl); refine pure_ (i := 11) (N := some 109) (v := ?_) (a' := ?_) (rowB 41 4095) rfl rfl (any_of HT_.out (by kernel_rfl)) (fun _ _ _ h => h) (Or.inl ⟨by rfl, ?_⟩) ?_ ?_; rotate_left; (· intro w'; go_simp; with_reducible rfl); rotate_left; (· simp only [Act.put, List.setIfInBounds_toArray, List.set_cons_zero, List.set_cons_succ, i64_w, i32_w]; rfl); refine pure_ (i := 12) (N := some 110) (v := ?_) (a' := ?_) (rowB 41 8191) rfl rfl (any_of HT_.out (by kernel_rfl)) (fun _ _ _ h => h) (Or.inl ⟨by rfl, ?_⟩) ?_ ?_; rotate_left; (· intro w'; go_simp; with_reducible rfl); rotate_left; (· simp only [Act.put, List.setIfInBounds_toArray, List.set_cons_zero, List.set_cons_succ, i64_w, i32_w]; rfl); refine one_ (i := 13) (N := some 111) (rowB 41 16383) rfl rfl (one_of HT_.out (by kernel_rfl)) (by decide) (fun K hK => ?_); refine goes_ Try.func7 (by kernel_rfl) rfl #[.slice _ t278.length co52, .slice _ t261.length co9] (by rfl) rfl rfl (by (try simp only [List.map_toArray, List.map_cons, List.map_nil]); first | done | rfl | (simp only [List.length_drop, List.length_take]; rfl)) ?_; with_reducible refine (laws_sameGroups.calls kj5 _ _ t278 _ _ t261 true _ ?side1 ?side2 ?side3 ?side4 A33.out).mono ?_
                (case side1 => repeat (first | exact (Kd.R_reads' HO281.out).2.2 | (with_reducible refine Kd.C_alloc ?_ _) | (with_reducible refine Kd.C_drewN ?_ _) | (with_reducible refine Kd.C_drew ?_)))
                (case side2 => exact (Kd.R_reads' HO281.out).2.1)
                (case side3 => repeat (first | exact (Kd.Q_reads' HO_4.out).2.2 | (with_reducible refine Kd.C_alloc ?_ _) | (with_reducible refine Kd.C_drewN ?_ _) | (with_reducible refine Kd.C_drew ?_)))
                (case side4 => exact (Kd.Q_reads' HO_4.out).2.1)
                rintro e w' ⟨rfl, ⟨nd, rfl⟩⟩; refine ⟨_, rfl, ?_⟩; obtain ⟨Ao53, co53, eo53⟩ := Kd.R_slice HO285.out; (first | subst eo53 | (injection eo53 with f1_ f2_ f3_; have f4_ := f1_.symm; have f5_ := f3_.symm; clear f1_ f2_ f3_; subst f4_; subst f5_))
                refine hK.out _ _ trivial (fun hHeld => ?_); clear hK K; refine norm_ (a' := ?_) ?_ ?_; rotate_left; (· show Act.put _ (some 111) _ = _; simp only [Act.put, List.setIfInBounds_toArray, List.set_cons_zero, List.set_cons_succ, i64_w, i32_w]; rfl); refine pure_ (i := 14) (N := some 112) (v := ?_) (a' := ?_) (rowB 41 32767) rfl rfl (any_of HT_.out (by kernel_rfl)) (fun _ _ _ h => h) (Or.inl ⟨by rfl, ?_⟩) ?_ ?_; rotate_left; (· intro w'; go_simp; with_reducible rfl); rotate_left; (· simp only [Act.put, List.setIfInBounds_toArray, List.set_cons_zero, List.set_cons_succ, i64_w, i32_w]; rfl); refine pure_ (i := 15) (N := some 113) (v := ?_) (a' := ?_) (rowB 41 65535) rfl rfl (any_of HT_.out (by kernel_rfl)) (fun _ _ _ h => h) (Or.inl ⟨by rfl, ?_⟩) ?_ ?_; rotate_left; (· intro w'; go_simp; with_reducible rfl); rotate_left; (· simp only [Act.put, List.setIfInBounds_toArray, List.set_cons_zero, List.set_cons_succ, i64_w, i32_w]; rfl); refine pure_ (i := 16) (N := some 114) (v := ?_) (a' := ?_) (rowB 41 131071) rfl rfl (any_of HT_.out (by kernel_rfl)) (fun _ _ _ h => h) (Or.inl ⟨by rfl, ?_⟩) ?_ ?_; rotate_left; (· intro w'; go_simp; with_reducible rfl); rotate_left; (· simp only [Act.put, List.setIfInBounds_toArray, List.set_cons_zero, List.set_cons_succ, i64_w, i32_w]; rfl); refine pure_ (i := 17) (N := some 115) (v := ?_) (a' := ?_) (rowB 41 262143) rfl rfl (any_of HT_.out (by kernel_rfl)) (fun _ _ _ h => h) (Or.inl ⟨by rfl, ?_⟩) ?_ ?_; rotate_left; (· intro w'; go_simp; with_reducible rfl); rotate_left; (· simp only [Act.put, List.setIfInBounds_toArray, List.set_cons_zero, List.set_cons_succ, i64_w, i32_w]; rfl); refine pure_ (i := 18) (N := some 116) (v := ?_) (a' := ?_) (rowB 41 524287) rfl rfl (any_of HT_.out (by kernel_rfl)) (fun _ _ _ h => h) (Or.inl ⟨by rfl, ?_⟩) ?_ ?_; rotate_left; (· intro w'; go_simp; with_reducible rfl); rotate_left; (· simp only [Act.put, List.setIfInBounds_toArray, List.set_cons_zero, List.set_cons_succ, i64_w, i32_w]; rfl); refine pure_ (i := 19) (N := some 117) (v := ?_) (a' := ?_) (rowB 41 1048575) rfl rfl (any_of HT_.out (by kernel_rfl)) (fun _ _ _ h => h) (Or.inl ⟨by rfl, ?_⟩) ?_ ?_; rotate_left; (· intro w'; go_simp; with_reducible rfl); rotate_left; (· simp only [Act.put, List.setIfInBounds_toArray, List.set_cons_zero, List.set_cons_succ, i64_w, i32_w]; rfl); refine pure_ (i := 20) (N := some 118) (v := ?_) (a' := ?_) (rowB 41 2097151) rfl rfl (any_of HT_.out (by kernel_rfl)) (fun _ _ _ h => h) (Or.inl ⟨by rfl, ?_⟩) ?_ ?_; rotate_left; (· intro w'; go_simp; with_reducible rfl); rotate_left; (· simp only [Act.put, List.setIfInBounds_toArray, List.set_cons_zero, List.set_cons_succ, i64_w, i32_w]; rfl); refine pure_ (i := 21) (N := some 119) (v := ?_) (a' := ?_) (rowB 41 4194303) rfl rfl (any_of HT_.out (by kernel_rfl)) (fun _ _ _ h => h) (Or.inl ⟨by rfl, ?_⟩) ?_ ?_; rotate_left; (· intro w'; go_simp; with_reducible rfl); rotate_left; (· simp only [Act.put, List.setIfInBounds_toArray, List.set_cons_zero, List.set_cons_succ, i64_w, i32_w]; rfl); refine pure_ (i := 22) (N := some 120) (v := ?_) (a' := ?_) (rowB 41 8388607) rfl rfl (any_of HT_.out (by kernel_rfl)) (fun _ _ _ h => h) (Or.inl ⟨by rfl, ?_⟩) ?_ ?_; rotate_left; (· intro w'; go_simp; with_reducible rfl); rotate_left; (· simp only [Act.put, List.setIfInBounds_toArray, List.set_cons_zero, List.set_cons_succ, i64_w, i32_w]; rfl); refine pure_ (i := 23) (N := some 121) (v := ?_) (a' := ?_) (rowB 41 16777215) rfl rfl (any_of HT_.out (by kernel_rfl)) (fun _ _ _ h => h) (Or.inl ⟨by rfl, ?_⟩) ?_ ?_; rotate_left; (· intro w'; go_simp; with_reducible rfl); rotate_left; (· simp only [Act.put, List.setIfInBounds_toArray, List.set_cons_zero, List.set_cons_succ, i64_w, i32_w]; rfl); refine pure_ (i := 24) (N := some 122) (v := ?_) (a' := ?_) (rowB 41 33554431) rfl rfl (any_of HT_.out (by kernel_rfl)) (fun _ _ _ h => h) (Or.inl ⟨by rfl, ?_⟩) ?_ ?_; rotate_left; (· intro w'; go_simp; with_reducible rfl); rotate_left; (· simp only [Act.put, List.setIfInBounds_toArray, List.set_cons_zero, List.set_cons_succ, i64_w, i32_w]; rfl); refine pure_ (i := 25) (N := some 123) (v := ?_) (a' := ?_) (rowB 41 67108863) rfl rfl (any_of HT_.out (by kernel_rfl)) (fun _ _ _ h => h) (Or.inl ⟨by rfl, ?_⟩) ?_ ?_; rotate_left; (· intro w'; go_simp; with_reducible rfl); rotate_left; (· simp only [Act.put, List.setIfInBounds_toArray, List.set_cons_zero, List.set_cons_succ, i64_w, i32_w]; rfl); refine pure_ (i := 26) (N := some 124) (v := ?_) (a' := ?_) (rowB 41 134217727) rfl rfl (any_of HT_.out (by kernel_rfl)) (fun _ _ _ h => h) (Or.inl ⟨by rfl, ?_⟩) ?_ ?_; rotate_left; (· intro w'; go_simp; with_reducible rfl); rotate_left; (· simp only [Act.put, List.setIfInBounds_toArray, List.set_cons_zero, List.set_cons_succ, i64_w, i32_w]; rfl); refine pure_ (i := 27) (N := some 125) (v := ?_) (a' := ?_) (rowB 41 268435455) rfl rfl (any_of HT_.out (by kernel_rfl)) (fun _ _ _ h => h) (Or.inl ⟨by rfl, ?_⟩) ?_ ?_; rotate_left; (· intro w'; go_simp; with_reducible rfl); rotate_left; (· simp only [Act.put, List.setIfInBounds_toArray, List.set_cons_zero, List.set_cons_succ, i64_w, i32_w]; rfl); refine pure_ (i := 28) (N := some 126) (v := ?_) (a' := ?_) (rowB 41 536870911) rfl rfl (any_of HT_.out (by kernel_rfl)) (fun _ _ _ h => h) (Or.inl ⟨by rfl, ?_⟩) ?_ ?_; rotate_left; (· intro w'; go_simp; with_reducible rfl); rotate_left; (· simp only [Act.put, List.setIfInBounds_toArray, List.set_cons_zero, List.set_cons_succ, i64_w, i32_w]; rfl); refine one_ (i := 29) (N := some 127) (rowB 41 1073741823) rfl rfl (one_of HT_.out (by kernel_rfl)) (by decide) (fun K hK => ?_); refine goes_ Try.func10 (by kernel_rfl) rfl #[.slice _ t282.length co53] (by rfl) rfl rfl (by (try simp only [List.map_toArray, List.map_cons, List.map_nil]); first | done | rfl | (simp only [List.length_drop, List.length_take]; rfl)) ?_; with_reducible refine (impl_ContourOf.calls _ _ t282 t296 _ ?side1 ?side2 A39.out).mono ?_
                (case side1 => repeat (first | exact (Kd.R_reads' HO285.out).2.2 | (with_reducible refine Kd.C_alloc ?_ _) | (with_reducible refine Kd.C_drewN ?_ _) | (with_reducible refine Kd.C_drew ?_)))
                (case side2 => exact (Kd.R_reads' HO285.out).2.1)
                rintro e w54 ⟨rfl, hb⟩; refine ⟨_, rfl, ?_⟩; have n0_ := Aside0.mk (Kd.R_below (by (with_reducible repeat (first | apply Kd.R_alloc | apply Kd.R_drewN | apply Kd.R_drew)); exact HO_3.out) hb); have n1_ := Aside0.mk (Kd.Q_below (by (with_reducible repeat (first | apply Kd.Q_alloc | apply Kd.Q_drewN | apply Kd.Q_drew)); exact HO_4.out) hb); have n2_ := Aside0.mk (Kd.R_below (by (with_reducible repeat (first | apply Kd.R_alloc | apply Kd.R_drewN | apply Kd.R_drew)); exact HO_7.out) hb); have n3_ := Aside0.mk (Kd.R_below (by (with_reducible repeat (first | apply Kd.R_alloc | apply Kd.R_drewN | apply Kd.R_drew)); exact HO_9.out) hb); have n4_ := Aside0.mk (Kd.R_below (by (with_reducible repeat (first | apply Kd.R_alloc | apply Kd.R_drewN | apply Kd.R_drew)); exact HO281.out) hb); have n5_ := Aside0.mk (Kd.R_below (by (with_reducible repeat (first | apply Kd.R_alloc | apply Kd.R_drewN | apply Kd.R_drew)); exact HO285.out) hb); have n6_ := Aside0.mk (Kd.R_below (by (with_reducible repeat (first | apply Kd.R_alloc | apply Kd.R_drewN | apply Kd.R_drew)); exact HO289.out) hb); have n7_ := Aside0.mk (Kd.R_below (by (with_reducible repeat (first | apply Kd.R_alloc | apply Kd.R_drewN | apply Kd.R_drew)); exact HO293.out) hb); have n8_ := Aside0.mk (below_step (by repeat (first | (with_reducible first | exact HB.out | apply below_alloc | apply pw_below_drewN | apply below_drew1) | exact HB.out)) hb); clear HO_3; clear HO_4; clear HO_7; clear HO_9; clear HO281; clear HO285; clear HO289; clear HO293; clear HB; have HO_3 := n0_; have HO_4 := n1_; have HO_7 := n2_; have HO_9 := n3_; have HO281 := n4_; have HO285 := n5_; have HO289 := n6_; have HO293 := n7_; have HB := n8_; clear n0_ n1_ n2_ n3_ n4_ n5_ n6_ n7_ n8_; (try clear hb)
                (try clear hb2)
                (try clear hk)
                (try clear hi)
                obtain ⟨Ao55, co55, eo55⟩ := Kd.R_slice HO289.out; (first | subst eo55 | (injection eo55 with f1_ f2_ f3_; have f4_ := f1_.symm; have f5_ := f3_.symm; clear f1_ f2_ f3_; subst f4_; subst f5_))
                refine hK.out _ _ trivial (fun hHeld => ?_); clear hK K; refine norm_ (a' := ?_) ?_ ?_; rotate_left; (· show Act.put _ (some 127) _ = _; simp only [Act.put, List.setIfInBounds_toArray, List.set_cons_zero, List.set_cons_succ, i64_w, i32_w]; rfl); refine pure_ (i := 30) (N := some 128) (v := ?_) (a' := ?_) (rowB 41 2147483647) rfl rfl (any_of HT_.out (by kernel_rfl)) (fun _ _ _ h => h) (Or.inl ⟨by rfl, ?_⟩) ?_ ?_; rotate_left; (· intro w'; go_simp; with_reducible rfl); rotate_left; (· simp only [Act.put, List.setIfInBounds_toArray, List.set_cons_zero, List.set_cons_succ, i64_w, i32_w]; rfl); refine pure_ (i := 31) (N := some 129) (v := ?_) (a' := ?_) (rowB 41 4294967295) rfl rfl (any_of HT_.out (by kernel_rfl)) (fun _ _ _ h => h) (Or.inl ⟨by rfl, ?_⟩) ?_ ?_; rotate_left; (· intro w'; go_simp; with_reducible rfl); rotate_left; (· simp only [Act.put, List.setIfInBounds_toArray, List.set_cons_zero, List.set_cons_succ, i64_w, i32_w]; rfl); refine pure_ (i := 32) (N := some 130) (v := ?_) (a' := ?_) (rowB 41 8589934591) rfl rfl (any_of HT_.out (by kernel_rfl)) (fun _ _ _ h => h) (Or.inl ⟨by rfl, ?_⟩) ?_ ?_; rotate_left; (· intro w'; go_simp; with_reducible rfl); rotate_left; (· simp only [Act.put, List.setIfInBounds_toArray, List.set_cons_zero, List.set_cons_succ, i64_w, i32_w]; rfl); refine pure_ (i := 33) (N := some 131) (v := ?_) (a' := ?_) (rowB 41 17179869183) rfl rfl (any_of HT_.out (by kernel_rfl)) (fun _ _ _ h => h) (Or.inl ⟨by rfl, ?_⟩) ?_ ?_; rotate_left; (· intro w'; go_simp; with_reducible rfl); rotate_left; (· simp only [Act.put, List.setIfInBounds_toArray, List.set_cons_zero, List.set_cons_succ, i64_w, i32_w]; rfl); refine pure_ (i := 34) (N := some 132) (v := ?_) (a' := ?_) (rowB 41 34359738367) rfl rfl (any_of HT_.out (by kernel_rfl)) (fun _ _ _ h => h) (Or.inl ⟨by rfl, ?_⟩) ?_ ?_; rotate_left; (· intro w'; go_simp; with_reducible rfl); rotate_left; (· simp only [Act.put, List.setIfInBounds_toArray, List.set_cons_zero, List.set_cons_succ, i64_w, i32_w]; rfl); refine pure_ (i := 35) (N := some 133) (v := ?_) (a' := ?_) (rowB 41 68719476735) rfl rfl (any_of HT_.out (by kernel_rfl)) (fun _ _ _ h => h) (Or.inl ⟨by rfl, ?_⟩) ?_ ?_; rotate_left; (· intro w'; go_simp; with_reducible rfl); rotate_left; (· simp only [Act.put, List.setIfInBounds_toArray, List.set_cons_zero, List.set_cons_succ, i64_w, i32_w]; rfl); refine pure_ (i := 36) (N := some 134) (v := ?_) (a' := ?_) (rowB 41 137438953471) rfl rfl (any_of HT_.out (by kernel_rfl)) (fun _ _ _ h => h) (Or.inl ⟨by rfl, ?_⟩) ?_ ?_; rotate_left; (· intro w'; go_simp; with_reducible rfl); rotate_left; (· simp only [Act.put, List.setIfInBounds_toArray, List.set_cons_zero, List.set_cons_succ, i64_w, i32_w]; rfl); refine one_ (i := 37) (N := some 135) (rowB 41 274877906943) rfl rfl (one_of HT_.out (by kernel_rfl)) (by decide) (fun K hK => ?_); refine goes_ Try.func10 (by kernel_rfl) rfl #[.slice _ t286.length co55] (by rfl) rfl rfl (by (try simp only [List.map_toArray, List.map_cons, List.map_nil]); first | done | rfl | (simp only [List.length_drop, List.length_take]; rfl)) ?_; with_reducible refine (impl_ContourOf.calls _ _ t286 t297 _ ?side1 ?side2 A43.out).mono ?_
                (case side1 => repeat (first | exact (Kd.R_reads' HO289.out).2.2 | (with_reducible refine Kd.C_alloc ?_ _) | (with_reducible refine Kd.C_drewN ?_ _) | (with_reducible refine Kd.C_drew ?_)))
                (case side2 => exact (Kd.R_reads' HO289.out).2.1)
                rintro e w56 ⟨rfl, hb⟩; refine ⟨_, rfl, ?_⟩; have n0_ := Aside0.mk (Kd.R_below (by (with_reducible repeat (first | apply Kd.R_alloc | apply Kd.R_drewN | apply Kd.R_drew)); exact HO_3.out) hb); have n1_ := Aside0.mk (Kd.Q_below (by (with_reducible repeat (first | apply Kd.Q_alloc | apply Kd.Q_drewN | apply Kd.Q_drew)); exact HO_4.out) hb); have n2_ := Aside0.mk (Kd.R_below (by (with_reducible repeat (first | apply Kd.R_alloc | apply Kd.R_drewN | apply Kd.R_drew)); exact HO_7.out) hb); have n3_ := Aside0.mk (Kd.R_below (by (with_reducible repeat (first | apply Kd.R_alloc | apply Kd.R_drewN | apply Kd.R_drew)); exact HO_9.out) hb); have n4_ := Aside0.mk (Kd.R_below (by (with_reducible repeat (first | apply Kd.R_alloc | apply Kd.R_drewN | apply Kd.R_drew)); exact HO281.out) hb); have n5_ := Aside0.mk (Kd.R_below (by (with_reducible repeat (first | apply Kd.R_alloc | apply Kd.R_drewN | apply Kd.R_drew)); exact HO285.out) hb); have n6_ := Aside0.mk (Kd.R_below (by (with_reducible repeat (first | apply Kd.R_alloc | apply Kd.R_drewN | apply Kd.R_drew)); exact HO289.out) hb); have n7_ := Aside0.mk (Kd.R_below (by (with_reducible repeat (first | apply Kd.R_alloc | apply Kd.R_drewN | apply Kd.R_drew)); exact HO293.out) hb); have n8_ := Aside0.mk (below_step (by repeat (first | (with_reducible first | exact HB.out | apply below_alloc | apply pw_below_drewN | apply below_drew1) | exact HB.out)) hb); clear HO_3; clear HO_4; clear HO_7; clear HO_9; clear HO281; clear HO285; clear HO289; clear HO293; clear HB; have HO_3 := n0_; have HO_4 := n1_; have HO_7 := n2_; have HO_9 := n3_; have HO281 := n4_; have HO285 := n5_; have HO289 := n6_; have HO293 := n7_; have HB := n8_; clear n0_ n1_ n2_ n3_ n4_ n5_ n6_ n7_ n8_; (try clear hb)
                (try clear hb2)
                (try clear hk)
                (try clear hi)
                refine hK.out _ _ trivial (fun hHeld => ?_); clear hK K; refine norm_ (a' := ?_) ?_ ?_; rotate_left; (· show Act.put _ (some 135) _ = _; simp only [Act.put, List.setIfInBounds_toArray, List.set_cons_zero, List.set_cons_succ, i64_w, i32_w]; rfl); refine pure_ (i := 38) (N := some 136) (v := ?_) (a' := ?_) (rowB 41 549755813887) rfl rfl (any_of HT_.out (by kernel_rfl)) (fun _ _ _ h => h) (Or.inl ⟨by rfl, ?_⟩) ?_ ?_; rotate_left; (· intro w'; go_simp; with_reducible rfl); rotate_left; (· simp only [Act.put, List.setIfInBounds_toArray, List.set_cons_zero, List.set_cons_succ, i64_w, i32_w]; rfl); refine pure_ (i := 39) (N := some 137) (v := ?_) (a' := ?_) (rowB 41 1099511627775) rfl rfl (any_of HT_.out (by kernel_rfl)) (fun _ _ _ h => h) (Or.inl ⟨by rfl, ?_⟩) ?_ ?_; rotate_left; (· intro w'; go_simp; with_reducible rfl); rotate_left; (· simp only [Act.put, List.setIfInBounds_toArray, List.set_cons_zero, List.set_cons_succ, i64_w, i32_w]; rfl); refine pure_ (i := 40) (N := some 2) (v := ?_) (a' := ?_) (rowB 41 2199023255551) rfl rfl (any_of HT_.out (by kernel_rfl)) (fun _ _ _ h => h) (Or.inl ⟨by rfl, ?_⟩) ?_ ?_; rotate_left; (· intro w'; go_simp; with_reducible rfl); rotate_left; (· simp only [Act.put, List.setIfInBounds_toArray, List.set_cons_zero, List.set_cons_succ, i64_w, i32_w]; rfl); refine done_ (done_of HT_.out (by kernel_rfl)) ?_; try go_wp2
                go_ret
                exact ⟨by first | rfl | (simp [errW_none, errW_some] <;> rfl) | (simp only [← hji36]; first | rfl | (simp [errW_none, errW_some] <;> rfl)) | (simp [*, errW_none, errW_some] <;> rfl), by repeat (first | (with_reducible first | exact HB.out | apply below_alloc | apply pw_below_drewN | apply below_drew1) | exact HB.out)⟩
               ·
                rw [if_neg c42] at H; exact absurd H (by simp)
              ·
               rw [if_neg c41] at H; exact absurd H (by simp)
             ·
              rw [if_neg c40] at H; exact absurd (H.trans (congrArg some HRR.out)) (by simp)
            ·
             rw [if_neg c38] at H; exact absurd H (by simp)
           ·
            rw [if_neg c37] at H; exact absurd H (by simp)
          ·
           rw [if_neg c35] at H; exact absurd (H.trans (congrArg some HRR.out)) (by simp)
         ·
          replace c34 := Bool.eq_false_iff.mpr c34; subst c34; have H1 : (some false) = some r := by rw [if_neg (show ¬ (false = true) by decide)] at H; exact H
          exact absurd (H1.trans (congrArg some HRR.out)) (by simp)
        ·
         replace c32 := Bool.eq_false_iff.mpr c32; subst c32; have H1 : (some false) = some r := by rw [if_neg (show ¬ (false = true) by decide)] at H; exact H
         exact absurd (H1.trans (congrArg some HRR.out)) (by simp)
       ·
        replace c31 := Bool.eq_false_iff.mpr c31; subst c31; have H1 : (some false) = some r := by rw [if_neg (show ¬ (false = true) by decide)] at H; exact H
        exact absurd (H1.trans (congrArg some HRR.out)) (by simp)
      ·
       replace c30 := Bool.eq_false_iff.mpr c30; subst c30; have H1 : (some false) = some r := by rw [if_neg (show ¬ (false = true) by decide)] at H; exact H
       exact absurd (H1.trans (congrArg some HRR.out)) (by simp)
     ·
      replace c29 := Bool.eq_false_iff.mpr c29; subst c29; have H1 : (some false) = some r := by rw [if_neg (show ¬ (false = true) by decide)] at H; exact H
      exact absurd (H1.trans (congrArg some HRR.out)) (by simp)
/-- THE ONE PURE STATEMENT of laws_FnGroupsSplit: yours. -/
def laws_FnGroupsSplit.Pure : Prop := ∀ (l0 : List Int), l0.length ≤ maxLen → l0.length * 1 ≤ 140737488351232 → (∀ x ∈ l0, (Lit.int .u8 x).wf = true) → ∃ k, laws_FnGroupsSplit.f k l0 = some true
end Go.Proofs.Ytpcohkffbjdmfaa.PFnGroupsSplit
namespace Go.Proofs.Ytpcohkffbjdmfaa.Pure
set_option linter.unusedVariables false
set_option linter.unusedSimpArgs false
open Go Go.RowKit Go.Proofs.Ytpcohkffbjdmfaa.PFnGroupsSplit Go.Proofs.YtpcohkffbjdmfaaW.PrintWords Go.Proofs.YtpcohkffbjdmfaaW.PrintLast Go.Proofs.YtpcohkffbjdmfaaW.PrintMore

structure Code (s : List Int) : Prop where
 b : ∀ x ∈ s, 0 ≤ x ∧ x ≤ 255
 l : s.length ≤ 2000
theorem open_ev (l0 : List Int) (hw : ∀ x ∈ l0, (Lit.int .u8 x).wf = true) : ∃ s, spec_l6Open.f l0 = some (s, 0) ∧ Code s := by
 have hb : ∀ x ∈ l0, 0 ≤ x ∧ x ≤ 255 := by
  intro x hx
  have := hw x hx
  have e1 : IntKind.u8.min = 0 := by decide
  have e2 : IntKind.u8.max = 255 := by decide
  simp only [Lit.wf, e1, e2] at this
  simpa using this
 unfold spec_l6Open.f
 by_cases h : (l0.length : Int) > 2000
 ·
  refine ⟨l0.take 2000, by rw [if_pos h, if_pos (by omega)], ⟨fun x hx => hb x (List.mem_of_mem_take hx), by rw [List.length_take]; omega⟩⟩
 ·
  exact ⟨l0, by rw [if_neg h], ⟨hb, by omega⟩⟩
theorem pick_ev {s : List Int} (hc : Code s) (p n : Int) (hp : 0 ≤ p) (hp' : p ≤ 1000000000) :
 Evx (fun k => spec_l6Rd_pick.f k s p n) (fun r => 0 ≤ r.1 ∧ (r.1 < n ∨ r.1 = 0) ∧ r.2 = p + 1) := by
 have hw : wrap64 (p + 1) = p + 1 := w64 (by omega) (by omega)
 have hw' : wrap64 (p + 1 - 1) = p := by rw [w64 (by omega) (by omega)]; omega
 have hl := hc.l
 unfold spec_l6Rd_pick.f
 rw [hw]
 by_cases hn : n < 1
 ·
  refine Evx.pos hn (Evx.succ ?_)
  simp only [spec_l6Rd_pick.j0, if_true]
  exact Evx.now ⟨by simp, by simp, rfl⟩
 ·
  refine Evx.neg hn (Evx.succ ?_)
  have tm : ∀ x : Int, 0 ≤ x → 0 ≤ Int.tmod x n ∧ Int.tmod x n < n := fun x hx => ⟨Int.tmod_nonneg n hx, Int.tmod_lt_of_pos x (by omega)⟩
  by_cases h0 : s.length = 0
  ·
   have e : ((s.length : Int) == 0) = true := by simp [h0]
   simp only [spec_l6Rd_pick.j0, e, if_true]
   exact Evx.now ⟨by simp, by simp, rfl⟩
  ·
   have e : ((s.length : Int) == 0) = false := by rw [beq_eq_false_iff_ne]; omega
   simp only [spec_l6Rd_pick.j0, e, hw']
   refine Evx.neg (by simp) ?_
   by_cases hlt : p < (s.length : Int)
   ·
    refine Evx.pos hlt (Evx.pos hp (Evx.neg (by omega) (Evx.now ?_)))
    have hb := rd_bd hc.b p
    rw [w64 (x := rd s p) (by omega) (by omega)]
    have := tm (rd s p) hb.1
    exact ⟨this.1, .inl this.2, rfl⟩
   ·
    refine Evx.neg hlt (Evx.neg (by omega) ?_)
    have t1 : 0 ≤ Int.tmod p s.length := Int.tmod_nonneg _ hp
    have t1' : Int.tmod p s.length < s.length := Int.tmod_lt_of_pos p (by omega)
    rw [w64 (x := p * 7) (by omega) (by omega), w64 (x := p * 7 + 3) (by omega) (by omega)]
    have t2 : 0 ≤ Int.tmod (p * 7 + 3) s.length := Int.tmod_nonneg _ (by omega)
    have t2' : Int.tmod (p * 7 + 3) s.length < s.length := Int.tmod_lt_of_pos _ (by omega)
    refine Evx.pos t1 (Evx.pos t1' (Evx.pos t2 (Evx.pos t2' (Evx.neg (by omega) (Evx.now ?_)))))
    have hb1 := rd_bd hc.b (Int.tmod p s.length)
    have hb2 := rd_bd hc.b (Int.tmod (p * 7 + 3) s.length)
    have hd : 0 ≤ Int.tdiv p s.length ∧ Int.tdiv p s.length ≤ p := by
     rw [Int.tdiv_eq_ediv_of_nonneg hp]
     exact ⟨Int.ediv_nonneg hp (by omega), Int.ediv_le_self _ hp⟩
    generalize rd s (Int.tmod p s.length) = a at *
    generalize rd s (Int.tmod (p * 7 + 3) s.length) = b at *
    generalize Int.tdiv p s.length = c at *
    obtain ⟨X, hX, hX0, hX1⟩ : ∃ X : Int, wrap64 (wrap64 (wrap64 (wrap64 (wrap64 a * 131) + wrap64 (wrap64 b * 1117)) + wrap64 (p * 29)) + wrap64 (wrap64 c * 53)) = X ∧ 0 ≤ X ∧ X < 1000000000000 := by
     refine ⟨a * 131 + b * 1117 + p * 29 + c * 53, ?_, by omega, by omega⟩
     rw [w64 (x := a) (by omega) (by omega), w64 (x := b) (by omega) (by omega), w64 (x := c) (by omega) (by omega), w64 (x := a * 131) (by omega) (by omega), w64 (x := b * 1117) (by omega) (by omega), w64 (x := p * 29) (by omega) (by omega), w64 (x := c * 53) (by omega) (by omega), w64 (x := a * 131 + b * 1117) (by omega) (by omega), w64 (x := a * 131 + b * 1117 + p * 29) (by omega) (by omega), w64 (by omega) (by omega)]
    rw [hX]
    have hq : 0 ≤ Int.tdiv X 64 ∧ Int.tdiv X 64 ≤ X := by
     rw [Int.tdiv_eq_ediv_of_nonneg hX0]; omega
    rw [w64 (x := Int.tdiv X 64) (by omega) (by omega)]
    have := tm _ (xor_bd X (Int.tdiv X 64) hX0 (by omega) hq.1 (by omega))
    exact ⟨this.1, .inl this.2, rfl⟩

theorem drawMelody_loop {s : List Int} (hc : Code s) (n : Int) (hn : n ≤ 1000) (d : Nat) : ∀ (acc : List S59) (step p : Int), (acc.length : Int) + d = n → (∀ t ∈ acc, -1 ≤ t.f0 ∧ t.f0 ≤ 21) → 1 ≤ step → step ≤ 15 → 0 ≤ p → p + 2 * d ≤ 100000000 →
 Evx (fun k => spec_l91Melody.l0 k acc n step acc.length s p) (fun r => (r.1.length : Int) = n ∧ p ≤ r.2 ∧ r.2 ≤ p + 2 * d + 2 ∧ ∀ t ∈ r.1, -1 ≤ t.f0 ∧ t.f0 ≤ 21) := by
 induction d with
 | zero =>
  intro acc step p hl ha h1 h2 hp hp'
  refine Evx.succ ?_
  simp only [spec_l91Melody.l0]
  refine Evx.neg (by omega) (Evx.ite (fun hpos => ?_) (fun _ => Evx.now ⟨(by (try simp only [List.length_set, List.length_drop, List.length_take, List.length_append, List.length_cons, List.length_nil, Int.natCast_add, Int.natCast_one, Int.natCast_zero] at *); omega), (by (try simp only [List.length_set, List.length_drop, List.length_take, List.length_append, List.length_cons, List.length_nil, Int.natCast_add, Int.natCast_one, Int.natCast_zero] at *); omega), (by (try simp only [List.length_set, List.length_drop, List.length_take, List.length_append, List.length_cons, List.length_nil, Int.natCast_add, Int.natCast_one, Int.natCast_zero] at *); omega), ha⟩))
  refine Evx.bind (pick_ev hc p 50 hp (by omega)) ?_
  rintro ⟨r, q⟩ ⟨hr0, hr1, rfl⟩
  refine Evx.ite (fun e => ?_) (fun e => Evx.ite (fun e1 => ?_) (fun _ => Evx.now ⟨(by (try simp only [List.length_set, List.length_drop, List.length_take, List.length_append, List.length_cons, List.length_nil, Int.natCast_add, Int.natCast_one, Int.natCast_zero] at *); omega), (by (try simp only [List.length_set, List.length_drop, List.length_take, List.length_append, List.length_cons, List.length_nil, Int.natCast_add, Int.natCast_one, Int.natCast_zero] at *); omega), (by (try simp only [List.length_set, List.length_drop, List.length_take, List.length_append, List.length_cons, List.length_nil, Int.natCast_add, Int.natCast_one, Int.natCast_zero] at *); omega), ha⟩))
  ·
   refine Evx.someb (Evx.bind (pick_ev hc (p + 1) 3 (by omega) (by omega)) ?_)
   rintro ⟨u, q⟩ ⟨hu0, hu1, rfl⟩
   have hu0 : 0 ≤ u := hu0
   have hu1 : u < 3 ∨ u = 0 := hu1
   refine Evx.pos hu0 (Evx.pos (by (try simp only [List.length_set, List.length_drop, List.length_take, List.length_append, List.length_cons, List.length_nil, Int.natCast_add, Int.natCast_one, Int.natCast_zero] at *); omega) (Evx.pos (by omega) (Evx.now ⟨(by (try simp only [List.length_set, List.length_drop, List.length_take, List.length_append, List.length_cons, List.length_nil, Int.natCast_add, Int.natCast_one, Int.natCast_zero] at *); omega), (by (try simp only [List.length_set, List.length_drop, List.length_take, List.length_append, List.length_cons, List.length_nil, Int.natCast_add, Int.natCast_one, Int.natCast_zero] at *); omega), (by (try simp only [List.length_set, List.length_drop, List.length_take, List.length_append, List.length_cons, List.length_nil, Int.natCast_add, Int.natCast_one, Int.natCast_zero] at *); omega), ?_⟩)))
   refine mem_set_of ha _ _ ?_
   have : u = 0 ∨ u = 1 ∨ u = 2 := by omega
   rcases this with rfl | rfl | rfl <;> simp [rd]
  ·
   rw [w64 (by omega) (by omega)]
   refine Evx.pos (by omega) (Evx.pos (by omega) (Evx.now ⟨(by (try simp only [List.length_set, List.length_drop, List.length_take, List.length_append, List.length_cons, List.length_nil, Int.natCast_add, Int.natCast_one, Int.natCast_zero] at *); omega), (by (try simp only [List.length_set, List.length_drop, List.length_take, List.length_append, List.length_cons, List.length_nil, Int.natCast_add, Int.natCast_one, Int.natCast_zero] at *); omega), (by (try simp only [List.length_set, List.length_drop, List.length_take, List.length_append, List.length_cons, List.length_nil, Int.natCast_add, Int.natCast_one, Int.natCast_zero] at *); omega), ?_⟩))
   refine mem_set_of ha _ _ ?_
   have hlt : (n - 1).toNat < acc.length := by omega
   show -1 ≤ (rd_T59 acc (n - 1)).f0 ∧ (rd_T59 acc (n - 1)).f0 ≤ 21
   unfold rd_T59
   rw [List.getD_eq_getElem?_getD, List.getElem?_eq_getElem hlt]
   exact ha _ (List.getElem_mem hlt)
 | succ d ih =>
  intro acc step p hl ha h1 h2 hp hp'
  refine Evx.succ ?_
  simp only [spec_l91Melody.l0]
  have wl : wrap64 ((acc.length : Int) + 1) = (acc.length : Int) + 1 := w64 (by omega) (by omega)
  have stepok : ∀ u : Int, 0 ≤ u → u < 5 ∨ u = 0 → 1 ≤ mx 1 (mn 15 (wrap64 (wrap64 (step + u) - 2))) ∧ mx 1 (mn 15 (wrap64 (wrap64 (step + u) - 2))) ≤ 15 := by
   intro u hu hu'
   rw [w64 (x := step + u) (by omega) (by omega), w64 (by omega) (by omega)]
   have a := mn_le 15 (step + u - 2)
   have b := mx_le 1 (mn 15 (step + u - 2))
   omega
  refine Evx.pos (by omega) (Evx.someb (Evx.ite (fun _ => ?_) (fun _ => ?_)))
  ·
   refine Evx.bind (pick_ev hc p 3 hp (by omega)) ?_
   rintro ⟨r, q⟩ ⟨hr0, hr1, rfl⟩
   refine Evx.pos (by omega) (Evx.bind (pick_ev hc (p + 1) 5 (by omega) (by omega)) ?_)
   rintro ⟨u, q⟩ ⟨hu0, hu1, rfl⟩
   have so := stepok u hu0 hu1
   have := ih (acc ++ [⟨step, r == 0⟩]) _ (p + 1 + 1) (by (try simp only [List.length_set, List.length_drop, List.length_take, List.length_append, List.length_cons, List.length_nil, Int.natCast_add, Int.natCast_one, Int.natCast_zero] at *); omega) (by
    intro t ht
    rcases List.mem_append.1 ht with ht | ht
    ·
     exact ha t ht
    ·
     obtain rfl := List.mem_singleton.1 ht; exact ⟨(by (try simp only [List.length_set, List.length_drop, List.length_take, List.length_append, List.length_cons, List.length_nil, Int.natCast_add, Int.natCast_one, Int.natCast_zero] at *); omega), (by (try simp only [List.length_set, List.length_drop, List.length_take, List.length_append, List.length_cons, List.length_nil, Int.natCast_add, Int.natCast_one, Int.natCast_zero] at *); omega)⟩) so.1 so.2 (by omega) (by omega)
   simp only [List.length_append, List.length_singleton, Int.natCast_add, Int.natCast_one] at this
   rw [wl]
   exact this.mono (by rintro ⟨m, q⟩ ⟨e1, e2, e3, e4⟩; exact ⟨e1, (by (try simp only [List.length_set, List.length_drop, List.length_take, List.length_append, List.length_cons, List.length_nil, Int.natCast_add, Int.natCast_one, Int.natCast_zero] at *); omega), (by (try simp only [List.length_set, List.length_drop, List.length_take, List.length_append, List.length_cons, List.length_nil, Int.natCast_add, Int.natCast_one, Int.natCast_zero] at *); omega), e4⟩)
  ·
   refine Evx.pos (by omega) (Evx.bind (pick_ev hc p 5 (by omega) (by omega)) ?_)
   rintro ⟨u, q⟩ ⟨hu0, hu1, rfl⟩
   have so := stepok u hu0 hu1
   have := ih (acc ++ [⟨step, false⟩]) _ (p + 1) (by (try simp only [List.length_set, List.length_drop, List.length_take, List.length_append, List.length_cons, List.length_nil, Int.natCast_add, Int.natCast_one, Int.natCast_zero] at *); omega) (by
    intro t ht
    rcases List.mem_append.1 ht with ht | ht
    ·
     exact ha t ht
    ·
     obtain rfl := List.mem_singleton.1 ht; exact ⟨(by (try simp only [List.length_set, List.length_drop, List.length_take, List.length_append, List.length_cons, List.length_nil, Int.natCast_add, Int.natCast_one, Int.natCast_zero] at *); omega), (by (try simp only [List.length_set, List.length_drop, List.length_take, List.length_append, List.length_cons, List.length_nil, Int.natCast_add, Int.natCast_one, Int.natCast_zero] at *); omega)⟩) so.1 so.2 (by omega) (by omega)
   simp only [List.length_append, List.length_singleton, Int.natCast_add, Int.natCast_one] at this
   rw [wl]
   exact this.mono (by rintro ⟨m, q⟩ ⟨e1, e2, e3, e4⟩; exact ⟨e1, (by (try simp only [List.length_set, List.length_drop, List.length_take, List.length_append, List.length_cons, List.length_nil, Int.natCast_add, Int.natCast_one, Int.natCast_zero] at *); omega), (by (try simp only [List.length_set, List.length_drop, List.length_take, List.length_append, List.length_cons, List.length_nil, Int.natCast_add, Int.natCast_one, Int.natCast_zero] at *); omega), e4⟩)
theorem drawMelody_ev {s : List Int} (hc : Code s) (p top : Int) (hp : 0 ≤ p) (hp' : p ≤ 1000000) (hm : 0 ≤ top) (hm' : top ≤ 500) :
 Evx (fun k => spec_l91Melody.f k s p top) (fun r => (r.1.length : Int) ≤ top ∧ p ≤ r.2 ∧ r.2 ≤ p + 2000 ∧ ∀ t ∈ r.1, -1 ≤ t.f0 ∧ t.f0 ≤ 21) := by
 unfold spec_l91Melody.f
 rw [w64 (x := top + 1) (by omega) (by omega)]
 refine Evx.bind (pick_ev hc p (top + 1) hp (by omega)) ?_
 rintro ⟨n, q⟩ ⟨hn0, hn1, rfl⟩
 have hn0 : 0 ≤ n := hn0
 have hn1 : n < top + 1 ∨ n = 0 := hn1
 refine Evx.bind (pick_ev hc (p + 1) 5 (by omega) (by omega)) ?_
 rintro ⟨u, q⟩ ⟨hu0, hu1, rfl⟩
 have hu0 : 0 ≤ u := hu0
 have hu1 : u < 5 ∨ u = 0 := hu1
 have := drawMelody_loop hc n (by omega) n.toNat [] (wrap64 (4 + u)) (p + 1 + 1) (by (try simp only [List.length_set, List.length_drop, List.length_take, List.length_append, List.length_cons, List.length_nil, Int.natCast_add, Int.natCast_one, Int.natCast_zero] at *); omega) (by simp) (by rw [w64 (by omega) (by omega)]; omega) (by rw [w64 (by omega) (by omega)]; omega) (by omega) (by omega)
 exact this.mono (by rintro ⟨m, q⟩ ⟨e1, e2, e3, e4⟩; exact ⟨(by (try simp only [List.length_set, List.length_drop, List.length_take, List.length_append, List.length_cons, List.length_nil, Int.natCast_add, Int.natCast_one, Int.natCast_zero] at *); omega), (by (try simp only [List.length_set, List.length_drop, List.length_take, List.length_append, List.length_cons, List.length_nil, Int.natCast_add, Int.natCast_one, Int.natCast_zero] at *); omega), (by (try simp only [List.length_set, List.length_drop, List.length_take, List.length_append, List.length_cons, List.length_nil, Int.natCast_add, Int.natCast_one, Int.natCast_zero] at *); omega), e4⟩)

theorem drawAt_ev {s : List Int} (hc : Code s) (p n : Int) (hp : 0 ≤ p) (hp' : p ≤ 1000000) (hn : 0 ≤ n) :
 Evx (fun k => spec_l91At.f k s p n) (fun r => -1 ≤ r.1 ∧ r.1 ≤ n ∧ p ≤ r.2 ∧ r.2 ≤ p + 2) := by
 have tt : ∀ q, 0 ≤ q → q ≤ 2000000 → Evx (fun k => spec_l91At.j0 k n true s q) (fun r => -1 ≤ r.1 ∧ r.1 ≤ n ∧ r.2 = q + 1) := by
  intro q hq hq'
  refine Evx.succ ?_
  simp only [spec_l91At.j0, if_true]
  refine Evx.someb (Evx.bind (pick_ev hc q 2 hq (by omega)) ?_)
  rintro ⟨r, q'⟩ ⟨hr0, hr1, rfl⟩
  have hr0 : 0 ≤ r := hr0
  have hr1 : r < 2 ∨ r = 0 := hr1
  refine Evx.pos hr0 (Evx.pos (by (try simp only [List.length_set, List.length_drop, List.length_take, List.length_append, List.length_cons, List.length_nil, Int.natCast_add, Int.natCast_one, Int.natCast_zero] at *); omega) (Evx.now ?_))
  have : r = 0 ∨ r = 1 := by omega
  rcases this with rfl | rfl
  ·
   exact ⟨by simp [rd], by simp [rd]; omega, rfl⟩
  ·
   exact ⟨by simp [rd]; omega, by simp [rd], rfl⟩
 unfold spec_l91At.f
 refine Evx.ite (fun _ => (tt p hp (by omega)).mono (by rintro ⟨a, q⟩ ⟨h1, h2, h3⟩; exact ⟨h1, h2, (by (try simp only [List.length_set, List.length_drop, List.length_take, List.length_append, List.length_cons, List.length_nil, Int.natCast_add, Int.natCast_one, Int.natCast_zero] at *); omega), (by (try simp only [List.length_set, List.length_drop, List.length_take, List.length_append, List.length_cons, List.length_nil, Int.natCast_add, Int.natCast_one, Int.natCast_zero] at *); omega)⟩)) (fun h0 => ?_)
 refine Evx.bind (pick_ev hc p 20 hp (by omega)) ?_
 rintro ⟨r, q'⟩ ⟨hr0, hr1, rfl⟩
 by_cases e : r = 0
 ·
  subst e
  exact (tt (p + 1) (by omega) (by omega)).mono (by rintro ⟨a, q⟩ ⟨h1, h2, h3⟩; exact ⟨h1, h2, (by (try simp only [List.length_set, List.length_drop, List.length_take, List.length_append, List.length_cons, List.length_nil, Int.natCast_add, Int.natCast_one, Int.natCast_zero] at *); omega), (by (try simp only [List.length_set, List.length_drop, List.length_take, List.length_append, List.length_cons, List.length_nil, Int.natCast_add, Int.natCast_one, Int.natCast_zero] at *); omega)⟩)
 ·
  have e' : (r == 0) = false := by rw [beq_eq_false_iff_ne]; exact e
  simp only [e']
  refine Evx.succ ?_
  simp only [spec_l91At.j0]
  refine Evx.neg (by simp) (Evx.bind (pick_ev hc (p + 1) n (by omega) (by omega)) ?_)
  rintro ⟨u, q'⟩ ⟨hu0, hu1, rfl⟩
  exact Evx.now ⟨(by (try simp only [List.length_set, List.length_drop, List.length_take, List.length_append, List.length_cons, List.length_nil, Int.natCast_add, Int.natCast_one, Int.natCast_zero] at *); omega), (by (try simp only [List.length_set, List.length_drop, List.length_take, List.length_append, List.length_cons, List.length_nil, Int.natCast_add, Int.natCast_one, Int.natCast_zero] at *); omega), (by (try simp only [List.length_set, List.length_drop, List.length_take, List.length_append, List.length_cons, List.length_nil, Int.natCast_add, Int.natCast_one, Int.natCast_zero] at *); omega), (by (try simp only [List.length_set, List.length_drop, List.length_take, List.length_append, List.length_cons, List.length_nil, Int.natCast_add, Int.natCast_one, Int.natCast_zero] at *); omega)⟩
theorem drawGroups_loop {s : List Int} (hc : Code s) (m : List S59) (d : Nat) : ∀ (acc : List S43) (left p : Int), 0 ≤ left → left ≤ d → (acc.length : Int) + left ≤ 1000 → (∀ g ∈ acc, -1 ≤ g.f0 ∧ g.f0 ≤ 5) → 0 ≤ p → p + 2 * left ≤ 100000000 →
 Evx (fun k => spec_l91Groups.l0 k m acc left s p) (fun r => r.1 = m ∧ (r.2.1.length : Int) ≤ acc.length + left ∧ p ≤ r.2.2 ∧ r.2.2 ≤ p + 2 * left + 2 ∧ ∀ g ∈ r.2.1, -1 ≤ g.f0 ∧ g.f0 ≤ 5) := by
 induction d with
 | zero =>
  intro acc left p h0 hd hl ha hp hp'
  refine Evx.succ ?_
  simp only [spec_l91Groups.l0]
  refine Evx.neg (by omega) (Evx.ite (fun hpos => ?_) (fun _ => Evx.now ⟨rfl, (by (try simp only [List.length_set, List.length_drop, List.length_take, List.length_append, List.length_cons, List.length_nil, Int.natCast_add, Int.natCast_one, Int.natCast_zero] at *); omega), (by (try simp only [List.length_set, List.length_drop, List.length_take, List.length_append, List.length_cons, List.length_nil, Int.natCast_add, Int.natCast_one, Int.natCast_zero] at *); omega), (by (try simp only [List.length_set, List.length_drop, List.length_take, List.length_append, List.length_cons, List.length_nil, Int.natCast_add, Int.natCast_one, Int.natCast_zero] at *); omega), ha⟩))
  refine Evx.bind (pick_ev hc p 30 hp (by omega)) ?_
  rintro ⟨r, q⟩ ⟨hr0, hr1, rfl⟩
  refine Evx.ite (fun e => ?_) (fun e => Evx.ite (fun e1 => ?_) (fun _ => Evx.now ⟨rfl, (by (try simp only [List.length_set, List.length_drop, List.length_take, List.length_append, List.length_cons, List.length_nil, Int.natCast_add, Int.natCast_one, Int.natCast_zero] at *); omega), (by (try simp only [List.length_set, List.length_drop, List.length_take, List.length_append, List.length_cons, List.length_nil, Int.natCast_add, Int.natCast_one, Int.natCast_zero] at *); omega), (by (try simp only [List.length_set, List.length_drop, List.length_take, List.length_append, List.length_cons, List.length_nil, Int.natCast_add, Int.natCast_one, Int.natCast_zero] at *); omega), ha⟩))
  ·
   refine Evx.someb (Evx.bind (pick_ev hc (p + 1) 3 (by omega) (by omega)) ?_)
   rintro ⟨u, q⟩ ⟨hu0, hu1, rfl⟩
   have hu0 : 0 ≤ u := hu0
   have hu1 : u < 3 ∨ u = 0 := hu1
   refine Evx.pos hu0 (Evx.pos (by (try simp only [List.length_set, List.length_drop, List.length_take, List.length_append, List.length_cons, List.length_nil, Int.natCast_add, Int.natCast_one, Int.natCast_zero] at *); omega) (Evx.pos (by omega) (Evx.now ⟨rfl, (by (try simp only [List.length_set, List.length_drop, List.length_take, List.length_append, List.length_cons, List.length_nil, Int.natCast_add, Int.natCast_one, Int.natCast_zero] at *); omega), (by (try simp only [List.length_set, List.length_drop, List.length_take, List.length_append, List.length_cons, List.length_nil, Int.natCast_add, Int.natCast_one, Int.natCast_zero] at *); omega), (by (try simp only [List.length_set, List.length_drop, List.length_take, List.length_append, List.length_cons, List.length_nil, Int.natCast_add, Int.natCast_one, Int.natCast_zero] at *); omega), ?_⟩)))
   refine mem_set_of ha _ _ ?_
   have : u = 0 ∨ u = 1 ∨ u = 2 := by omega
   rcases this with rfl | rfl | rfl <;> simp [rd]
  ·
   refine Evx.pos (by omega) (Evx.now ⟨rfl, (by (try simp only [List.length_set, List.length_drop, List.length_take, List.length_append, List.length_cons, List.length_nil, Int.natCast_add, Int.natCast_one, Int.natCast_zero] at *); omega), (by (try simp only [List.length_set, List.length_drop, List.length_take, List.length_append, List.length_cons, List.length_nil, Int.natCast_add, Int.natCast_one, Int.natCast_zero] at *); omega), (by (try simp only [List.length_set, List.length_drop, List.length_take, List.length_append, List.length_cons, List.length_nil, Int.natCast_add, Int.natCast_one, Int.natCast_zero] at *); omega), fun g hg => ha g (List.mem_of_mem_drop hg)⟩)
 | succ d ih =>
  intro acc left p h0 hd hl ha hp hp'
  by_cases hz : left ≤ 0
  ·
   exact ih acc left p h0 (by omega) hl ha hp hp'
  refine Evx.succ ?_
  simp only [spec_l91Groups.l0]
  have hmn := mn_le left 4
  refine Evx.pos (by omega) (Evx.bind (pick_ev hc p (mn left 4) hp (by omega)) ?_)
  rintro ⟨r, q⟩ ⟨hr0, hr1, rfl⟩
  have hr0 : 0 ≤ r := hr0
  have hr1 : r < mn left 4 ∨ r = 0 := hr1
  refine Evx.bind (pick_ev hc (p + 1) 4 (by omega) (by omega)) ?_
  rintro ⟨u, q⟩ ⟨hu0, hu1, rfl⟩
  refine Evx.pos (by omega) ?_
  simp only []
  rw [w64 (x := 1 + r) (by omega) (by omega), w64 (x := left - (1 + r)) (by omega) (by omega)]
  have := ih (acc ++ [⟨1 + r, u == 0⟩]) (left - (1 + r)) (p + 1 + 1) (by omega) (by omega) (by (try simp only [List.length_set, List.length_drop, List.length_take, List.length_append, List.length_cons, List.length_nil, Int.natCast_add, Int.natCast_one, Int.natCast_zero] at *); omega) (by
   intro g hg
   rcases List.mem_append.1 hg with hg | hg
   ·
    exact ha g hg
   ·
    obtain rfl := List.mem_singleton.1 hg; exact ⟨(by (try simp only [List.length_set, List.length_drop, List.length_take, List.length_append, List.length_cons, List.length_nil, Int.natCast_add, Int.natCast_one, Int.natCast_zero] at *); omega), (by (try simp only [List.length_set, List.length_drop, List.length_take, List.length_append, List.length_cons, List.length_nil, Int.natCast_add, Int.natCast_one, Int.natCast_zero] at *); omega)⟩) (by omega) (by omega)
  exact this.mono (by rintro ⟨m', gs, q⟩ ⟨e1, e2, e3, e4, e5⟩; exact ⟨e1, (by (try simp only [List.length_set, List.length_drop, List.length_take, List.length_append, List.length_cons, List.length_nil, Int.natCast_add, Int.natCast_one, Int.natCast_zero] at *); omega), (by (try simp only [List.length_set, List.length_drop, List.length_take, List.length_append, List.length_cons, List.length_nil, Int.natCast_add, Int.natCast_one, Int.natCast_zero] at *); omega), (by (try simp only [List.length_set, List.length_drop, List.length_take, List.length_append, List.length_cons, List.length_nil, Int.natCast_add, Int.natCast_one, Int.natCast_zero] at *); omega), e5⟩)
theorem drawGroups_ev {s : List Int} (hc : Code s) (p : Int) (hp : 0 ≤ p) (hp' : p ≤ 1000) :
 Evx (fun k => spec_l91Groups.f k s p) (fun r => (r.1.length : Int) ≤ 10 ∧ (r.2.1.length : Int) ≤ 10 ∧ p ≤ r.2.2 ∧ r.2.2 ≤ p + 3000 ∧ ∀ g ∈ r.2.1, -1 ≤ g.f0 ∧ g.f0 ≤ 5) := by
 unfold spec_l91Groups.f
 refine Evx.bind (drawMelody_ev hc p 10 hp (by omega) (by omega) (by omega)) ?_
 rintro ⟨m, q⟩ ⟨h1, h2, h3, h4⟩
 have h1 : (m.length : Int) ≤ 10 := h1
 have h2 : p ≤ q := h2
 have h3 : q ≤ p + 2000 := h3
 refine (drawGroups_loop hc m m.length [] m.length q (by omega) (by omega) (by (try simp only [List.length_set, List.length_drop, List.length_take, List.length_append, List.length_cons, List.length_nil, Int.natCast_add, Int.natCast_one, Int.natCast_zero] at *); omega) (by simp) (by omega) (by omega)).mono ?_
 rintro ⟨m', gs, q'⟩ ⟨e1, e2, e3, e4, e5⟩
 have e1 : m' = m := e1
 subst e1
 exact ⟨h1, (by (try simp only [List.length_set, List.length_drop, List.length_take, List.length_append, List.length_cons, List.length_nil, Int.natCast_add, Int.natCast_one, Int.natCast_zero] at *); omega), (by (try simp only [List.length_set, List.length_drop, List.length_take, List.length_append, List.length_cons, List.length_nil, Int.natCast_add, Int.natCast_one, Int.natCast_zero] at *); omega), (by (try simp only [List.length_set, List.length_drop, List.length_take, List.length_append, List.length_cons, List.length_nil, Int.natCast_add, Int.natCast_one, Int.natCast_zero] at *); omega), e5⟩

end Go.Proofs.Ytpcohkffbjdmfaa.Pure
namespace Go.Proofs.Ytpcohkffbjdmfaa.Pure
set_option linter.unusedVariables false
set_option linter.unusedSimpArgs false
open Go Go.RowKit Go.Proofs.Ytpcohkffbjdmfaa.PFnGroupsSplit Go.Proofs.YtpcohkffbjdmfaaW.PrintWords Go.Proofs.YtpcohkffbjdmfaaW.PrintLast Go.Proofs.YtpcohkffbjdmfaaW.PrintMore

theorem laws_sameGroups_ev (g : List S43) (hg : g.length ≤ 1000000000000) : Ev (fun n => laws_sameGroups.f n g g) true := by
 unfold laws_sameGroups.f
 refine Ev.pos rfl ?_
 have := Ev.over z43 g (fun k (_ : Unit) i => laws_sameGroups.l0 k g g i) (fun _ _ => true) (fun _ _ => True) (by
  intro s _
  refine Ev.succ ?_
  simp only [laws_sameGroups.l0]
  exact Ev.neg (by omega) (Ev.now _)) (by
  intro s i rest _ hi _ ih
  refine Ev.succ ?_
  simp only [laws_sameGroups.l0]
  refine Ev.pos (by omega) (Ev.pos (by omega) (Ev.pos (by omega) (Ev.neg (by simp) ?_)))
  rw [w64 (by omega) (by omega)]
  exact ih () trivial) 0 () (Nat.zero_le _) trivial
 simpa using this

theorem son_extract (xs : List Int) (a b : Nat) : (strOfNums xs).extract a b = strOfNums ((xs.drop a).take (b - a)) := by
 apply ByteArray.ext
 rw [ByteArray.data_extract]
 unfold strOfNums
 rw [List.extract_toArray, List.extract_eq_take_drop, List.map_take, List.map_drop]
theorem ways_len (m : List S59) : (ways m).length = m.length - 1 := wyUpto_len m _
theorem ways_get (m : List S59) (i : Nat) (h : i < (ways m).length) : (ways m)[i] = wyAt m i := by simp [ways, wyUpto]
theorem ways_take (m : List S59) (k : Nat) (hk : k ≤ m.length) : ways (m.take k) = (ways m).take (k - 1) := by
 apply List.ext_getElem
 ·
  rw [ways_len, List.length_take, List.length_take, ways_len]; omega
 ·
  intro i h1 h2
  have hi : i < k - 1 := by rw [ways_len, List.length_take] at h1; omega
  rw [ways_get, List.getElem_take, ways_get]
  unfold wyAt rd_T59
  have e : ((i : Int) + 1).toNat = i + 1 := by omega
  rw [e, Int.toNat_natCast]
  simp only [List.getD_eq_getElem?_getD]
  rw [List.getElem?_take_of_lt (by omega), List.getElem?_take_of_lt (by omega)]
theorem ways_drop (m : List S59) (k : Nat) : ways (m.drop k) = (ways m).drop k := by
 apply List.ext_getElem
 ·
  rw [ways_len, List.length_drop, List.length_drop, ways_len]; omega
 ·
  intro i h1 h2
  rw [ways_get, List.getElem_drop, ways_get]
  unfold wyAt rd_T59
  have e : ((i : Int) + 1).toNat = i + 1 := by omega
  have e' : (((k + i : Nat) : Int) + 1).toNat = k + (i + 1) := by omega
  rw [e, e', Int.toNat_natCast, Int.toNat_natCast]
  simp only [List.getD_eq_getElem?_getD, List.getElem?_drop]
theorem melOk_sub {a b : List S59} (h : melOk b = true) (hl : a.length ≤ b.length) (hs : ∀ t ∈ a, t ∈ b) : melOk a = true := by
 unfold melOk at h ⊢
 simp only [Bool.and_eq_true, decide_eq_true_eq, List.all_eq_true] at h ⊢
 exact ⟨by omega, fun t ht => h.2 t (hs t ht)⟩
theorem drawGS_ev (l0 : List Int) (hw : ∀ x ∈ l0, (Lit.int .u8 x).wf = true) : Evx (fun n => spec_DrawGroupsSplit.f n l0) (fun r => r.1.length ≤ 1000 ∧ r.2.1.length ≤ 1000) := by
 obtain ⟨s, hs, hc⟩ := open_ev l0 hw
 unfold spec_DrawGroupsSplit.f
 refine Evx.conb hs (Evx.bind (drawGroups_ev hc 0 (by omega) (by omega)) ?_)
 rintro ⟨m, g, q⟩ ⟨h1, h2, h3, h4, h5⟩
 have h1 : (m.length : Int) ≤ 10 := h1
 have h2 : (g.length : Int) ≤ 10 := h2
 have h3 : 0 ≤ q := h3
 have h4 : q ≤ 0 + 3000 := h4
 refine Evx.bind (drawAt_ev hc q _ h3 (by omega) (by omega)) ?_
 rintro ⟨a, q1⟩ ⟨_, _, hq1, hq1'⟩
 have hq1 : q ≤ q1 := hq1
 have hq1' : q1 ≤ q + 2 := hq1'
 refine Evx.bind (pick_ev hc q1 4 (by omega) (by omega)) ?_
 rintro ⟨u, q2⟩ ⟨_, _, hq2⟩
 have hq2 : q2 = q1 + 1 := hq2
 subst hq2
 refine Evx.bind (pick_ev hc (q1 + 1) 12 (by omega) (by omega)) ?_
 rintro ⟨v, q3⟩ _
 exact Evx.now ⟨by show m.length ≤ 1000; omega, by show g.length ≤ 1000; omega⟩
theorem gsplit_back {m : List S59} {g : List S43} {i k : Int} (h : (gsplit m g i k).2 = true) :
 ∃ (C : List S59) (z : Nat), melOk C = true ∧ C.length = z ∧ 1 ≤ k ∧ k < (z : Int) ∧ 0 ≤ i ∧ (gsplit m g i k).1.length = g.length + 1 ∧ gjoin m (gsplit m g i k).1 i = (g, true) ∧
  gcut m g i = (C, true) ∧ gcut m (gsplit m g i k).1 i = (C.take k.toNat, true) ∧ gcut m (gsplit m g i k).1 (i + 1) = (C.drop k.toNat, true) ∧ i < (g.length : Int) := by
 unfold gsplit at h ⊢
 by_cases hc : gOk m g = true ∧ 0 ≤ i ∧ i < (g.length : Int) ∧ 1 ≤ k ∧ k < (rd_T43 g i).f0
 ·
  rw [if_pos hc]
  obtain ⟨hok, h0, h1, hk1, hk2⟩ := hc
  have hm := gOk_mel hok
  have hml := melOk_len hm
  have hs := gOk_sizes hok
  have ht := gOk_total hok
  have hz4 := size_of hs h0 h1
  obtain ⟨A, x, B, rfl, rfl⟩ := cut_at h0 h1
  rw [rd_mid] at hk2 hz4 ⊢
  have d1 : (A ++ x :: B).take A.length = A := by simp
  have d2 : (A ++ x :: B).drop (A.length + 1) = B := by rw [List.drop_append]; simp
  have e1 : ((A.length : Int) + 1).toNat = A.length + 1 := by omega
  have e2 : ((A.length : Int) + 2).toNat = A.length + 2 := by omega
  simp only [Int.toNat_natCast]
  rw [e1, d1, d2]
  have eO : A ++ [(⟨k, false⟩ : S43), ⟨x.f0 - k, x.f1⟩] ++ B = A ++ (⟨k, false⟩ : S43) :: ⟨x.f0 - k, x.f1⟩ :: B := by simp
  rw [eO]
  simp only [total_app, total, sizesOk_app] at ht
  have hs' : sizesOk A = true ∧ (1 ≤ x.f0 ∧ x.f0 ≤ 4) ∧ sizesOk B = true := by rw [sizesOk_app] at hs; simpa [sizesOk] using hs
  have tA := total_ge hs'.1
  have tB := total_ge hs'.2.2
  have hO : gOk m (A ++ (⟨k, false⟩ : S43) :: ⟨x.f0 - k, x.f1⟩ :: B) = true := by
   unfold gOk
   rw [hm, Bool.true_and, Bool.and_eq_true, beq_iff_eq, sizesOk_app]
   refine ⟨?_, by simp only [total_app, total]; omega⟩
   rw [hs'.1, Bool.true_and]
   have : sizesOk B = true := hs'.2.2
   unfold sizesOk at this ⊢
   rw [List.all_cons, List.all_cons, this]
   simp
   omega
  have o1 : (A ++ (⟨k, false⟩ : S43) :: ⟨x.f0 - k, x.f1⟩ :: B).take A.length = A := by simp
  have o2 : (A ++ (⟨k, false⟩ : S43) :: ⟨x.f0 - k, x.f1⟩ :: B).drop (A.length + 2) = B := by rw [List.drop_append]; simp
  have o3 : (A ++ (⟨k, false⟩ : S43) :: ⟨x.f0 - k, x.f1⟩ :: B).take (A.length + 1) = A ++ [⟨k, false⟩] := by rw [List.take_append, List.take_of_length_le (by omega)]; simp
  obtain ⟨T, hT⟩ : ∃ T : Nat, total A = T := ⟨(total A).toNat, by omega⟩
  obtain ⟨kk, hkk⟩ : ∃ q : Nat, k = q := ⟨k.toNat, by omega⟩
  obtain ⟨z, hz⟩ : ∃ z : Nat, x.f0 = z := ⟨x.f0.toNat, by omega⟩
  have hlen : T + z ≤ m.length := by omega
  refine ⟨(m.drop T).take z, z, ?_, ?_, hk1, by omega, by omega, ?_, ?_, ?_, ?_, ?_, h1⟩
  ·
   exact melOk_sub hm (by rw [List.length_take, List.length_drop]; omega) (fun t ht => List.mem_of_mem_drop (List.mem_of_mem_take ht))
  ·
   rw [List.length_take, List.length_drop]; omega
  ·
   simp; omega
  ·
   unfold gjoin
   rw [rd_mid, rd_mid', if_pos ⟨hO, by omega, by simp; omega, by simp; omega⟩, Int.toNat_natCast, e2, o1, o2]
   have : k + (x.f0 - k) = x.f0 := by omega
   simp [this]
  ·
   unfold gcut
   rw [if_pos ⟨hok, by omega, h1⟩, Int.toNat_natCast, d1, rd_mid, hT, hz]
   simp
  ·
   unfold gcut
   rw [if_pos ⟨hO, by omega, by simp; omega⟩, Int.toNat_natCast, o1, rd_mid, hT, hkk]
   simp only [Int.toNat_natCast]
   rw [List.take_take, Nat.min_eq_left (by omega)]
  ·
   unfold gcut
   have e5 : (x.f0 - k).toNat = z - kk := by omega
   have e6 : ((T : Int) + ((kk : Int) + 0)).toNat = T + kk := by omega
   rw [if_pos ⟨hO, by omega, by simp; omega⟩, e1, o3, rd_mid', total_app, hT]
   simp only [total]
   rw [e5, hkk, e6, Int.toNat_natCast, List.drop_take, List.drop_drop]
 ·
  rw [if_neg hc] at h; cases h
set_option maxHeartbeats 2000000 in
theorem FnGroupsSplit_core (l0 : List Int) (hm0 : l0.length ≤ maxLen) (hw : ∀ x ∈ l0, (Lit.int .u8 x).wf = true) : ∃ n, laws_FnGroupsSplit.f n l0 = some true := by
 unfold maxLen at hm0
 have key : Ev (fun n => laws_FnGroupsSplit.f n l0) true := by
  unfold laws_FnGroupsSplit.f
  by_cases hb : (l0.length : Int) > 1048576
  ·
   exact Ev.pos hb (Ev.now _)
  refine Ev.neg hb ?_
  obtain ⟨⟨m, g, i, k⟩, hd, hm, hg⟩ := drawGS_ev l0 hw
  have hm : m.length ≤ 1000 := hm
  have hg : g.length ≤ 1000 := hg
  have hgl := gsplit_len m g i k
  have hgs : impl_GroupsSplit.f m g i k = some (gsplit m g i k) := by unfold impl_GroupsSplit.f; rw [if_pos ⟨by omega, by omega⟩]
  have hss : spec_GroupsSplit.f m g i k = some (gsplit m g i k) := by unfold spec_GroupsSplit.f; rw [if_pos ⟨by omega, by omega⟩]
  refine Ev.bind hd (Ev.conb hgs (Ev.conb hss ?_))
  refine Ev.neg (by simp) (Ev.bind (laws_sameGroups_ev _ (by omega)) (Ev.pos rfl (Ev.succ ?_)))
  simp only [laws_FnGroupsSplit.j0]
  cases hok : (gsplit m g i k).2
  ·
   exact Ev.pos (by simp) (Ev.pos (by simp) (Ev.bind (laws_sameGroups_ev _ (by omega)) (Ev.now _)))
  obtain ⟨C, z, hC, hCz, k1, k2, i0, hol, hj, hcg, hca, hcb, hi⟩ := gsplit_back hok
  obtain ⟨out, hout⟩ : ∃ o, o = (gsplit m g i k).1 := ⟨_, rfl⟩
  rw [← hout] at hol hj hca hcb hgl ⊢
  have hlC := melOk_len hC
  have wi : wrap64 (i + 1) = i + 1 := w64 (by omega) (by omega)
  have wk : wrap64 (k - 1) = k - 1 := w64 (by omega) (by omega)
  have wg : wrap64 ((g.length : Int) + 1) = (g.length : Int) + 1 := w64 (by omega) (by omega)
  rw [wi, wk, wg]
  clear wi wk wg
  have f1 : impl_GroupsJoin.f m out i = some (g, true) := by unfold impl_GroupsJoin.f; rw [if_pos ⟨by omega, by omega⟩, hj]
  have f2 : impl_GroupsCut.f m out i = some (C.take k.toNat, true) := by unfold impl_GroupsCut.f; rw [if_pos ⟨by omega, by omega⟩, hca]
  have f3 : impl_GroupsCut.f m out (i + 1) = some (C.drop k.toNat, true) := by unfold impl_GroupsCut.f; rw [if_pos ⟨by omega, by omega⟩, hcb]
  have f4 : impl_GroupsCut.f m g i = some (C, true) := by unfold impl_GroupsCut.f; rw [if_pos ⟨by omega, by omega⟩, hcg]
  have g1 : impl_ContourOf.f C = some (strOfNums (ways C)) := by unfold impl_ContourOf.f cOf; rw [if_pos hC]
  have g2 : impl_ContourOf.f (C.take k.toNat) = some (strOfNums ((ways C).take (k.toNat - 1))) := by
   unfold impl_ContourOf.f cOf
   rw [if_pos (melOk_sub hC (by rw [List.length_take]; omega) (fun t ht => List.mem_of_mem_take ht)), ways_take C _ (by omega)]
  have g3 : impl_ContourOf.f (C.drop k.toNat) = some (strOfNums ((ways C).drop k.toNat)) := by
   unfold impl_ContourOf.f cOf
   rw [if_pos (melOk_sub hC (by rw [List.length_drop]; omega) (fun t ht => List.mem_of_mem_drop ht)), ways_drop]
  have hsz : (strOfNums (ways C)).size = z - 1 := by rw [strOfNums_size, ways_len, hCz]
  have x1 : (strOfNums (ways C)).extract 0 (k - 1).toNat = strOfNums ((ways C).take (k.toNat - 1)) := by
   rw [son_extract, List.drop_zero, show (k - 1).toNat - 0 = k.toNat - 1 by omega]
  have x2 : (strOfNums (ways C)).extract k.toNat (strOfNums (ways C)).size = strOfNums ((ways C).drop k.toNat) := by
   rw [son_extract, hsz, List.take_of_length_le (by rw [List.length_drop, ways_len, hCz]; omega)]
  refine Ev.neg (by simp) (Ev.conb f1 (Ev.conb f2 (Ev.conb f3 (Ev.conb f4 (Ev.conb g1 (Ev.pos rfl (Ev.pos rfl (Ev.pos rfl (Ev.pos rfl (Ev.bind (laws_sameGroups_ev _ (by show g.length ≤ _; omega)) (Ev.pos rfl ?_)))))))))))
  refine Ev.pos (by omega) (Ev.pos (by omega) (Ev.pos (by rw [hsz]; omega) (Ev.conb g2 (Ev.pos (by rw [x1]) (Ev.pos (by omega) (Ev.pos (by rw [hsz]; omega) (Ev.conb g3 (Ev.eqr (Ev.now _) ?_))))))))
  rw [x2]
  simp
 exact Ev.rounds key
theorem FnGroupsSplit_walk (l0 : List Int) (A0 : Option Addr) (c0 : Nat) (w : World) (hr0 : Kd.C (Kd.int .u8) w A0 l0.length l0) (hc0 : l0.length ≤ c0) (hw0 : ∀ x ∈ l0, (Lit.int .u8 x).wf = true) (hm0 : l0.length ≤ maxLen) :
 Calls Try.prog 3 #[.slice A0 l0.length c0] w fun e w' => e = .returned (.bool true) ∧ Below w.heap.size w w' := by
 obtain ⟨k, h⟩ := FnGroupsSplit_core l0 hm0 hw0
 exact laws_FnGroupsSplit.calls k A0 c0 l0 true w hr0 hc0 rfl h

def Opn {α : Type} (P : Program) (t : TypeId) (d : Kd α) (ok : α → Prop) : Prop :=
 P.cellsOf t = d.sz ∧ ∀ {H : Type} (enc : TypeId × Value → H) (w : World) (base : Nat) (held : Bool) (fuel : Nat) (cs : List Value) (x : DataW H × List MemPlace), DataW.trod enc P w base (fun _ => true) held fuel t cs = some x → ∃ p, d.K w p cs ∧ ok p
theorem opn_int {P : Program} {t : TypeId} (k : IntKind) (ht : P.underlying t = some (.int k)) (hc : P.cellsOf t = 1) : Opn P t (Kd.int k) (fun n => (Lit.int k n).wf = true) :=
 ⟨hc, fun enc w base held fuel cs x h => by obtain ⟨n, rfl, _, hw⟩ := DataW.trod_int ht h; exact ⟨n, rfl, hw⟩⟩
theorem opn_slice {α : Type} {P : Program} {t e : TypeId} {d : Kd α} {ok : α → Prop} (ht : P.underlying t = some (.slice e)) (hc : P.cellsOf t = 1) (he : Opn P e d ok) : Opn P t (Kd.slice e d) (fun l => (∀ x ∈ l, ok x) ∧ l.length ≤ maxLen) := by
 refine ⟨hc, fun enc w base held fuel cs x h => ?_⟩
 rcases Go.Deep.open_slice ht h with ⟨rfl, _⟩ | ⟨a, len, cap, m, n, D, Pl, rfl, _, hl, hm, hmm, _, hi⟩
 ·
  exact ⟨[], ⟨none, 0, rfl, Nat.le_refl _, rfl, by simp, fun h => by simp at h⟩, by simp, by simp⟩
 ·
  have hmc : m = cap := by simpa using hmm
  clear hmm
  have key : ∀ k, k ≤ len → ∃ l : List α, l.length = k ∧ (∀ x ∈ l, ok x) ∧ ∀ j p, l[j]? = some p → ∃ c, c.length = d.sz ∧ d.K w p c ∧ ∀ i u, c[i]? = some u → w.cell? (a.add (j * d.sz + i)) = some u := by
   intro k
   induction k with
   | zero => intro _; exact ⟨[], rfl, by simp, by simp⟩
   | succ k ih =>
    intro hk
    obtain ⟨l, hll, hlo, hlc⟩ := ih (by omega)
    obtain ⟨cs', hcs, ht'⟩ := hi k (by omega)
    rw [he.1] at hcs
    obtain ⟨p, hp, hop⟩ := he.2 enc w base held n cs' _ ht'
    obtain ⟨_, hcl, hat⟩ := World.cells?_some hcs
    refine ⟨l ++ [p], by simp [hll], ?_, ?_⟩
    ·
     intro x hx
     rcases List.mem_append.1 hx with hx | hx
     ·
      exact hlo x hx
     ·
      rw [List.mem_singleton.1 hx]; exact hop
    ·
     intro j q hq
     by_cases hj : j < l.length
     ·
      rw [List.getElem?_append_left hj] at hq
      exact hlc j q hq
     ·
      have hj2 : j = l.length := by
       have := (List.getElem?_eq_some_iff.1 hq).1
       simp at this; omega
      subst hj2
      rw [List.getElem?_append_right (Nat.le_refl _)] at hq
      simp at hq
      subst hq
      refine ⟨cs', hcl, hp, fun i u hu => ?_⟩
      have hil : i < d.sz := by rw [← hcl]; exact (List.getElem?_eq_some_iff.1 hu).1
      rw [hll, ← Go.Deep.add_add, hat i hil, hu]
  obtain ⟨l, hll, hlo, hlc⟩ := key len (Nat.le_refl _)
  subst hll
  exact ⟨l, ⟨some a, cap, rfl, hl, rfl, by unfold maxLen at hm; omega, fun _ => ⟨a, rfl, hlc⟩⟩, hlo, by omega⟩
/-- A slice argument. -/
theorem opn_arg {α : Type} {P : Program} {t e : TypeId} {d : Kd α} {ok : List α → Prop} (h : Opn P t (Kd.slice e d) ok) {H : Type} {enc : TypeId × Value → H} {w : World} {base : Nat} {held : Bool} {a : Option Addr} {len cap : Nat} {x : DataW H} {p : List MemPlace} (hr : DataW.Trod enc P w base (fun _ => true) held t (.slice a len cap) x p) :
 ∃ l : List α, len = l.length ∧ l.length ≤ cap ∧ d.C w a l.length l ∧ ok l := by
 obtain ⟨fuel, hf⟩ := hr
 obtain ⟨l, ⟨A, c, he, hc, hC⟩, ho⟩ := h.2 enc w base held fuel _ _ hf
 simp [Value.cells] at he
 obtain ⟨rfl, rfl, rfl⟩ := he
 exact ⟨l, rfl, hc, hC, ho⟩

end Go.Proofs.Ytpcohkffbjdmfaa.Pure
