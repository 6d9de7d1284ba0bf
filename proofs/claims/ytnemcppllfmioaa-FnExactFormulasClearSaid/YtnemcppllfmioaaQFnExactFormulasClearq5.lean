/- Lemmas on the printed functions for the law FnExactFormulasClear. -/
import Derived.Test.YtnemcppllfmioaaQFnExactFormulasClearq0
import Derived.Test.YtnemcppllfmioaaQFnExactFormulasClearq1
import Derived.Test.YtnemcppllfmioaaQFnExactFormulasClearq2
import Derived.Test.YtnemcppllfmioaaQFnExactFormulasClearq3
import Derived.Test.YtnemcppllfmioaaQFnExactFormulasClearq4
import Derived.Deep.RegionHeld3
import Derived.BigRegion
import Derived.Deep.Slices
import Derived.Laws.CopyOwn
namespace Go.Proofs.Ytnemcppllfmioaa.Pure
set_option linter.unusedVariables false
set_option linter.unusedSimpArgs false
open Go Go.RowKit Go.Proofs.Ytnemcppllfmioaa.PFnExactFormulasClear Go.Proofs.YtnemcppllfmioaaW.PrintWords Go.Proofs.YtnemcppllfmioaaW.PrintLast Go.Proofs.YtnemcppllfmioaaW.PrintMore

/-! spec_l6fAt: as the print has it, but the cut list has a name of its own -/
def spec_l6fAt.f (k : Nat) (l0_0 : List Int) (a0_1 : Int) (l1 : List Int) (a2 : Int) : Option (Bool) := if (wrap64 (a2 + (l0_0.length : Int))) ≤ (l1.length : Int) then (if 0 ≤ a2 then (if a2 ≤ (wrap64 (a2 + (l0_0.length : Int))) then ((spec_l2Same.f k ((l1.take ((wrap64 (a2 + (l0_0.length : Int))) : Int).toNat).drop (a2 : Int).toNat) l0_0).bind fun t119 => (some t119)) else (none)) else (none)) else (some false)
theorem spec_l6fAt.mono : ∀ a0 a1 a2 a3 k, LeO (spec_l6fAt.f k a0 a1 a2 a3) (spec_l6fAt.f (k + 1) a0 a1 a2 a3) := by
  intro a0 a1 a2 a3 k
  unfold spec_l6fAt.f
  repeat' first
      | (with_reducible exact spec_l2Same.mono _ _ _)
      | (with_reducible exact LeO.refl _)
      | (with_reducible exact LeO.none _)
      | (with_reducible refine LeO.ite ?_ ?_)
      | (with_reducible refine LeO.bind ?_ (fun _ => ?_))
      | exact spec_l2Same.mono _ _ _
      | exact LeO.none _
      | refine LeO.ite ?_ ?_
      | refine LeO.bind ?_ (fun _ => ?_)
set_option maxHeartbeats 8000000 in
set_option maxRecDepth 100000 in
theorem spec_l6fAt.calls (k : Nat) (A0_0 : Option Addr) (c0_0 : Nat) (l0_0 : List Int) (a0_1 : Int) (A1 : Option Addr) (c1 : Nat) (l1 : List Int) (a2 : Int) (r : Bool) (w : World) (hr0_0 : Kd.C (Kd.int .i64) w A0_0 l0_0.length l0_0) (hc0_0 : l0_0.length ≤ c0_0) (hr1 : Kd.C (Kd.int .i64) w A1 l1.length l1) (hc1 : l1.length ≤ c1) (h : spec_l6fAt.f k l0_0 a0_1 l1 a2 = some r) :
    Calls Try.prog 83 #[.agg #[.slice A0_0 l0_0.length c0_0, .int .i64 a0_1], .slice A1 l1.length c1, .int .i64 a2] w fun e w' => e = .returned (.bool r) ∧ Below w.heap.size w w' := by
  have hu55 := Try.underlying55
  have HR0_0 := Aside0.mk hr0_0
  have HC0_0 := Aside0.mk hc0_0
  clear hr0_0 hc0_0
  have HR1 := Aside0.mk hr1
  have HC1 := Aside0.mk hc1
  clear hr1 hc1
  have HB := Aside0.mk (Below.refl w.heap.size w)
  have H : (if (wrap64 (a2 + (l0_0.length : Int))) ≤ (l1.length : Int) then (if 0 ≤ a2 then (if a2 ≤ (wrap64 (a2 + (l0_0.length : Int))) then ((spec_l2Same.f k ((l1.take ((wrap64 (a2 + (l0_0.length : Int))) : Int).toNat).drop (a2 : Int).toNat) l0_0).bind fun t119 => (some t119)) else (none)) else (none)) else (some false)) = some r := h
  clear h
  by_cases c4 : (wrap64 (a2 + (l0_0.length : Int))) ≤ (l1.length : Int)
  · rw [if_pos c4] at H
    have c4b0 : decide ((wrap64 (a2 + (l0_0.length : Int))) ≤ (l1.length : Int)) = true := decide_eq_true c4
    clear c4
    by_cases c5 : 0 ≤ a2
    · rw [if_pos c5] at H
      have c5b0 := eq_true c5
      have c5b1 : decide (0 ≤ a2) = true := decide_eq_true c5
      clear c5
      by_cases c6 : a2 ≤ (wrap64 (a2 + (l0_0.length : Int)))
      · rw [if_pos c6] at H
        have c6b0 := eq_true c6
        have c6b1 : decide (a2 ≤ (wrap64 (a2 + (l0_0.length : Int)))) = true := decide_eq_true c6
        have c7b0 := eq_true (of_decide_eq_true (by first | (with_reducible assumption) | assumption) : (wrap64 (a2 + (l0_0.length : Int))) ≤ (l1.length : Int))
        replace H := Option.bind_eq_some_iff.mp H
        obtain ⟨t119, A80, H⟩ := H
        replace H : (some t119) = some r := H
        have A8 := Aside0.mk A80
        clear A80
        obtain rfl := Option.some.inj H
        go_enter Try.func83, Try.ntmps83
        go_wp2_with (first | ((with_reducible refine gate_dst (N := 3) rfl ?_); refine box_event ?hg (N := 3) ?hd (cs := #[.slice A0_0 l0_0.length c0_0, .int .i64 a0_1]) (t := 55) ?hr ?_; (case hd => rfl); (case hg => rfl); (case hr => first | (go_simp; done) | (go_simp; rfl)); intro gb117 hg w9 hbox hb; have n0_ := Aside0.mk (below_step (by repeat (first | (with_reducible first | exact HB.out | apply below_alloc | apply pw_below_drewN | apply below_drew1) | exact HB.out)) hb); have n1_ := Aside0.mk (hbox); have n2_ := Aside0.mk ((by rw [hg]; exact (below_size (by repeat (first | (with_reducible first | exact HB.out | apply below_alloc | apply pw_below_drewN | apply below_drew1) | exact HB.out))) : w.heap.size ≤ gb117)); have n3_ := Aside0.mk ((by rw [hg]; exact (below_size (by repeat (first | (with_reducible first | exact HB.out | apply below_alloc | apply pw_below_drewN | apply below_drew1) | exact HB.out))) : w.heap.size ≤ gb117)); clear HB; have HB := n0_; have BK117 := n1_; have GW117 := n2_; have GE117 := n3_; clear n0_ n1_ n2_ n3_; clear hb hbox hg; have hcz10_0 : w9.cell? ⟨gb117, 0, none⟩ = some (.slice A0_0 l0_0.length c0_0) := (blk_cell BK117.out 0).trans rfl; have hcz10_1 : w9.cell? ⟨gb117, 1, none⟩ = some (.int .i64 a0_1) := (blk_cell BK117.out 1).trans rfl; have hfz10_0 := blk_frozen BK117.out 0; have hfz10_1 := blk_frozen BK117.out 1; obtain ⟨i011, hi011, _, hsz11, _⟩ := info_parts info3; obtain ⟨A11, hcut11, hA11, hC11⟩ := print_mid_of (P := Try.prog) (Value.int .i64) 0 46 3 .i64 .i64 Try.underlying46 hi011 hsz11 A1 c1 l1 a2 (wrap64 (a2 + (l0_0.length : Int))) (of_decide_eq_true (by first | (with_reducible assumption) | assumption)) (by first | omega | exact of_decide_eq_true (by first | (with_reducible assumption) | assumption)) (of_decide_eq_true (by first | (with_reducible assumption) | assumption)) HC1.out; have HR118 := Aside0.mk (Kd.C_of_reads (h1 := fun _ => rfl) (hA11 _ (Kd.reads_of_C HR1.out))); have HC118 := Aside0.mk hC11; clear hA11 hC11 hi011 hsz11; generalize ((l1.take ((wrap64 (a2 + (l0_0.length : Int))) : Int).toNat).drop (a2 : Int).toNat) = TT11 at hcut11 HR118 HC118 A8) | (go_at_call 102; (with_reducible refine (spec_l2Same.calls k _ _ TT11 _ _ l0_0 t119 _ ?side1 ?side2 ?side3 ?side4 A8.out).mono ?_); (case side1 => repeat (first | exact (Kd.C_below HR118.out HB.out) | (with_reducible refine Kd.C_alloc ?_ _) | (with_reducible refine Kd.C_drewN ?_ _) | (with_reducible refine Kd.C_drew ?_))); (case side2 => exact HC118.out); (case side3 => repeat (first | exact (Kd.C_below HR0_0.out HB.out) | (with_reducible refine Kd.C_alloc ?_ _) | (with_reducible refine Kd.C_drewN ?_ _) | (with_reducible refine Kd.C_drew ?_))); (case side4 => exact HC0_0.out); rintro e w' ⟨rfl, ⟨nd, rfl⟩⟩; (try first | exact ⟨rfl, _, World.drewN_drewN _ _ _⟩ | exact ⟨rfl, _, Eq.trans (World.drewN_drewN _ _ _) (congrArg (World.drewN _) (Nat.add_assoc _ _ _))⟩)))
        repeat (go_quiet (first | ((with_reducible refine gate_dst (N := 3) rfl ?_); refine box_event ?hg (N := 3) ?hd (cs := #[.slice A0_0 l0_0.length c0_0, .int .i64 a0_1]) (t := 55) ?hr ?_; (case hd => rfl); (case hg => rfl); (case hr => first | (go_simp; done) | (go_simp; rfl)); intro gb117 hg w9 hbox hb; have n0_ := Aside0.mk (below_step (by repeat (first | (with_reducible first | exact HB.out | apply below_alloc | apply pw_below_drewN | apply below_drew1) | exact HB.out)) hb); have n1_ := Aside0.mk (hbox); have n2_ := Aside0.mk ((by rw [hg]; exact (below_size (by repeat (first | (with_reducible first | exact HB.out | apply below_alloc | apply pw_below_drewN | apply below_drew1) | exact HB.out))) : w.heap.size ≤ gb117)); have n3_ := Aside0.mk ((by rw [hg]; exact (below_size (by repeat (first | (with_reducible first | exact HB.out | apply below_alloc | apply pw_below_drewN | apply below_drew1) | exact HB.out))) : w.heap.size ≤ gb117)); clear HB; have HB := n0_; have BK117 := n1_; have GW117 := n2_; have GE117 := n3_; clear n0_ n1_ n2_ n3_; clear hb hbox hg; have hcz10_0 : w9.cell? ⟨gb117, 0, none⟩ = some (.slice A0_0 l0_0.length c0_0) := (blk_cell BK117.out 0).trans rfl; have hcz10_1 : w9.cell? ⟨gb117, 1, none⟩ = some (.int .i64 a0_1) := (blk_cell BK117.out 1).trans rfl; have hfz10_0 := blk_frozen BK117.out 0; have hfz10_1 := blk_frozen BK117.out 1; obtain ⟨i011, hi011, _, hsz11, _⟩ := info_parts info3; obtain ⟨A11, hcut11, hA11, hC11⟩ := print_mid_of (P := Try.prog) (Value.int .i64) 0 46 3 .i64 .i64 Try.underlying46 hi011 hsz11 A1 c1 l1 a2 (wrap64 (a2 + (l0_0.length : Int))) (of_decide_eq_true (by first | (with_reducible assumption) | assumption)) (by first | omega | exact of_decide_eq_true (by first | (with_reducible assumption) | assumption)) (of_decide_eq_true (by first | (with_reducible assumption) | assumption)) HC1.out; have HR118 := Aside0.mk (Kd.C_of_reads (h1 := fun _ => rfl) (hA11 _ (Kd.reads_of_C HR1.out))); have HC118 := Aside0.mk hC11; clear hA11 hC11 hi011 hsz11; generalize ((l1.take ((wrap64 (a2 + (l0_0.length : Int))) : Int).toNat).drop (a2 : Int).toNat) = TT11 at hcut11 HR118 HC118 A8) | (go_at_call 102; (with_reducible refine (spec_l2Same.calls k _ _ TT11 _ _ l0_0 t119 _ ?side1 ?side2 ?side3 ?side4 A8.out).mono ?_); (case side1 => repeat (first | exact (Kd.C_below HR118.out HB.out) | (with_reducible refine Kd.C_alloc ?_ _) | (with_reducible refine Kd.C_drewN ?_ _) | (with_reducible refine Kd.C_drew ?_))); (case side2 => exact HC118.out); (case side3 => repeat (first | exact (Kd.C_below HR0_0.out HB.out) | (with_reducible refine Kd.C_alloc ?_ _) | (with_reducible refine Kd.C_drewN ?_ _) | (with_reducible refine Kd.C_drew ?_))); (case side4 => exact HC0_0.out); rintro e w' ⟨rfl, ⟨nd, rfl⟩⟩; (try first | exact ⟨rfl, _, World.drewN_drewN _ _ _⟩ | exact ⟨rfl, _, Eq.trans (World.drewN_drewN _ _ _) (congrArg (World.drewN _) (Nat.add_assoc _ _ _))⟩))); try go_wp2_with (first | ((with_reducible refine gate_dst (N := 3) rfl ?_); refine box_event ?hg (N := 3) ?hd (cs := #[.slice A0_0 l0_0.length c0_0, .int .i64 a0_1]) (t := 55) ?hr ?_; (case hd => rfl); (case hg => rfl); (case hr => first | (go_simp; done) | (go_simp; rfl)); intro gb117 hg w9 hbox hb; have n0_ := Aside0.mk (below_step (by repeat (first | (with_reducible first | exact HB.out | apply below_alloc | apply pw_below_drewN | apply below_drew1) | exact HB.out)) hb); have n1_ := Aside0.mk (hbox); have n2_ := Aside0.mk ((by rw [hg]; exact (below_size (by repeat (first | (with_reducible first | exact HB.out | apply below_alloc | apply pw_below_drewN | apply below_drew1) | exact HB.out))) : w.heap.size ≤ gb117)); have n3_ := Aside0.mk ((by rw [hg]; exact (below_size (by repeat (first | (with_reducible first | exact HB.out | apply below_alloc | apply pw_below_drewN | apply below_drew1) | exact HB.out))) : w.heap.size ≤ gb117)); clear HB; have HB := n0_; have BK117 := n1_; have GW117 := n2_; have GE117 := n3_; clear n0_ n1_ n2_ n3_; clear hb hbox hg; have hcz10_0 : w9.cell? ⟨gb117, 0, none⟩ = some (.slice A0_0 l0_0.length c0_0) := (blk_cell BK117.out 0).trans rfl; have hcz10_1 : w9.cell? ⟨gb117, 1, none⟩ = some (.int .i64 a0_1) := (blk_cell BK117.out 1).trans rfl; have hfz10_0 := blk_frozen BK117.out 0; have hfz10_1 := blk_frozen BK117.out 1; obtain ⟨i011, hi011, _, hsz11, _⟩ := info_parts info3; obtain ⟨A11, hcut11, hA11, hC11⟩ := print_mid_of (P := Try.prog) (Value.int .i64) 0 46 3 .i64 .i64 Try.underlying46 hi011 hsz11 A1 c1 l1 a2 (wrap64 (a2 + (l0_0.length : Int))) (of_decide_eq_true (by first | (with_reducible assumption) | assumption)) (by first | omega | exact of_decide_eq_true (by first | (with_reducible assumption) | assumption)) (of_decide_eq_true (by first | (with_reducible assumption) | assumption)) HC1.out; have HR118 := Aside0.mk (Kd.C_of_reads (h1 := fun _ => rfl) (hA11 _ (Kd.reads_of_C HR1.out))); have HC118 := Aside0.mk hC11; clear hA11 hC11 hi011 hsz11; generalize ((l1.take ((wrap64 (a2 + (l0_0.length : Int))) : Int).toNat).drop (a2 : Int).toNat) = TT11 at hcut11 HR118 HC118 A8) | (go_at_call 102; (with_reducible refine (spec_l2Same.calls k _ _ TT11 _ _ l0_0 t119 _ ?side1 ?side2 ?side3 ?side4 A8.out).mono ?_); (case side1 => repeat (first | exact (Kd.C_below HR118.out HB.out) | (with_reducible refine Kd.C_alloc ?_ _) | (with_reducible refine Kd.C_drewN ?_ _) | (with_reducible refine Kd.C_drew ?_))); (case side2 => exact HC118.out); (case side3 => repeat (first | exact (Kd.C_below HR0_0.out HB.out) | (with_reducible refine Kd.C_alloc ?_ _) | (with_reducible refine Kd.C_drewN ?_ _) | (with_reducible refine Kd.C_drew ?_))); (case side4 => exact HC0_0.out); rintro e w' ⟨rfl, ⟨nd, rfl⟩⟩; (try first | exact ⟨rfl, _, World.drewN_drewN _ _ _⟩ | exact ⟨rfl, _, Eq.trans (World.drewN_drewN _ _ _) (congrArg (World.drewN _) (Nat.add_assoc _ _ _))⟩))))
        go_ret
        exact ⟨by first | rfl | (simp [errW_none, errW_some] <;> rfl) | (simp [*, errW_none, errW_some] <;> rfl), by repeat (first | (with_reducible first | exact HB.out | apply below_alloc | apply pw_below_drewN | apply below_drew1 | refine below_set ?_ GE117.out) | exact HB.out)⟩
      · rw [if_neg c6] at H
        exact absurd H (by simp)
    · rw [if_neg c5] at H
      exact absurd H (by simp)
  · rw [if_neg c4] at H
    have c4b0 : decide ((wrap64 (a2 + (l0_0.length : Int))) ≤ (l1.length : Int)) = false := decide_eq_false c4
    clear c4
    obtain rfl := Option.some.inj H
    go_enter Try.func83, Try.ntmps83
    go_wp2_with (first | ((with_reducible refine gate_dst (N := 3) rfl ?_); refine box_event ?hg (N := 3) ?hd (cs := #[.slice A0_0 l0_0.length c0_0, .int .i64 a0_1]) (t := 55) ?hr ?_; (case hd => rfl); (case hg => rfl); (case hr => first | (go_simp; done) | (go_simp; rfl)); intro gb117 hg w12 hbox hb; have n0_ := Aside0.mk (below_step (by repeat (first | (with_reducible first | exact HB.out | apply below_alloc | apply pw_below_drewN | apply below_drew1) | exact HB.out)) hb); have n1_ := Aside0.mk (hbox); have n2_ := Aside0.mk ((by rw [hg]; exact (below_size (by repeat (first | (with_reducible first | exact HB.out | apply below_alloc | apply pw_below_drewN | apply below_drew1) | exact HB.out))) : w.heap.size ≤ gb117)); have n3_ := Aside0.mk ((by rw [hg]; exact (below_size (by repeat (first | (with_reducible first | exact HB.out | apply below_alloc | apply pw_below_drewN | apply below_drew1) | exact HB.out))) : w.heap.size ≤ gb117)); clear HB; have HB := n0_; have BK117 := n1_; have GW117 := n2_; have GE117 := n3_; clear n0_ n1_ n2_ n3_; clear hb hbox hg; have hcz13_0 : w12.cell? ⟨gb117, 0, none⟩ = some (.slice A0_0 l0_0.length c0_0) := (blk_cell BK117.out 0).trans rfl; have hcz13_1 : w12.cell? ⟨gb117, 1, none⟩ = some (.int .i64 a0_1) := (blk_cell BK117.out 1).trans rfl; have hfz13_0 := blk_frozen BK117.out 0; have hfz13_1 := blk_frozen BK117.out 1))
    repeat (go_quiet (first | ((with_reducible refine gate_dst (N := 3) rfl ?_); refine box_event ?hg (N := 3) ?hd (cs := #[.slice A0_0 l0_0.length c0_0, .int .i64 a0_1]) (t := 55) ?hr ?_; (case hd => rfl); (case hg => rfl); (case hr => first | (go_simp; done) | (go_simp; rfl)); intro gb117 hg w12 hbox hb; have n0_ := Aside0.mk (below_step (by repeat (first | (with_reducible first | exact HB.out | apply below_alloc | apply pw_below_drewN | apply below_drew1) | exact HB.out)) hb); have n1_ := Aside0.mk (hbox); have n2_ := Aside0.mk ((by rw [hg]; exact (below_size (by repeat (first | (with_reducible first | exact HB.out | apply below_alloc | apply pw_below_drewN | apply below_drew1) | exact HB.out))) : w.heap.size ≤ gb117)); have n3_ := Aside0.mk ((by rw [hg]; exact (below_size (by repeat (first | (with_reducible first | exact HB.out | apply below_alloc | apply pw_below_drewN | apply below_drew1) | exact HB.out))) : w.heap.size ≤ gb117)); clear HB; have HB := n0_; have BK117 := n1_; have GW117 := n2_; have GE117 := n3_; clear n0_ n1_ n2_ n3_; clear hb hbox hg; have hcz13_0 : w12.cell? ⟨gb117, 0, none⟩ = some (.slice A0_0 l0_0.length c0_0) := (blk_cell BK117.out 0).trans rfl; have hcz13_1 : w12.cell? ⟨gb117, 1, none⟩ = some (.int .i64 a0_1) := (blk_cell BK117.out 1).trans rfl; have hfz13_0 := blk_frozen BK117.out 0; have hfz13_1 := blk_frozen BK117.out 1)); try go_wp2_with (first | ((with_reducible refine gate_dst (N := 3) rfl ?_); refine box_event ?hg (N := 3) ?hd (cs := #[.slice A0_0 l0_0.length c0_0, .int .i64 a0_1]) (t := 55) ?hr ?_; (case hd => rfl); (case hg => rfl); (case hr => first | (go_simp; done) | (go_simp; rfl)); intro gb117 hg w12 hbox hb; have n0_ := Aside0.mk (below_step (by repeat (first | (with_reducible first | exact HB.out | apply below_alloc | apply pw_below_drewN | apply below_drew1) | exact HB.out)) hb); have n1_ := Aside0.mk (hbox); have n2_ := Aside0.mk ((by rw [hg]; exact (below_size (by repeat (first | (with_reducible first | exact HB.out | apply below_alloc | apply pw_below_drewN | apply below_drew1) | exact HB.out))) : w.heap.size ≤ gb117)); have n3_ := Aside0.mk ((by rw [hg]; exact (below_size (by repeat (first | (with_reducible first | exact HB.out | apply below_alloc | apply pw_below_drewN | apply below_drew1) | exact HB.out))) : w.heap.size ≤ gb117)); clear HB; have HB := n0_; have BK117 := n1_; have GW117 := n2_; have GE117 := n3_; clear n0_ n1_ n2_ n3_; clear hb hbox hg; have hcz13_0 : w12.cell? ⟨gb117, 0, none⟩ = some (.slice A0_0 l0_0.length c0_0) := (blk_cell BK117.out 0).trans rfl; have hcz13_1 : w12.cell? ⟨gb117, 1, none⟩ = some (.int .i64 a0_1) := (blk_cell BK117.out 1).trans rfl; have hfz13_0 := blk_frozen BK117.out 0; have hfz13_1 := blk_frozen BK117.out 1)))
    go_ret
    exact ⟨by first | rfl | (simp [errW_none, errW_some] <;> rfl) | (simp [*, errW_none, errW_some] <;> rfl), by repeat (first | (with_reducible first | exact HB.out | apply below_alloc | apply pw_below_drewN | apply below_drew1 | refine below_set ?_ GE117.out) | exact HB.out)⟩

/-! spec_l6fWays: as the print has it, but the cut list has a name of its own -/
mutual
def spec_l6fWays.l0 : Nat → List (S55) → List Int → List Int → Int → Option (List Int)
  | 0, _, _, _, _ => none
  | k + 1, x0, x1, x6, x7 => if x7 ≥ 0 then (spec_l6fWays.l1 k x0 x1 x6 x7 0) else (some x6)
def spec_l6fWays.l1 : Nat → List (S55) → List Int → List Int → Int → Int → Option (List Int)
  | 0, _, _, _, _, _ => none
  | k + 1, x0, x1, x6, x7, x8 => if x8 < (x0.length : Int) then (if 0 ≤ x8 then ((spec_l6fAt.f k ((rd_T55 x0 x8).f0) ((rd_T55 x0 x8).f1) x1 x7).bind fun t125 => (if t125 = true then (if 0 ≤ x7 then (if x7 < (x6.length : Int) then (if 0 ≤ (wrap64 (x7 + (((rd_T55 x0 x8).f0).length : Int))) then (if (wrap64 (x7 + (((rd_T55 x0 x8).f0).length : Int))) < (x6.length : Int) then (spec_l6fWays.l1 k x0 x1 (x6.set (x7 : Int).toNat (wrap64 ((rd x6 x7) + (rd x6 (wrap64 (x7 + (((rd_T55 x0 x8).f0).length : Int))))))) x7 (wrap64 (x8 + 1))) else (none)) else (none)) else (none)) else (none)) else (spec_l6fWays.l1 k x0 x1 x6 x7 (wrap64 (x8 + 1))))) else (none)) else (spec_l6fWays.l0 k x0 x1 x6 (wrap64 (x7 - 1)))
end
def spec_l6fWays.f (k : Nat) (l0 : List (S55)) (l1 : List Int) : Option (List Int) := if 0 ≤ (wrap64 ((l1.length : Int) + 1)) then (if (wrap64 ((l1.length : Int) + 1) : Int).toNat ≤ 35184372088832 then ((some (List.replicate (wrap64 ((l1.length : Int) + 1) : Int).toNat 0 : List Int)).bind fun y120 => (if 0 ≤ (l1.length : Int) then (if (l1.length : Int) < (y120.length : Int) then (spec_l6fWays.l0 k l0 l1 (y120.set ((l1.length : Int) : Int).toNat 1) (wrap64 ((l1.length : Int) - 1))) else (none)) else (none))) else (none)) else (none)
theorem spec_l6fWays.mono_l : ∀ k, (∀ y0 y1 y2 y3, LeO (spec_l6fWays.l0 k y0 y1 y2 y3) (spec_l6fWays.l0 (k + 1) y0 y1 y2 y3)) ∧ (∀ y0 y1 y2 y3 y4, LeO (spec_l6fWays.l1 k y0 y1 y2 y3 y4) (spec_l6fWays.l1 (k + 1) y0 y1 y2 y3 y4))
  | 0 => ⟨fun _ _ _ _ r h => by simp [spec_l6fWays.l0] at h, fun _ _ _ _ _ r h => by simp [spec_l6fWays.l1] at h⟩
  | k + 1 => by
    obtain ⟨ih0, ih1⟩ := spec_l6fWays.mono_l k
    refine ⟨?_, ?_⟩
    · intro y0 y1 y2 y3
      unfold spec_l6fWays.l0
      repeat' first
      | (with_reducible exact ih0 _ _ _ _)
      | (with_reducible exact ih1 _ _ _ _ _)
      | (with_reducible exact spec_l6fAt.mono _ _ _ _ _)
      | (with_reducible exact LeO.refl _)
      | (with_reducible exact LeO.none _)
      | (with_reducible refine LeO.ite ?_ ?_)
      | (with_reducible refine LeO.bind ?_ (fun _ => ?_))
      | exact ih0 _ _ _ _
      | exact ih1 _ _ _ _ _
      | exact spec_l6fAt.mono _ _ _ _ _
      | exact LeO.none _
      | refine LeO.ite ?_ ?_
      | refine LeO.bind ?_ (fun _ => ?_)
    · intro y0 y1 y2 y3 y4
      unfold spec_l6fWays.l1
      repeat' first
      | (with_reducible exact ih0 _ _ _ _)
      | (with_reducible exact ih1 _ _ _ _ _)
      | (with_reducible exact spec_l6fAt.mono _ _ _ _ _)
      | (with_reducible exact LeO.refl _)
      | (with_reducible exact LeO.none _)
      | (with_reducible refine LeO.ite ?_ ?_)
      | (with_reducible refine LeO.bind ?_ (fun _ => ?_))
      | exact ih0 _ _ _ _
      | exact ih1 _ _ _ _ _
      | exact spec_l6fAt.mono _ _ _ _ _
      | exact LeO.none _
      | refine LeO.ite ?_ ?_
      | refine LeO.bind ?_ (fun _ => ?_)
theorem spec_l6fWays.mono : ∀ a0 a1 k, LeO (spec_l6fWays.f k a0 a1) (spec_l6fWays.f (k + 1) a0 a1) := by
  intro a0 a1 k
  obtain ⟨ih0, ih1⟩ := spec_l6fWays.mono_l k
  unfold spec_l6fWays.f
  repeat' first
      | (with_reducible exact ih0 _ _ _ _)
      | (with_reducible exact ih1 _ _ _ _ _)
      | (with_reducible exact spec_l6fAt.mono _ _ _ _ _)
      | (with_reducible exact LeO.refl _)
      | (with_reducible exact LeO.none _)
      | (with_reducible refine LeO.ite ?_ ?_)
      | (with_reducible refine LeO.bind ?_ (fun _ => ?_))
      | exact ih0 _ _ _ _
      | exact ih1 _ _ _ _ _
      | exact spec_l6fAt.mono _ _ _ _ _
      | exact LeO.none _
      | refine LeO.ite ?_ ?_
      | refine LeO.bind ?_ (fun _ => ?_)
def spec_l6fWays.T11 : Bool × List (List Nat × List Nat) := (true, [([], []), ([], []), ([], []), ([], []), ([2, 3], [2, 3]), ([4], [4]), ([], []), ([], []), ([], []), ([], []), ([8, 9], [8, 9]), ([10], [10]), ([11], [11]), ([12], [12]), ([7, 13], [7, 13]), ([6, 14], [6, 14]), ([15], [15]), ([5, 16], [5, 16]), ([0, 1, 0, 1, 2, 3, 4, 5, 6, 7, 8, 9, 10, 11, 12, 13, 14, 15, 16, 17], [0, 1]), ([18, 17, 0, 1, 2, 3, 4, 5, 6, 7, 8, 9, 10, 11, 12, 13, 14, 15, 16, 17], [17, 18])])
def spec_l6fWays.B11 : List Nat := [0, 0, 0, 0, 12, 28, 0, 0, 0, 0, 768, 1792, 3840, 7936, 16256, 32704, 65472, 131068, 262143, 524287]
theorem spec_l6fWays.tab11 : rtab .any (opsOf Try.f84 11) = spec_l6fWays.T11 := by kernel_rfl
theorem spec_l6fWays.bits11 : waitsOk spec_l6fWays.T11.2 spec_l6fWays.B11 = true := by kernel_rfl
set_option maxHeartbeats 8000000 in
set_option maxRecDepth 100000 in
theorem spec_l6fWays.calls (k : Nat) (A0 : Option Addr) (c0 : Nat) (l0 : List (S55)) (A1 : Option Addr) (c1 : Nat) (l1 : List Int) (r : List Int) (w : World) (hr0 : Kd.C k55 w A0 l0.length l0) (hc0 : l0.length ≤ c0) (hr1 : Kd.C (Kd.int .i64) w A1 l1.length l1) (hc1 : l1.length ≤ c1) (h : spec_l6fWays.f k l0 l1 = some r) :
    Calls Try.prog 84 #[.slice A0 l0.length c0, .slice A1 l1.length c1] w fun e w' => ∃ v0_ : Value, e = .returned (v0_) ∧ Kd.R (Kd.int .i64) 3 w' w.heap.size (fun _ => True) v0_ r ∧ Below w.heap.size w w' := by
  have hu55 := Try.underlying55
  have HR0 := Aside0.mk hr0
  have HC0 := Aside0.mk hc0
  clear hr0 hc0
  have HR1 := Aside0.mk hr1
  have HC1 := Aside0.mk hc1
  clear hr1 hc1
  have HB := Aside0.mk (Below.refl w.heap.size w)
  have H : (if 0 ≤ (wrap64 ((l1.length : Int) + 1)) then (if (wrap64 ((l1.length : Int) + 1) : Int).toNat ≤ 35184372088832 then ((some (List.replicate (wrap64 ((l1.length : Int) + 1) : Int).toNat 0 : List Int)).bind fun y120 => (if 0 ≤ (l1.length : Int) then (if (l1.length : Int) < (y120.length : Int) then (spec_l6fWays.l0 k l0 l1 (y120.set ((l1.length : Int) : Int).toNat 1) (wrap64 ((l1.length : Int) - 1))) else (none)) else (none))) else (none)) else (none)) = some r := h
  clear h
  obtain ⟨ji3, hji3⟩ : ∃ j_ : Int, (wrap64 ((l1.length : Int) + 1)) = j_ := ⟨_, rfl⟩
  replace H : (if 0 ≤ (ji3) then (if (ji3 : Int).toNat ≤ 35184372088832 then ((some (List.replicate (ji3 : Int).toNat 0 : List Int)).bind fun y120 => (if 0 ≤ (l1.length : Int) then (if (l1.length : Int) < (y120.length : Int) then (spec_l6fWays.l0 k l0 l1 (y120.set ((l1.length : Int) : Int).toNat 1) (wrap64 ((l1.length : Int) - 1))) else (none)) else (none))) else (none)) else (none)) = some r := by first | (rw [hji3] at H; exact H) | (simp only [hji3] at H ⊢; exact H)
  have hji3w : (IntKind.i64.wrap ((l1.length : Int) + 1)) = ji3 := (i64_w _).trans hji3
  by_cases c4 : 0 ≤ (ji3)
  · rw [if_pos c4] at H
    have c4b0 := eq_true c4
    have c4b1 : decide (0 ≤ (ji3)) = true := decide_eq_true c4
    clear c4
    by_cases c5 : (ji3 : Int).toNat ≤ 35184372088832
    · rw [if_pos c5] at H
      have c5b0 := eq_true c5
      have c5b1 : decide ((ji3 : Int).toNat ≤ 35184372088832) = true := decide_eq_true c5
      clear c5
      obtain ⟨y120, hy120⟩ : ∃ y_ : List Int, y_ = (List.replicate (ji3 : Int).toNat 0) := ⟨_, rfl⟩
      replace H : (if 0 ≤ (l1.length : Int) then (if (l1.length : Int) < (y120.length : Int) then (spec_l6fWays.l0 k l0 l1 (y120.set ((l1.length : Int) : Int).toNat 1) (wrap64 ((l1.length : Int) - 1))) else (none)) else (none)) = some r := by first | (rw [hy120]; with_reducible exact H) | (have H2_ := (Option.bind_some _ _).symm.trans H; rw [hy120]; with_reducible exact H2_) | (have H2_ := (Option.bind_some _ _).symm.trans H; with_reducible exact H2_) | with_reducible exact H | (rw [hy120]; exact H) | exact H
      have Ny120 := Aside0.mk hy120
      clear hy120
      by_cases c6 : 0 ≤ (l1.length : Int)
      · rw [if_pos c6] at H
        have c6b0 : decide (0 ≤ (l1.length : Int)) = true := decide_eq_true c6
        have c6b1 : decide (0 ≤ l1.length) = true := decide_eq_true (by omega)
        clear c6
        by_cases c7 : (l1.length : Int) < (y120.length : Int)
        · rw [if_pos c7] at H
          have c7b0 : decide ((l1.length : Int) < (y120.length : Int)) = true := decide_eq_true c7
          have c7b1 : decide (l1.length < y120.length) = true := decide_eq_true (Int.ofNat_lt.mp c7)
          clear c7
          obtain ⟨y123, hy123⟩ : ∃ y_ : List Int, y_ = (y120.set ((l1.length : Int) : Int).toNat 1) := ⟨_, rfl⟩
          replace H : (spec_l6fWays.l0 k l0 l1 y123 (wrap64 ((l1.length : Int) - 1))) = some r := by first | (rw [hy123]; with_reducible exact H) | (have H2_ := (Option.bind_some _ _).symm.trans H; rw [hy123]; with_reducible exact H2_) | (have H2_ := (Option.bind_some _ _).symm.trans H; with_reducible exact H2_) | with_reducible exact H | (rw [hy123]; exact H) | exact H
          have Ny123 := Aside0.mk hy123
          clear hy123
          have H' := Aside0.mk H
          clear H
          go_enter Try.func84, Try.ntmps84
          go_wp2_with (first | ((with_reducible refine gate_dst (N := 13) rfl ?_); refine Kd.R_make (Kd.int .i64) _ 3 rfl (N := 13) rfl 46 _ _ rfl ji3 rfl rfl Try.underlying46 (.int .i64 0) 8 info3 rfl (by decide) (by omega) 0 (ok := fun _ => True) (okp := fun _ => True) rfl (fun _ hk => hk) trivial (of_decide_eq_true (by first | (with_reducible assumption) | assumption)) (Nat.le_trans (Nat.mul_le_mul_right _ (of_decide_eq_true (by first | (with_reducible assumption) | assumption) : ji3.toNat ≤ 35184372088832)) (by omega)) (Below.refl _ _) (Nat.le_refl _) ?_; intro v121 w9 ho10 hb hg_ hnew_; clear hg_ hnew_; (first | rw [← Ny120.out] at ho10 | (simp only [Int.reduceToNat] at ho10; rw [← Ny120.out] at ho10)); have n0_ := Aside0.mk (Kd.R_lower ho10 (below_size (by repeat (first | (with_reducible first | exact HB.out | apply below_alloc | apply pw_below_drewN | apply below_drew1) | exact HB.out)))); have n1_ := Aside0.mk (below_step (by repeat (first | (with_reducible first | exact HB.out | apply below_alloc | apply pw_below_drewN | apply below_drew1) | exact HB.out)) hb); clear HB; have HO122 := n0_; have HB := n1_; clear n0_ n1_; clear hb ho10; have p8 : 0 ≤ ((l1.length : Int) : Int) := of_decide_eq_true (by first | (with_reducible assumption) | assumption); have q8 : ((l1.length : Int) : Int) < ((y120.length : Int) : Int) := of_decide_eq_true (by first | (with_reducible assumption) | assumption); obtain ⟨go8, co8, eo8, gb8, gl8, cl8, HG8⟩ := Kd.R_form HO122.out (by omega); (first | cases eo8 | (injection eo8 with ea_ en_ ec_; (first | subst ea_ | (injection ea_ with ea_; subst ea_)); subst ec_; clear en_)); have GB8 := Aside0.mk gb8; have GG8 := Aside0.mk HG8; clear gb8 gl8 HG8; obtain ⟨hx8_0, hf8_0⟩ := Kd.R_celln 0 HO122.out ((l1.length : Int) : Int) p8 q8; replace p8 := eq_true p8; replace q8 := eq_true q8; obtain ⟨hy11_, hz11_⟩ := Kd.R_celln 0 HO122.out ((l1.length : Int) : Int) (of_decide_eq_true (by first | (with_reducible assumption) | assumption)) (of_decide_eq_true (by first | (with_reducible assumption) | assumption)); (try simp only [Go.IntWalk.toNatUp] at hy11_ hz11_); have HP11 := Kd.R_putg HO122.out ((l1.length : Int) : Int) 1) | ((with_reducible refine gate_store (t := 3) (p := 16) rfl ?_); refine store_event (t := 3) (p := 16) (v := ?vo_w12) (w1 := (w9.setCell ⟨go8, ((l1.length : Int) : Int).toNat, none⟩ (.int .i64 1))) ?hg ?ho ?hn ?hr ?_; (case ho => rfl); (case hg => rfl); (case hn => rfl); (case hr => first | (go_simp; done) | (go_simp; rfl)); intro w12 hw; have hg : w9.grownBy w12 (some go8) := (by rw [hw]; exact HP11.2); have hp_ : Kd.R (Kd.int .i64) 3 w12 w.heap.size (fun _ => True) (.slice (some ⟨go8, 0, none⟩) y120.length co8) y123 := (by rw [hw, Ny123.out]; exact HP11.1); clear HP11; have n0_ := Aside0.mk (hp_); have n1_ := Aside0.mk ((by rw [hw]; exact below_set (HB.out) GB8.out : Below w.heap.size w w12)); clear HO122; clear HB; have HO122 := n0_; have HB := n1_; clear n0_ n1_; clear hg hw hp_))
          go_loopg [7] k (fun kq v7 w' => ∃ (x6_1 : List Int) (x7_1 : Int), v7 = .int .i64 x7_1 ∧ Aside0 (spec_l6fWays.l0 kq l0 l1 x6_1 x7_1 = some r) ∧ Aside0 (kq ≤ k) ∧ Aside0 (Kd.R (Kd.int .i64) 3 w' w.heap.size (fun _ => True) (.slice (some ⟨go8, 0, none⟩) y120.length co8) x6_1) ∧ Aside0 (Below w.heap.size w w'))
          case atStart => exact ⟨(y123), (wrap64 ((l1.length : Int) - 1)), (by first | rfl | (simp; done) | (simp [*]; done)), H', ⟨Nat.le_refl _⟩, ⟨by (with_reducible repeat (first | apply Kd.R_alloc | apply Kd.R_drewN | apply Kd.R_drew)); exact HO122.out⟩, ⟨by repeat (first | (with_reducible first | exact HB.out | apply below_alloc | apply pw_below_drewN | apply below_drew1) | exact HB.out)⟩⟩
          case round =>
            clear H'
            try clear c1
            try clear p2
            try clear c4
            try clear c4b0
            try clear c4b1
            try clear c5
            try clear c5b0
            try clear c5b1
            try clear c6
            try clear c6b0
            try clear c6b1
            try clear p6
            try clear c7
            try clear c7b0
            try clear c7b1
            try clear c8
            try clear p8
            try clear q8
            try clear hx8
            try clear hf8
            try clear hx8_0
            try clear p8
            try clear q8
            obtain ⟨x6_1, x7_1, rfl, HA, HK1, HO_6, HB⟩ := hrel
            have hl6_1 := (Kd.R_reads' HO_6.out).1
            rw [hl6_1] at HO_6
            (try simp only [hl6_1])
            cases gk with
            | zero => exact absurd HA.out (by simp [spec_l6fWays.l0])
            | succ k1 =>
              have H := HA.out
              clear HA
              simp only [spec_l6fWays.l0] at H
              by_cases c13 : x7_1 ≥ 0
              · rw [if_pos c13] at H
                have c13b0 : decide (0 ≤ x7_1) = true := decide_eq_true c13
                clear c13
                have H' := Aside0.mk H
                clear H
                go_wp2
                go_loopg [8] k1 (fun kq v8 w' => ∃ (x6_2 : List Int) (x8_2 : Int), v8 = .int .i64 x8_2 ∧ Aside0 (spec_l6fWays.l1 kq l0 l1 x6_2 x7_1 x8_2 = some r) ∧ Aside0 (kq ≤ k1) ∧ Aside0 (Kd.R (Kd.int .i64) 3 w' w.heap.size (fun _ => True) (.slice (some ⟨go8, 0, none⟩) x6_1.length co8) x6_2) ∧ Aside0 (Below w.heap.size w w'))
                case atStart => exact ⟨(x6_1), (0), (by first | rfl | (simp; done) | (simp [*]; done)), H', ⟨Nat.le_refl _⟩, ⟨by (try simp only [hl6_1]); (with_reducible repeat (first | apply Kd.R_alloc | apply Kd.R_drewN | apply Kd.R_drew)); exact HO_6.out⟩, ⟨by repeat (first | (with_reducible first | exact HB.out | apply below_alloc | apply pw_below_drewN | apply below_drew1) | exact HB.out)⟩⟩
                case round =>
                  clear H'
                  try clear c1
                  try clear p2
                  try clear c4
                  try clear c4b0
                  try clear c4b1
                  try clear c5
                  try clear c5b0
                  try clear c5b1
                  try clear c6
                  try clear c6b0
                  try clear c6b1
                  try clear p6
                  try clear c7
                  try clear c7b0
                  try clear c7b1
                  try clear c8
                  try clear p8
                  try clear q8
                  try clear hx8
                  try clear hf8
                  try clear c13
                  try clear c13b0
                  try clear hx8_0
                  try clear p2
                  try clear p6
                  try clear p8
                  try clear q8
                  obtain ⟨x6_2, x8_2, rfl, HA, HK2, HO_6, HB⟩ := hrel
                  have hl6_2 := (Kd.R_reads' HO_6.out).1
                  rw [hl6_2] at HO_6
                  (try simp only [hl6_2])
                  cases gk with
                  | zero => exact absurd HA.out (by simp [spec_l6fWays.l1])
                  | succ k2 =>
                    have H := HA.out
                    clear HA
                    simp only [spec_l6fWays.l1] at H
                    by_cases c14 : x8_2 < (l0.length : Int)
                    · rw [if_pos c14] at H
                      have c14b0 : decide (x8_2 < (l0.length : Int)) = true := decide_eq_true c14
                      clear c14
                      by_cases c15 : 0 ≤ x8_2
                      · rw [if_pos c15] at H
                        have c15b0 : decide (0 ≤ x8_2) = true := decide_eq_true c15
                        clear c15
                        replace H := Option.bind_eq_some_iff.mp H
                        obtain ⟨t125, A160, H⟩ := H
                        replace H : (if t125 = true then (if 0 ≤ x7_1 then (if x7_1 < (x6_2.length : Int) then (if 0 ≤ (wrap64 (x7_1 + (((rd_T55 l0 x8_2).f0).length : Int))) then (if (wrap64 (x7_1 + (((rd_T55 l0 x8_2).f0).length : Int))) < (x6_2.length : Int) then (spec_l6fWays.l1 k2 l0 l1 (x6_2.set (x7_1 : Int).toNat (wrap64 ((rd x6_2 x7_1) + (rd x6_2 (wrap64 (x7_1 + (((rd_T55 l0 x8_2).f0).length : Int))))))) x7_1 (wrap64 (x8_2 + 1))) else (none)) else (none)) else (none)) else (none)) else (spec_l6fWays.l1 k2 l0 l1 x6_2 x7_1 (wrap64 (x8_2 + 1)))) = some r := H
                        have A16 := Aside0.mk A160
                        clear A160
                        by_cases c17 : t125 = true
                        · subst c17
                          have H1 : (if 0 ≤ x7_1 then (if x7_1 < (x6_2.length : Int) then (if 0 ≤ (wrap64 (x7_1 + (((rd_T55 l0 x8_2).f0).length : Int))) then (if (wrap64 (x7_1 + (((rd_T55 l0 x8_2).f0).length : Int))) < (x6_2.length : Int) then (spec_l6fWays.l1 k2 l0 l1 (x6_2.set (x7_1 : Int).toNat (wrap64 ((rd x6_2 x7_1) + (rd x6_2 (wrap64 (x7_1 + (((rd_T55 l0 x8_2).f0).length : Int))))))) x7_1 (wrap64 (x8_2 + 1))) else (none)) else (none)) else (none)) else (none)) = some r := by rw [if_pos rfl] at H; exact H
                          clear H
                          have H := H1
                          clear H1
                          by_cases c18 : 0 ≤ x7_1
                          · rw [if_pos c18] at H
                            have c18b0 : decide (0 ≤ x7_1) = true := decide_eq_true c18
                            clear c18
                            by_cases c19 : x7_1 < (x6_2.length : Int)
                            · rw [if_pos c19] at H
                              have c19b0 : decide (x7_1 < (x6_2.length : Int)) = true := decide_eq_true c19
                              clear c19
                              obtain ⟨ji20, hji20⟩ : ∃ j_ : Int, (wrap64 (x7_1 + (((rd_T55 l0 x8_2).f0).length : Int))) = j_ := ⟨_, rfl⟩
                              replace H : (if 0 ≤ (ji20) then (if (ji20) < (x6_2.length : Int) then (spec_l6fWays.l1 k2 l0 l1 (x6_2.set (x7_1 : Int).toNat (wrap64 ((rd x6_2 x7_1) + (rd x6_2 (ji20))))) x7_1 (wrap64 (x8_2 + 1))) else (none)) else (none)) = some r := by first | (rw [hji20] at H; exact H) | (simp only [hji20] at H ⊢; exact H)
                              (try rw [hji20] at A16)
                              have hji20w : (IntKind.i64.wrap (x7_1 + (((rd_T55 l0 x8_2).f0).length : Int))) = ji20 := (i64_w _).trans hji20
                              by_cases c21 : 0 ≤ (ji20)
                              · rw [if_pos c21] at H
                                have c21b0 : decide (0 ≤ (ji20)) = true := decide_eq_true c21
                                clear c21
                                by_cases c22 : (ji20) < (x6_2.length : Int)
                                · rw [if_pos c22] at H
                                  have c22b0 : decide ((ji20) < (x6_2.length : Int)) = true := decide_eq_true c22
                                  clear c22
                                  obtain ⟨y129, hy129⟩ : ∃ y_ : List Int, y_ = (x6_2.set (x7_1 : Int).toNat (wrap64 ((rd x6_2 x7_1) + (rd x6_2 (ji20))))) := ⟨_, rfl⟩
                                  replace H : (spec_l6fWays.l1 k2 l0 l1 y129 x7_1 (wrap64 (x8_2 + 1))) = some r := by first | (rw [hy129]; with_reducible exact H) | (have H2_ := (Option.bind_some _ _).symm.trans H; rw [hy129]; with_reducible exact H2_) | (have H2_ := (Option.bind_some _ _).symm.trans H; with_reducible exact H2_) | with_reducible exact H | (rw [hy129]; exact H) | exact H
                                  have Ny129 := Aside0.mk hy129
                                  clear hy129
                                  have H' := Aside0.mk H
                                  clear H
                                  have p124 : 0 ≤ (x8_2 : Int) := of_decide_eq_true (by first | (with_reducible assumption) | assumption)
                                  have q124 : x8_2 < (l0.length : Int) := of_decide_eq_true (by first | (with_reducible assumption) | assumption)
                                  obtain ⟨ad124, A124_0, c124_0, e124, hx124_0, hx124_1, hl124_0, hi124_0⟩ := at_T55 HR0.out x8_2 p124 q124
                                  cases e124
                                  replace hx124_0 := (HB.out.cell (World.block_lt_of_cell? w _ hx124_0)).trans hx124_0
                                  replace hx124_1 := (HB.out.cell (World.block_lt_of_cell? w _ hx124_1)).trans hx124_1
                                  have HR124_0 := Aside0.mk hi124_0
                                  have HC124_0 := Aside0.mk hl124_0
                                  clear hi124_0 hl124_0
                                  replace p124 := eq_true p124
                                  replace q124 := eq_true q124
                                  try go_wp2_with (first | ((with_reducible refine gate_callee (f := 83) rfl ?_); refine goesL_ (some 35) rfl rfl Try.func83 (by kernel_rfl) rfl #[.agg #[.slice A124_0 ((rd_T55 l0 x8_2).f0).length c124_0, .int .i64 ((rd_T55 l0 x8_2).f1)], .slice A1 l1.length c1, .int .i64 x7_1] rfl (by (try simp only [List.map_toArray, List.map_cons, List.map_nil]); first | done | rfl | (simp only [List.length_drop, List.length_take]; rfl)) ?_; (with_reducible refine (spec_l6fAt.calls k2 _ _ ((rd_T55 l0 x8_2).f0) ((rd_T55 l0 x8_2).f1) _ _ l1 x7_1 true _ ?side1 ?side2 ?side3 ?side4 A16.out).mono ?_); (case side1 => repeat (first | exact (Kd.C_below HR124_0.out HB.out) | (with_reducible refine Kd.C_alloc ?_ _) | (with_reducible refine Kd.C_drewN ?_ _) | (with_reducible refine Kd.C_drew ?_))); (case side2 => exact HC124_0.out); (case side3 => repeat (first | exact (Kd.C_below HR1.out HB.out) | (with_reducible refine Kd.C_alloc ?_ _) | (with_reducible refine Kd.C_drewN ?_ _) | (with_reducible refine Kd.C_drew ?_))); (case side4 => exact HC1.out); rintro e w24 ⟨rfl, hb⟩; refine ⟨_, rfl, ?_⟩; have n0_ := Aside0.mk (Kd.R_below (by (with_reducible repeat (first | apply Kd.R_alloc | apply Kd.R_drewN | apply Kd.R_drew)); exact HO_6.out) hb); have n1_ := Aside0.mk (below_step (by repeat (first | (with_reducible first | exact HB.out | apply below_alloc | apply pw_below_drewN | apply below_drew1) | exact HB.out)) hb); clear HO_6; clear HB; have HO_6 := n0_; have HB := n1_; clear n0_ n1_; (try clear hb); (try clear hb2); (try clear hk); (try clear hi)))
                                  have n0_ := Aside0.mk (Kd.R_drew HO_6.out)
                                  have n1_ := Aside0.mk (below_drew1 HB.out)
                                  clear HO_6
                                  clear HB
                                  have HO_6 := n0_
                                  have HB := n1_
                                  clear n0_ n1_
                                  have p126 : 0 ≤ (x7_1 : Int) := of_decide_eq_true (by first | (with_reducible assumption) | assumption)
                                  have q126 : x7_1 < (x6_2.length : Int) := of_decide_eq_true (by first | (with_reducible assumption) | assumption)
                                  obtain ⟨ad126, e126, hx126_0⟩ := Kd.at_int (Kd.R_reads' HO_6.out).2.2 x7_1 p126 q126
                                  obtain rfl : (⟨go8, 0, none⟩ : Addr) = ad126 := (by injection e126)
                                  (first | simp only [add_plain] at hx126_0 | simp only [add_at] at hx126_0 | simp only [Addr.add, Nat.zero_add] at hx126_0 | skip)
                                  replace p126 := eq_true p126
                                  replace q126 := eq_true q126
                                  have p127 : 0 ≤ (x8_2 : Int) := of_decide_eq_true (by first | (with_reducible assumption) | assumption)
                                  have q127 : x8_2 < (l0.length : Int) := of_decide_eq_true (by first | (with_reducible assumption) | assumption)
                                  obtain ⟨ad127, A127_0, c127_0, e127, hx127_0, hx127_1, hl127_0, hi127_0⟩ := at_T55 HR0.out x8_2 p127 q127
                                  have hw127_1 := hx127_1
                                  have hw127_0 := hx127_0
                                  obtain rfl : ad124 = ad127 := (by injection e127)
                                  replace hx127_0 := (HB.out.cell (World.block_lt_of_cell? w _ hx127_0)).trans hx127_0
                                  replace hx127_1 := (HB.out.cell (World.block_lt_of_cell? w _ hx127_1)).trans hx127_1
                                  have HR127_0 := Aside0.mk hi127_0
                                  have HC127_0 := Aside0.mk hl127_0
                                  clear hi127_0 hl127_0
                                  replace p127 := eq_true p127
                                  replace q127 := eq_true q127
                                  have p128 : 0 ≤ ((ji20) : Int) := of_decide_eq_true (by first | (with_reducible assumption) | assumption)
                                  have q128 : (ji20) < (x6_2.length : Int) := of_decide_eq_true (by first | (with_reducible assumption) | assumption)
                                  obtain ⟨ad128, e128, hx128_0⟩ := Kd.at_int (Kd.R_reads' HO_6.out).2.2 (ji20) p128 q128
                                  obtain rfl : (⟨go8, 0, none⟩ : Addr) = ad128 := (by injection e128)
                                  (first | simp only [add_plain] at hx128_0 | simp only [add_at] at hx128_0 | simp only [Addr.add, Nat.zero_add] at hx128_0 | skip)
                                  replace p128 := eq_true p128
                                  replace q128 := eq_true q128
                                  have p23 : 0 ≤ (x7_1 : Int) := of_decide_eq_true (by first | (with_reducible assumption) | assumption)
                                  have q23 : (x7_1 : Int) < ((x6_2.length : Int) : Int) := of_decide_eq_true (by first | (with_reducible assumption) | assumption)
                                  obtain ⟨hx23_0, hf23_0⟩ := Kd.R_celln 0 HO_6.out (x7_1 : Int) p23 q23
                                  replace p23 := eq_true p23
                                  replace q23 := eq_true q23
                                  have HP26 := Kd.R_putn HO_6.out (x7_1 : Int) (wrap64 ((rd x6_2 x7_1) + (rd x6_2 (ji20))))
                                  rw [← Ny129.out] at HP26
                                  have HQ26 := Aside0.mk HP26
                                  clear HP26
                                  refine start_ (n := 20) (S := fun w' => w'.cell? ⟨go8, (x7_1).toNat, none⟩ = some (.int .i64 (rd x6_2 x7_1)) ∧ w'.cell? (ad124.add ((x8_2).toNat * 2)) = some (.slice A127_0 ((rd_T55 l0 x8_2).f0).length c127_0) ∧ w'.cell? ⟨(ad124.add ((x8_2).toNat * 2)).block, (ad124.add ((x8_2).toNat * 2)).off + 1, none⟩ = some (.int .i64 ((rd_T55 l0 x8_2).f1)) ∧ w'.cell? ⟨go8, ((ji20)).toNat, none⟩ = some (.int .i64 (rd x6_2 (ji20)))) (ds := [19]) #[false, false, false, false, false, false, false, false, false, false, false, false, false, false, false, false, false, false, false, false] (by kernel_rfl) rfl rfl ⟨hx126_0, ((HB.out.cell (World.block_lt_of_cell? w _ hw127_0)).trans hw127_0), ((HB.out.cell (World.block_lt_of_cell? w _ hw127_1)).trans hw127_1), hx128_0⟩ (fun hHeld => ?_); refine with_tabW spec_l6fWays.tab11 spec_l6fWays.bits11 (fun HT_ HW_ => ?_)
                                  generalize w24.drew = w25 at HO_6 HB HQ26 HR127_0 hf23_0 hx126_0 hx127_0 hx127_1 hx128_0 hx23_0 hHeld ⊢
                                  refine pure_ (i := 0) (N := some 36) (v := ?_) (a' := ?_) #[true, false, false, false, false, false, false, false, false, false, false, false, false, false, false, false, false, false, false, false] rfl rfl (any_of HT_.out (by kernel_rfl)) (fun _ _ _ h => h) (Or.inl ⟨by rfl, ?_⟩) ?_ ?_
                                  rotate_left
                                  · intro w'
                                    go_simp
                                    with_reducible rfl
                                  rotate_left
                                  · simp only [Act.put, List.setIfInBounds_toArray, List.set_cons_zero, List.set_cons_succ, i64_w, i32_w]
                                    rfl
                                  refine pure_ (i := 1) (N := some 37) (v := ?_) (a' := ?_) #[true, true, false, false, false, false, false, false, false, false, false, false, false, false, false, false, false, false, false, false] rfl rfl (any_of HT_.out (by kernel_rfl)) (fun _ _ _ h => h) (Or.inl ⟨by rfl, ?_⟩) ?_ ?_
                                  rotate_left
                                  · intro w'
                                    go_simp
                                    with_reducible rfl
                                  rotate_left
                                  · simp only [Act.put, List.setIfInBounds_toArray, List.set_cons_zero, List.set_cons_succ, i64_w, i32_w]
                                    rfl
                                  refine pure_ (i := 2) (N := some 38) (v := ?_) (a' := ?_) #[true, true, true, false, false, false, false, false, false, false, false, false, false, false, false, false, false, false, false, false] rfl rfl (any_of HT_.out (by kernel_rfl)) (fun _ _ _ h => h) (Or.inl ⟨by rfl, ?_⟩) ?_ ?_
                                  rotate_left
                                  · intro w'
                                    go_simp
                                    with_reducible rfl
                                  rotate_left
                                  · simp only [Act.put, List.setIfInBounds_toArray, List.set_cons_zero, List.set_cons_succ, i64_w, i32_w]
                                    rfl
                                  refine pure_ (i := 3) (N := some 39) (v := ?_) (a' := ?_) #[true, true, true, true, false, false, false, false, false, false, false, false, false, false, false, false, false, false, false, false] rfl rfl (any_of HT_.out (by kernel_rfl)) (fun _ _ _ h => h) (Or.inl ⟨by rfl, ?_⟩) ?_ ?_
                                  rotate_left
                                  · intro w'
                                    go_simp
                                    with_reducible rfl
                                  rotate_left
                                  · simp only [Act.put, List.setIfInBounds_toArray, List.set_cons_zero, List.set_cons_succ, i64_w, i32_w]
                                    rfl
                                  refine pure_ (i := 4) (N := some 40) (v := ?_) (a' := ?_) #[true, true, true, true, true, false, false, false, false, false, false, false, false, false, false, false, false, false, false, false] rfl rfl (any_of HT_.out (by kernel_rfl)) (fun _ _ _ h => h) (Or.inl ⟨by rfl, ?_⟩) ?_ ?_
                                  rotate_left
                                  · intro w'
                                    go_simp
                                    with_reducible rfl
                                  rotate_left
                                  · simp only [Act.put, List.setIfInBounds_toArray, List.set_cons_zero, List.set_cons_succ, i64_w, i32_w]
                                    rfl
                                  refine pure_ (i := 6) (N := some 42) (v := ?_) (a' := ?_) #[true, true, true, true, true, false, true, false, false, false, false, false, false, false, false, false, false, false, false, false] rfl rfl (any_of HT_.out (by kernel_rfl)) (fun _ _ _ h => h) (Or.inl ⟨by rfl, ?_⟩) ?_ ?_
                                  rotate_left
                                  · intro w'
                                    go_simp
                                    with_reducible rfl
                                  rotate_left
                                  · simp only [Act.put, List.setIfInBounds_toArray, List.set_cons_zero, List.set_cons_succ, i64_w, i32_w]
                                    rfl
                                  refine pure_ (i := 7) (N := some 43) (v := ?_) (a' := ?_) #[true, true, true, true, true, false, true, true, false, false, false, false, false, false, false, false, false, false, false, false] rfl rfl (any_of HT_.out (by kernel_rfl)) (fun _ _ _ h => h) (Or.inl ⟨by rfl, ?_⟩) ?_ ?_
                                  rotate_left
                                  · intro w'
                                    go_simp
                                    with_reducible rfl
                                  rotate_left
                                  · simp only [Act.put, List.setIfInBounds_toArray, List.set_cons_zero, List.set_cons_succ, i64_w, i32_w]
                                    rfl
                                  refine pure_ (i := 8) (N := some 44) (v := ?_) (a' := ?_) #[true, true, true, true, true, false, true, true, true, false, false, false, false, false, false, false, false, false, false, false] rfl rfl (any_of HT_.out (by kernel_rfl)) (fun _ _ _ h => h) (Or.inl ⟨by rfl, ?_⟩) ?_ ?_
                                  rotate_left
                                  · intro w'
                                    go_simp
                                    with_reducible rfl
                                  rotate_left
                                  · simp only [Act.put, List.setIfInBounds_toArray, List.set_cons_zero, List.set_cons_succ, i64_w, i32_w]
                                    rfl
                                  refine pure_ (i := 9) (N := some 45) (v := ?_) (a' := ?_) #[true, true, true, true, true, false, true, true, true, true, false, false, false, false, false, false, false, false, false, false] rfl rfl (any_of HT_.out (by kernel_rfl)) (fun _ _ _ h => h) (Or.inl ⟨by rfl, ?_⟩) ?_ ?_
                                  rotate_left
                                  · intro w'
                                    go_simp
                                    with_reducible rfl
                                  rotate_left
                                  · simp only [Act.put, List.setIfInBounds_toArray, List.set_cons_zero, List.set_cons_succ, i64_w, i32_w]
                                    rfl
                                  refine pure_ (i := 10) (N := some 46) (v := ?_) (a' := ?_) #[true, true, true, true, true, false, true, true, true, true, true, false, false, false, false, false, false, false, false, false] rfl rfl (any_of HT_.out (by kernel_rfl)) (fun _ _ _ h => h) (Or.inl ⟨by rfl, ?_⟩) ?_ ?_
                                  rotate_left
                                  · intro w'
                                    go_simp
                                    with_reducible rfl
                                  rotate_left
                                  · simp only [Act.put, List.setIfInBounds_toArray, List.set_cons_zero, List.set_cons_succ, i64_w, i32_w]
                                    rfl
                                  refine pure_ (i := 11) (N := some 47) (v := ?_) (a' := ?_) #[true, true, true, true, true, false, true, true, true, true, true, true, false, false, false, false, false, false, false, false] rfl rfl (any_of HT_.out (by kernel_rfl)) (fun _ _ _ h => h) (Or.inl ⟨by rfl, ?_⟩) ?_ ?_
                                  rotate_left
                                  · intro w'
                                    go_simp
                                    with_reducible rfl
                                  rotate_left
                                  · simp only [Act.put, List.setIfInBounds_toArray, List.set_cons_zero, List.set_cons_succ, i64_w, i32_w]
                                    rfl
                                  refine take_ (i := 5) (N := some 41) (v := ?_) (a' := ?_) #[true, true, true, true, true, true, true, true, true, true, true, true, false, false, false, false, false, false, false, false] rfl rfl (take_ofW HT_.out HW_.out (by kernel_rfl)) (fun _ _ _ h => h) (Or.inl ⟨by rfl, ?_⟩) hHeld ?_ ?_
                                  rotate_left
                                  · rintro w' ⟨s0, s1, s2, s3⟩
                                    go_simp
                                    with_reducible rfl
                                  rotate_left
                                  · simp only [Act.put, List.setIfInBounds_toArray, List.set_cons_zero, List.set_cons_succ, i64_w, i32_w]
                                    rfl
                                  refine take_ (i := 12) (N := some 48) (v := ?_) (a' := ?_) #[true, true, true, true, true, true, true, true, true, true, true, true, true, false, false, false, false, false, false, false] rfl rfl (take_ofW HT_.out HW_.out (by kernel_rfl)) (fun _ _ _ h => h) (Or.inl ⟨by rfl, ?_⟩) hHeld ?_ ?_
                                  rotate_left
                                  · rintro w' ⟨s0, s1, s2, s3⟩
                                    go_simp
                                    with_reducible rfl
                                  rotate_left
                                  · simp only [Act.put, List.setIfInBounds_toArray, List.set_cons_zero, List.set_cons_succ, i64_w, i32_w]
                                    rfl
                                  refine pure_ (i := 13) (N := some 49) (v := ?_) (a' := ?_) #[true, true, true, true, true, true, true, true, true, true, true, true, true, true, false, false, false, false, false, false] rfl rfl (any_of HT_.out (by kernel_rfl)) (fun _ _ _ h => h) (Or.inl ⟨by rfl, ?_⟩) ?_ ?_
                                  rotate_left
                                  · intro w'
                                    go_simp
                                    with_reducible rfl
                                  rotate_left
                                  · simp only [Act.put, List.setIfInBounds_toArray, List.set_cons_zero, List.set_cons_succ, i64_w, i32_w]
                                    rfl
                                  refine pure_ (i := 14) (N := some 50) (v := ?_) (a' := ?_) #[true, true, true, true, true, true, true, true, true, true, true, true, true, true, true, false, false, false, false, false] rfl rfl (any_of HT_.out (by kernel_rfl)) (fun _ _ _ h => h) (Or.inl ⟨by rfl, ?_⟩) ?_ ?_
                                  rotate_left
                                  · intro w'
                                    go_simp
                                    with_reducible rfl
                                  rotate_left
                                  · simp only [Act.put, List.setIfInBounds_toArray, List.set_cons_zero, List.set_cons_succ, i64_w, i32_w]
                                    rfl
                                  refine pure_ (i := 15) (N := some 51) (v := ?_) (a' := ?_) #[true, true, true, true, true, true, true, true, true, true, true, true, true, true, true, true, false, false, false, false] rfl rfl (any_of HT_.out (by kernel_rfl)) (fun _ _ _ h => h) (Or.inl ⟨by rfl, ?_⟩) ?_ ?_
                                  rotate_left
                                  · intro w'
                                    go_simp
                                    with_reducible rfl
                                  rotate_left
                                  · simp only [Act.put, List.setIfInBounds_toArray, List.set_cons_zero, List.set_cons_succ, i64_w, i32_w]
                                    rfl
                                  refine take_ (i := 16) (N := some 52) (v := ?_) (a' := ?_) #[true, true, true, true, true, true, true, true, true, true, true, true, true, true, true, true, true, false, false, false] rfl rfl (take_ofW HT_.out HW_.out (by kernel_rfl)) (fun _ _ _ h => h) (Or.inl ⟨by rfl, ?_⟩) hHeld ?_ ?_
                                  rotate_left
                                  · rintro w' ⟨s0, s1, s2, s3⟩
                                    go_simp
                                    with_reducible rfl
                                  rotate_left
                                  · simp only [Act.put, List.setIfInBounds_toArray, List.set_cons_zero, List.set_cons_succ, i64_w, i32_w]
                                    rfl
                                  refine pure_ (i := 17) (N := some 53) (v := ?_) (a' := ?_) #[true, true, true, true, true, true, true, true, true, true, true, true, true, true, true, true, true, true, false, false] rfl rfl (any_of HT_.out (by kernel_rfl)) (fun _ _ _ h => h) (Or.inl ⟨by rfl, ?_⟩) ?_ ?_
                                  rotate_left
                                  · intro w'
                                    go_simp
                                    with_reducible rfl
                                  rotate_left
                                  · simp only [Act.put, List.setIfInBounds_toArray, List.set_cons_zero, List.set_cons_succ, i64_w, i32_w]
                                    rfl
                                  refine pure_ (i := 18) (N := some 54) (v := ?_) (a' := ?_) #[true, true, true, true, true, true, true, true, true, true, true, true, true, true, true, true, true, true, true, false] rfl rfl (any_of HT_.out (by kernel_rfl)) (fun _ _ _ h => h) (Or.inl ⟨by rfl, ?_⟩) ?_ ?_
                                  rotate_left
                                  · intro w'
                                    go_simp
                                    with_reducible rfl
                                  rotate_left
                                  · simp only [Act.put, List.setIfInBounds_toArray, List.set_cons_zero, List.set_cons_succ, i64_w, i32_w]
                                    rfl
                                  refine last_ (i := 19) (N := none) #[true, true, true, true, true, true, true, true, true, true, true, true, true, true, true, true, true, true, true, true] rfl rfl (one_of HT_.out (by kernel_rfl)) (by decide) (fun K hK => ?_)
                                  refine skip_ (w1 := ?_) (by rfl) rfl ?_ ?_
                                  rotate_left
                                  · go_simp
                                    rfl
                                  refine hK.out _ _ ?_
                                  clear hK K
                                  refine done_ (done_of HT_.out (by kernel_rfl)) ?_
                                  try go_wp2
                                  (try simp only [← hl6_2])
                                  go_roundg k2
                                  case measure => have := HK1.out; have := HK2.out; omega
                                  case rel => exact ⟨(y129), (wrap64 (x8_2 + 1)), (by first | rfl | (simp; done) | (simp [*]; done)), H', ⟨by have := HK1.out; have := HK2.out; omega⟩, ⟨by (try simp only [hl6_1]); (try simp only [hl6_2]); (with_reducible repeat (first | apply Kd.R_alloc | apply Kd.R_drewN | apply Kd.R_drew)); exact HQ26.out⟩, ⟨by repeat (first | (with_reducible first | exact HB.out | apply below_alloc | apply pw_below_drewN | apply below_drew1 | refine below_set ?_ GB8.out) | exact HB.out)⟩⟩
                                · rw [if_neg c22] at H
                                  exact absurd H (by simp)
                              · rw [if_neg c21] at H
                                exact absurd H (by simp)
                            · rw [if_neg c19] at H
                              exact absurd H (by simp)
                          · rw [if_neg c18] at H
                            exact absurd H (by simp)
                        · replace c17 := Bool.eq_false_iff.mpr c17
                          subst c17
                          have H1 : (spec_l6fWays.l1 k2 l0 l1 x6_2 x7_1 (wrap64 (x8_2 + 1))) = some r := by rw [if_neg (show ¬ (false = true) by decide)] at H; exact H
                          clear H
                          have H := H1
                          clear H1
                          have H' := Aside0.mk H
                          clear H
                          have p124 : 0 ≤ (x8_2 : Int) := of_decide_eq_true (by first | (with_reducible assumption) | assumption)
                          have q124 : x8_2 < (l0.length : Int) := of_decide_eq_true (by first | (with_reducible assumption) | assumption)
                          obtain ⟨ad124, A124_0, c124_0, e124, hx124_0, hx124_1, hl124_0, hi124_0⟩ := at_T55 HR0.out x8_2 p124 q124
                          cases e124
                          replace hx124_0 := (HB.out.cell (World.block_lt_of_cell? w _ hx124_0)).trans hx124_0
                          replace hx124_1 := (HB.out.cell (World.block_lt_of_cell? w _ hx124_1)).trans hx124_1
                          have HR124_0 := Aside0.mk hi124_0
                          have HC124_0 := Aside0.mk hl124_0
                          clear hi124_0 hl124_0
                          replace p124 := eq_true p124
                          replace q124 := eq_true q124
                          go_wp2_with (first | ((with_reducible refine gate_callee (f := 83) rfl ?_); refine goesL_ (some 35) rfl rfl Try.func83 (by kernel_rfl) rfl #[.agg #[.slice A124_0 ((rd_T55 l0 x8_2).f0).length c124_0, .int .i64 ((rd_T55 l0 x8_2).f1)], .slice A1 l1.length c1, .int .i64 x7_1] rfl (by (try simp only [List.map_toArray, List.map_cons, List.map_nil]); first | done | rfl | (simp only [List.length_drop, List.length_take]; rfl)) ?_; (with_reducible refine (spec_l6fAt.calls k2 _ _ ((rd_T55 l0 x8_2).f0) ((rd_T55 l0 x8_2).f1) _ _ l1 x7_1 false _ ?side1 ?side2 ?side3 ?side4 A16.out).mono ?_); (case side1 => repeat (first | exact (Kd.C_below HR124_0.out HB.out) | (with_reducible refine Kd.C_alloc ?_ _) | (with_reducible refine Kd.C_drewN ?_ _) | (with_reducible refine Kd.C_drew ?_))); (case side2 => exact HC124_0.out); (case side3 => repeat (first | exact (Kd.C_below HR1.out HB.out) | (with_reducible refine Kd.C_alloc ?_ _) | (with_reducible refine Kd.C_drewN ?_ _) | (with_reducible refine Kd.C_drew ?_))); (case side4 => exact HC1.out); rintro e w27 ⟨rfl, hb⟩; refine ⟨_, rfl, ?_⟩; have n0_ := Aside0.mk (Kd.R_below (by (with_reducible repeat (first | apply Kd.R_alloc | apply Kd.R_drewN | apply Kd.R_drew)); exact HO_6.out) hb); have n1_ := Aside0.mk (below_step (by repeat (first | (with_reducible first | exact HB.out | apply below_alloc | apply pw_below_drewN | apply below_drew1) | exact HB.out)) hb); clear HO_6; clear HB; have HO_6 := n0_; have HB := n1_; clear n0_ n1_; (try clear hb); (try clear hb2); (try clear hk); (try clear hi)))
                          (try simp only [← hl6_2])
                          go_roundg k2
                          case measure => have := HK1.out; have := HK2.out; omega
                          case rel => exact ⟨(x6_2), (wrap64 (x8_2 + 1)), (by first | rfl | (simp; done) | (simp [*]; done)), H', ⟨by have := HK1.out; have := HK2.out; omega⟩, ⟨by (try simp only [hl6_1]); (try simp only [hl6_2]); (with_reducible repeat (first | apply Kd.R_alloc | apply Kd.R_drewN | apply Kd.R_drew)); exact HO_6.out⟩, ⟨by repeat (first | (with_reducible first | exact HB.out | apply below_alloc | apply pw_below_drewN | apply below_drew1) | exact HB.out)⟩⟩
                      · rw [if_neg c15] at H
                        exact absurd H (by simp)
                    · rw [if_neg c14] at H
                      have c14b0 : decide (x8_2 < (l0.length : Int)) = false := decide_eq_false c14
                      clear c14
                      have H' := Aside0.mk H
                      clear H
                      go_wp2
                      (try simp only [← hl6_1, ← hl6_2])
                      go_roundg k2
                      case measure => have := HK1.out; have := HK2.out; omega
                      case rel => exact ⟨(x6_2), (wrap64 (x7_1 - 1)), (by first | rfl | (simp; done) | (simp [*]; done)), H', ⟨by have := HK1.out; have := HK2.out; omega⟩, ⟨by (try simp only [hl6_1]); (try simp only [hl6_2]); (with_reducible repeat (first | apply Kd.R_alloc | apply Kd.R_drewN | apply Kd.R_drew)); exact HO_6.out⟩, ⟨by repeat (first | (with_reducible first | exact HB.out | apply below_alloc | apply pw_below_drewN | apply below_drew1) | exact HB.out)⟩⟩
              · rw [if_neg c13] at H
                have c13b0 : decide (0 ≤ x7_1) = false := decide_eq_false c13
                clear c13
                obtain rfl := Option.some.inj H
                go_wp2
                go_ret
                exact ⟨_, by first | rfl | (simp [errW_none, errW_some] <;> rfl) | (simp only [← hji3]; first | rfl | (simp [errW_none, errW_some] <;> rfl)) | (simp [*, errW_none, errW_some] <;> rfl), by (with_reducible repeat (first | apply Kd.R_alloc | apply Kd.R_drewN | apply Kd.R_drew)); exact HO_6.out, by repeat (first | (with_reducible first | exact HB.out | apply below_alloc | apply pw_below_drewN | apply below_drew1) | exact HB.out)⟩
        · rw [if_neg c7] at H
          exact absurd H (by simp)
      · rw [if_neg c6] at H
        exact absurd H (by simp)
    · rw [if_neg c5] at H
      exact absurd H (by simp)
  · rw [if_neg c4] at H
    exact absurd H (by simp)

theorem spec_l2Same_ev (a b : List Int) (hl : a.length ≤ 1000000000000) : Ev (fun k => spec_l2Same.f k a b) (a == b) := by
  unfold spec_l2Same.f
  by_cases hlen : (a.length : Int) = (b.length : Int)
  · refine Ev.pos hlen ?_
    have := Ev.over (0 : Int) a (fun k (_ : Unit) i => spec_l2Same.l0 k a b i) (fun _ rest => rest == b.drop (a.length - rest.length)) (fun _ _ => True) (by
      intro s _
      refine Ev.succ ?_
      simp only [spec_l2Same.l0]
      refine Ev.eqr (Ev.neg (by omega) (Ev.now _)) ?_
      have : b.drop a.length = [] := List.drop_eq_nil_of_le (by omega)
      simp [this]) (by
      intro s i rest _ hi hdr ih
      have hrl : rest.length + 1 + i = a.length := by
        have := congrArg List.length hdr
        simp at this; omega
      refine Ev.succ ?_
      simp only [spec_l2Same.l0]
      rw [w64 (by omega) (by omega)]
      refine Ev.pos (by omega) (Ev.pos (by omega) (Ev.pos (by omega) ?_))
      have hra : rd a (i : Int) = a.getD i 0 := rfl
      have hrb : rd b (i : Int) = b.getD i 0 := rfl
      rw [hra, hrb]
      have e2 : a.length - (a.getD i 0 :: rest).length = i := by simp; omega
      have e1 : a.length - rest.length = i + 1 := by omega
      have e3 : b.drop i = b.getD i 0 :: b.drop (i + 1) := by
        rw [List.drop_eq_getElem_cons (by omega), List.getD_eq_getElem?_getD, List.getElem?_eq_getElem (by omega)]; rfl
      rw [e2, e3]
      have ih := ih () trivial
      rw [e1] at ih
      by_cases h : a.getD i 0 = b.getD i 0
      · refine Ev.pos h (Ev.eqr ih ?_)
        rw [h, Bool.eq_iff_iff]; simp
      · refine Ev.neg h (Ev.eqr (Ev.now _) ?_)
        symm; rw [beq_eq_false_iff_ne]; intro hc; exact h (List.cons.inj hc).1) 0 () (Nat.zero_le _) trivial
    simpa using this
  · refine Ev.neg hlen (Ev.eqr (Ev.now _) ?_)
    symm; rw [beq_eq_false_iff_ne]; rintro rfl; exact hlen rfl
theorem spec_l6fOne_ev (x : S55) (hl : x.f0.length ≤ 1000000000000) : Ev (fun k => spec_l6fOne.f k x.f0 x.f1) (fOk x) := by
  unfold spec_l6fOne.f
  have := Ev.over (0 : Int) x.f0 (fun k (_ : Unit) i => spec_l6fOne.l0 k i x.f0 x.f1) (fun _ rest => rest.all (inR (-7) 7) && (decide (1 ≤ (x.f0.length : Int) ∧ (x.f0.length : Int) ≤ 5) && decide (1 ≤ x.f1 ∧ x.f1 ≤ 9))) (fun _ _ => True) (by
    intro s _
    refine Ev.succ ?_
    simp only [spec_l6fOne.l0, List.all_nil, Bool.true_and]
    refine Ev.neg (by omega) (Ev.conb (spec_l6In_eq _ _ _) ?_)
    by_cases h : 1 ≤ (x.f0.length : Int) ∧ (x.f0.length : Int) ≤ 5
    · rw [decide_eq_true h]
      exact Ev.pos rfl (Ev.conb (spec_l6In_eq _ _ _) (Ev.now _))
    · rw [decide_eq_false h]
      exact Ev.neg (by simp) (Ev.now _)) (by
    intro s i rest _ hi _ ih
    refine Ev.succ ?_
    simp only [spec_l6fOne.l0, List.all_cons]
    rw [w64 (by omega) (by omega)]
    refine Ev.pos (by omega) (Ev.pos (by omega) (Ev.conb (spec_l6In_eq _ _ _) ?_))
    have hrd : rd x.f0 (i : Int) = x.f0.getD i 0 := rfl
    rw [hrd]
    show Ev _ ((decide (-7 ≤ x.f0.getD i 0 ∧ x.f0.getD i 0 ≤ 7) && _) && _)
    by_cases h : -7 ≤ x.f0.getD i 0 ∧ x.f0.getD i 0 ≤ 7
    · rw [decide_eq_true h]
      exact Ev.pos rfl (ih () trivial)
    · rw [decide_eq_false h]
      exact Ev.neg (by simp) (Ev.now _)) 0 () (Nat.zero_le _) trivial
  refine Ev.eqr (by simpa using this) ?_
  unfold fOk
  cases x.f0.all (inR (-7) 7) <;> simp
theorem spec_FormulasValid_ev (l : List S55) (hll : l.length ≤ 1000000000000) (hl : ∀ x ∈ l, x.f0.length ≤ 1000000000000) : Ev (fun k => spec_FormulasValid.f k l) (fsOk l) := by
  unfold spec_FormulasValid.f
  have := Ev.over z55 l (fun k (_ : Unit) i => spec_FormulasValid.l0 k l i) (fun _ rest => goF (l.take (l.length - rest.length)) rest && decide ((l.length : Int) ≤ 8)) (fun _ _ => True) (by
    intro s _
    refine Ev.succ ?_
    simp only [spec_FormulasValid.l0, goF, Bool.true_and]
    exact Ev.neg (by omega) (Ev.now _)) (by
    intro s i rest _ hi hdr ih
    have hrl : rest.length + 1 + i = l.length := by
      have := congrArg List.length hdr
      simp at this; omega
    have hm : l.getD i z55 ∈ l := by
      rw [List.getD_eq_getElem?_getD, List.getElem?_eq_getElem hi]; exact List.getElem_mem hi
    have hx := hl _ hm
    refine Ev.succ ?_
    simp only [spec_FormulasValid.l0]
    refine Ev.pos (by omega) (Ev.pos (by omega) ?_)
    have hrd : rd_T55 l (i : Int) = l.getD i z55 := rfl
    have e2 : l.length - (l.getD i z55 :: rest).length = i := by simp; omega
    have e1 : l.length - rest.length = i + 1 := by omega
    have ih := ih () trivial
    rw [e1, take_rd l i hi] at ih
    rw [e2]
    rw [← hrd] at hx ih ⊢
    simp only [goF]
    refine Ev.bind (spec_l6fOne_ev _ hx) ?_
    cases hf : fOk (rd_T55 l (i : Int))
    · exact Ev.neg (by simp) (Ev.now _)
    refine Ev.pos rfl ?_
    simp only [Bool.true_and]
    have htl : (l.take i).length = i := by simp; omega
    have inner := Ev.over z55 (l.take i) (fun k (_ : Unit) j => spec_FormulasValid.l1 k l i j) (fun _ rest' => (!(rest'.any (fun y => y.f0 == (rd_T55 l (i : Int)).f0)) && goF (l.take i ++ [rd_T55 l (i : Int)]) rest) && decide ((l.length : Int) ≤ 8)) (fun _ _ => True) (by
      intro s _
      refine Ev.succ ?_
      simp only [spec_FormulasValid.l1]
      refine Ev.neg (by omega) ?_
      rw [w64 (by omega) (by omega)]
      simpa using ih) (by
      intro s j rest' _ hj _ ih'
      have hjm : (l.take i).getD j z55 ∈ l := by
        rw [List.getD_eq_getElem?_getD, List.getElem?_eq_getElem hj]; exact List.mem_of_mem_take (List.getElem_mem hj)
      have hxj := hl _ hjm
      refine Ev.succ ?_
      simp only [spec_FormulasValid.l1]
      refine Ev.pos (by omega) (Ev.pos (by omega) (Ev.pos (by omega) (Ev.pos (by omega) (Ev.pos (by omega) ?_))))
      have hrd' : rd_T55 l (j : Int) = (l.take i).getD j z55 := by
        rw [List.getD_eq_getElem?_getD, List.getElem?_take, if_pos (by omega)]
        simp [rd_T55]
      rw [hrd']
      generalize (l.take i).getD j z55 = y at hxj
      refine Ev.bind (spec_l2Same_ev _ _ hx) ?_
      simp only [List.any_cons]
      have hcm : (y.f0 == (rd_T55 l (i : Int)).f0) = ((rd_T55 l (i : Int)).f0 == y.f0) := by rw [Bool.eq_iff_iff, beq_iff_eq, beq_iff_eq]; exact eq_comm
      rw [hcm]
      cases (rd_T55 l (i : Int)).f0 == y.f0
      · refine Ev.neg (by simp) ?_
        rw [w64 (by omega) (by omega)]
        simpa using ih' () trivial
      · exact Ev.pos rfl (Ev.now _)) 0 () (Nat.zero_le _) trivial
    simpa using inner) 0 () (Nat.zero_le _) trivial
  refine Ev.eqr (by simpa using this) ?_
  unfold fsOk
  rw [Bool.and_comm]

/-! the reference's counting of readings -/
theorem spec_l6fAt_ev (f : S55) (S : List Int) (i : Nat) (hi : i ≤ S.length) (hS : S.length ≤ 1000000) (hf : f.f0.length ≤ 1000000) : Ev (fun k => spec_l6fAt.f k f.f0 f.f1 S (i : Int)) (isPre f.f0 (S.drop i)) := by
  unfold spec_l6fAt.f isPre
  rw [w64 (by omega) (by omega)]
  by_cases h : (i : Int) + (f.f0.length : Int) ≤ (S.length : Int)
  · rw [decide_eq_true (by rw [List.length_drop]; omega : f.f0.length ≤ (S.drop i).length), Bool.true_and]
    refine Ev.pos h (Ev.pos (by omega) (Ev.pos (by omega) ?_))
    have e : ((S.take ((i : Int) + (f.f0.length : Int)).toNat).drop (i : Int).toNat) = (S.drop i).take f.f0.length := by
      have e1 : ((i : Int) + (f.f0.length : Int)).toNat = i + f.f0.length := by omega
      rw [e1, Int.toNat_natCast, List.drop_take]
      congr 1; omega
    rw [e]
    exact Ev.bind (spec_l2Same_ev _ _ (by rw [List.length_take, List.length_drop]; omega)) (Ev.now _)
  · rw [decide_eq_false (by rw [List.length_drop]; omega : ¬ f.f0.length ≤ (S.drop i).length)]
    exact Ev.neg h (Ev.now _)

theorem getD_set_self {y : List Int} {i : Nat} (v : Int) (h : i < y.length) : (y.set i v).getD i 0 = v := by
  rw [List.getD_eq_getElem?_getD, List.getElem?_set_self h]; rfl
theorem getD_set_other {y : List Int} {i j : Nat} (v : Int) (h : i ≠ j) : (y.set i v).getD j 0 = y.getD j 0 := by
  rw [List.getD_eq_getElem?_getD, List.getElem?_set_ne h, ← List.getD_eq_getElem?_getD]
theorem ext_getD {a b : List Int} (h : a.length = b.length) (h' : ∀ j, j < a.length → a.getD j 0 = b.getD j 0) : a = b := by
  apply List.ext_getElem h
  intro j h1 h2
  have := h' j h1
  rw [List.getD_eq_getElem?_getD, List.getD_eq_getElem?_getD, List.getElem?_eq_getElem h1, List.getElem?_eq_getElem h2] at this
  exact this

def mA (g : List Int → Int) (s : List Int) : List S55 → Int → Int
  | [], a => a
  | f :: fs, a => if isPre f.f0 s = true then mA g s fs (wrap64 (a + g (s.drop f.f0.length))) else mA g s fs a
theorem wrap_range (x : Int) : -9223372036854775808 ≤ wrap64 x ∧ wrap64 x ≤ 9223372036854775807 := by unfold wrap64; omega
theorem outW_f0 (o : OutC) (f : S55) (r : OutC) : (outW o f r).f0 = wrap64 (o.f0 + r.f0) := by unfold outW; split <;> rfl
theorem rdA_many (rec : List Int → OutC) (s : List Int) : ∀ (L : List S55) (acc : OutC), -9223372036854775808 ≤ acc.f0 → acc.f0 ≤ 9223372036854775807 → (rdA rec s L acc).f0 = mA (fun t => (rec t).f0) s L acc.f0
  | [], acc, _, _ => rfl
  | f :: fs, acc, h, h' => by
    simp only [rdA, mA]
    by_cases hp : isPre f.f0 s = true
    · rw [if_pos hp, if_pos hp]
      by_cases hz : (rec (s.drop f.f0.length)).f0 = 0
      · rw [if_pos hz, rdA_many rec s fs acc h h', hz, Int.add_zero, w64 h h']
      · rw [if_neg hz]
        have := wrap_range (acc.f0 + (rec (s.drop f.f0.length)).f0)
        rw [rdA_many rec s fs _ (by rw [outW_f0]; exact this.1) (by rw [outW_f0]; exact this.2), outW_f0]
    · rw [if_neg hp, if_neg hp, rdA_many rec s fs acc h h']
theorem spec_l6fWays_inner {L : List S55} {S : List Int} (hL : ∀ f ∈ L, 1 ≤ f.f0.length ∧ f.f0.length ≤ 5) (hll : L.length ≤ 8) (hS : S.length ≤ 23) (i : Nat) (hi : i < S.length) (R : List Int)
    (W : Nat → Int) (hW : ∀ j, W j = (rdO L (S.drop j)).f0)
    (hnext : ∀ y : List Int, y.length = S.length + 1 → (∀ j, i ≤ j → j ≤ S.length → y.getD j 0 = W j) → (∀ j, j < i → y.getD j 0 = 0) → Ev (fun k => spec_l6fWays.l0 k L S y ((i : Int) - 1)) R)
    (y : List Int) (hy : y.length = S.length + 1) (hy1 : ∀ j, i < j → j ≤ S.length → y.getD j 0 = W j) (hy2 : ∀ j, j ≤ i → y.getD j 0 = 0) :
    Ev (fun k => spec_l6fWays.l1 k L S y (i : Int) 0) R := by
  have hWi : W i = mA (fun t => (rdO L t).f0) (S.drop i) L 0 := by
    rw [hW, rdO_step (fun f hf => (hL f hf).1) (by intro h; have := congrArg List.length h; rw [List.length_drop, List.length_nil] at this; omega)]
    exact rdA_many _ _ L _ (by simp) (by simp)
  have := Ev.over z55 L (fun k (y : List Int) q => spec_l6fWays.l1 k L S y (i : Int) q) (fun _ _ => R) (fun q y => y.length = S.length + 1 ∧ (∀ j, i < j → j ≤ S.length → y.getD j 0 = W j) ∧ (∀ j, j < i → y.getD j 0 = 0) ∧ mA (fun t => (rdO L t).f0) (S.drop i) (L.drop q) (y.getD i 0) = W i) (by
    intro y ⟨h1, h2, h3, h4⟩
    rw [List.drop_length] at h4
    simp only [mA] at h4
    refine Ev.succ ?_
    simp only [spec_l6fWays.l1]
    refine Ev.neg (by omega) ?_
    rw [w64 (by omega) (by omega)]
    exact hnext y h1 (fun j hj hj' => by rcases Nat.lt_or_eq_of_le hj with h | h; exact h2 j h hj'; rw [← h]; exact h4) h3) (by
    intro y q rest ⟨h1, h2, h3, h4⟩ hq hdr ih
    have hm : L.getD q z55 ∈ L := by
      rw [List.getD_eq_getElem?_getD, List.getElem?_eq_getElem hq]; exact List.getElem_mem hq
    have hf := hL _ hm
    have hrest : rest = L.drop (q + 1) := by
      rw [List.drop_eq_getElem_cons hq] at hdr
      exact ((List.cons.inj hdr).2).symm
    rw [hdr] at h4
    simp only [mA] at h4
    refine Ev.succ ?_
    simp only [spec_l6fWays.l1]
    have hrd : rd_T55 L (q : Int) = L.getD q z55 := rfl
    rw [hrd]
    rw [w64 (x := (q : Int) + 1) (by omega) (by omega)]
    generalize L.getD q z55 = f at hf h4
    refine Ev.pos (by omega) (Ev.pos (by omega) (Ev.bind (spec_l6fAt_ev f S i (by omega) (by omega) (by omega)) ?_))
    cases hp : isPre f.f0 (S.drop i)
    · rw [if_neg (by rw [hp]; simp)] at h4
      refine Ev.neg (by simp) (ih y ⟨h1, h2, h3, ?_⟩)
      rw [← hrest]; exact h4
    · rw [if_pos hp] at h4
      have hl := isPre_len hp
      rw [List.length_drop] at hl
      rw [w64 (x := (i : Int) + (f.f0.length : Int)) (by omega) (by omega)]
      refine Ev.pos rfl (Ev.pos (by omega) (Ev.pos (by omega) (Ev.pos (by omega) (Ev.pos (by omega) ?_))))
      have e1 : rd y (i : Int) = y.getD i 0 := rfl
      have e2 : rd y ((i : Int) + (f.f0.length : Int)) = W (i + f.f0.length) := by
        have : ((i : Int) + (f.f0.length : Int)).toNat = i + f.f0.length := by omega
        unfold rd
        rw [this]; exact h2 _ (by omega) (by omega)
      rw [e1, e2, Int.toNat_natCast]
      refine ih _ ⟨by rw [List.length_set]; exact h1, fun j hj hj' => by rw [getD_set_other _ (by omega)]; exact h2 j hj hj', fun j hj => by rw [getD_set_other _ (by omega)]; exact h3 j hj, ?_⟩
      rw [getD_set_self _ (by omega), ← hrest, hW (i + f.f0.length), ← List.drop_drop]
      exact h4) 0 y (Nat.zero_le _) ⟨hy, hy1, fun j hj => hy2 j (by omega), by rw [hy2 i (Nat.le_refl _), List.drop_zero]; exact hWi.symm⟩
  simpa using this
def waysL (L : List S55) (S : List Int) : List Int := (List.range (S.length + 1)).map (fun j => (rdO L (S.drop j)).f0)
theorem waysL_get {L : List S55} {S : List Int} {j : Nat} (h : j ≤ S.length) : (waysL L S).getD j 0 = (rdO L (S.drop j)).f0 := by
  unfold waysL
  rw [List.getD_eq_getElem?_getD, List.getElem?_map, List.getElem?_range (by omega)]; rfl
theorem waysL_len {L : List S55} {S : List Int} : (waysL L S).length = S.length + 1 := by unfold waysL; simp
theorem spec_l6fWays_ev {L : List S55} {S : List Int} (hL : ∀ f ∈ L, 1 ≤ f.f0.length ∧ f.f0.length ≤ 5) (hll : L.length ≤ 8) (hS : S.length ≤ 23) : Ev (fun k => spec_l6fWays.f k L S) (waysL L S) := by
  have key : ∀ m, m ≤ S.length → ∀ y : List Int, y.length = S.length + 1 → (∀ j, m ≤ j → j ≤ S.length → y.getD j 0 = (rdO L (S.drop j)).f0) → (∀ j, j < m → y.getD j 0 = 0) → Ev (fun k => spec_l6fWays.l0 k L S y ((m : Int) - 1)) (waysL L S) := by
    intro m
    induction m with
    | zero =>
      intro _ y h1 h2 _
      refine Ev.succ ?_
      simp only [spec_l6fWays.l0]
      refine Ev.neg (by omega) (Ev.eqr (Ev.now _) ?_)
      refine ext_getD (by rw [h1, waysL_len]) (fun j hj => ?_)
      rw [h2 j (Nat.zero_le _) (by omega), waysL_get (by omega)]
    | succ m ih =>
      intro hm y h1 h2 h3
      refine Ev.succ ?_
      simp only [spec_l6fWays.l0]
      have e : ((m + 1 : Nat) : Int) - 1 = (m : Int) := by omega
      rw [e]
      refine Ev.pos (by omega) ?_
      exact spec_l6fWays_inner hL hll hS m (by omega) _ (fun j => (rdO L (S.drop j)).f0) (fun _ => rfl) (fun y h1 h2 h3 => ih (by omega) y h1 h2 h3) y h1 (fun j hj hj' => h2 j (by omega) hj') (fun j hj => h3 j (by omega))
  unfold spec_l6fWays.f
  rw [w64 (x := (S.length : Int) + 1) (by omega) (by omega), w64 (x := (S.length : Int) - 1) (by omega) (by omega)]
  have e : ((S.length : Int) + 1).toNat = S.length + 1 := by omega
  rw [e]
  refine Ev.pos (by omega) (Ev.pos (by omega) (Ev.someb (Ev.pos (by omega) (Ev.pos (by rw [List.length_replicate]; omega) ?_))))
  rw [Int.toNat_natCast]
  refine key S.length (Nat.le_refl _) _ (by simp) (fun j hj hj' => ?_) (fun j hj => ?_)
  · obtain rfl : j = S.length := by omega
    rw [getD_set_self _ (by simp), List.drop_length, rdO_nil]
  · rw [getD_set_other _ (by omega), List.getD_eq_getElem?_getD, List.getElem?_replicate, if_pos (by omega)]; rfl

/-! fewer formulas have no more readings -/
def cnt (g : List Int → Int) (s : List Int) : List S55 → Int
  | [] => 0
  | f :: fs => (if isPre f.f0 s = true then g (s.drop f.f0.length) else 0) + cnt g s fs
theorem cnt_nn {g : List Int → Int} {s : List Int} : ∀ l : List S55, (∀ f ∈ l, isPre f.f0 s = true → 0 ≤ g (s.drop f.f0.length)) → 0 ≤ cnt g s l
  | [], _ => Int.le_refl _
  | f :: fs, h => by
    simp only [cnt]
    have h1 := cnt_nn fs (fun x hx => h x (List.mem_cons_of_mem _ hx))
    by_cases hp : isPre f.f0 s = true
    · rw [if_pos hp]; have := h f List.mem_cons_self hp; omega
    · rw [if_neg hp]; omega
theorem mA_cnt {g : List Int → Int} {s : List Int} : ∀ (l : List S55) (a : Int), (∀ f ∈ l, isPre f.f0 s = true → 0 ≤ g (s.drop f.f0.length)) → 0 ≤ a → a + cnt g s l ≤ 4611686018427387904 → mA g s l a = a + cnt g s l
  | [], a, _, _, _ => by simp [mA, cnt]
  | f :: fs, a, h, h0, hb => by
    simp only [mA, cnt] at hb ⊢
    have h' := fun x hx => h x (List.mem_cons_of_mem _ hx)
    have hn := cnt_nn fs h'
    by_cases hp : isPre f.f0 s = true
    · rw [if_pos hp] at hb ⊢
      rw [if_pos hp]
      have := h f List.mem_cons_self hp
      rw [w64 (by omega) (by omega), mA_cnt fs _ h' (by omega) (by omega)]
      omega
    · rw [if_neg hp] at hb ⊢
      rw [if_neg hp, mA_cnt fs _ h' h0 (by omega)]
      omega
theorem cnt_sum {g : List Int → Int} {s : List Int} : ∀ l : List S55, (∀ f ∈ l, isPre f.f0 s = true → g (s.drop f.f0.length) ≤ ((2 ^ (s.length - f.f0.length) : Nat) : Int)) → cnt g s l ≤ (sumB s l : Int)
  | [], _ => by simp [cnt, sumB]
  | f :: fs, h => by
    simp only [cnt, sumB]
    have h1 := cnt_sum fs (fun x hx => h x (List.mem_cons_of_mem _ hx))
    rw [Int.natCast_add]
    by_cases hp : isPre f.f0 s = true
    · rw [if_pos hp, if_pos hp]; have := h f List.mem_cons_self hp; omega
    · rw [if_neg hp, if_neg hp]; omega
theorem cnt_sub {g g' : List Int → Int} {s : List Int} {l' l : List S55} (hs : l'.Sublist l) (h : ∀ f ∈ l, isPre f.f0 s = true → 0 ≤ g (s.drop f.f0.length)) (h' : ∀ f ∈ l, isPre f.f0 s = true → g' (s.drop f.f0.length) ≤ g (s.drop f.f0.length)) : cnt g' s l' ≤ cnt g s l := by
  induction hs with
  | slnil => exact Int.le_refl _
  | @cons l1 l2 a hs ih =>
    have := ih (fun x hx => h x (List.mem_cons_of_mem _ hx)) (fun x hx => h' x (List.mem_cons_of_mem _ hx))
    simp only [cnt]
    by_cases hp : isPre a.f0 s = true
    · rw [if_pos hp]; have := h a List.mem_cons_self hp; omega
    · rw [if_neg hp]; omega
  | @cons_cons l1 l2 a hs ih =>
    have := ih (fun x hx => h x (List.mem_cons_of_mem _ hx)) (fun x hx => h' x (List.mem_cons_of_mem _ hx))
    simp only [cnt]
    by_cases hp : isPre a.f0 s = true
    · rw [if_pos hp, if_pos hp]; have := h' a List.mem_cons_self hp; omega
    · rw [if_neg hp, if_neg hp]; omega
theorem rdO_cnt {L : List S55} (hv : FsV L) {s : List Int} (hl : s.length ≤ 23) (hs : s ≠ []) : (rdO L s).f0 = cnt (fun t => (rdO L t).f0) s L := by
  have hb : ∀ f ∈ L, isPre f.f0 s = true → OBd (s.length - f.f0.length) (rdO L (s.drop f.f0.length)) := fun f _ hp => rdO_bd hv _ _ (by rw [List.length_drop]) (by have := isPre_len hp; omega)
  have e : (rdO L s).f0 = mA (fun t => (rdO L t).f0) s L 0 := by
    rw [rdO_step (fun f hf => (hv.one f hf).1) hs]
    exact rdA_many _ _ _ _ (by decide) (by decide)
  have h1 := cnt_sum (g := fun t => (rdO L t).f0) (s := s) L (fun f hf hp => (hb f hf hp).hi)
  have h2 := sumB_le (s := s) (fun f hf => (hv.one f hf).1) hv.pw
  have h3 : 2 ^ s.length ≤ 2 ^ 23 := Nat.pow_le_pow_right (by decide) hl
  have h4 : (2 : Nat) ^ 23 = 8388608 := by decide
  rw [e, mA_cnt L 0 (fun f hf hp => (hb f hf hp).lo) (by omega) (by omega)]
  omega
theorem many_mono {L L' : List S55} (hv : FsV L) (hv' : FsV L') (hsub : L'.Sublist L) : ∀ (n : Nat) (s : List Int), s.length ≤ n → s.length ≤ 23 → (rdO L' s).f0 ≤ (rdO L s).f0
  | 0, s, h, _ => by
    obtain rfl : s = [] := List.eq_nil_of_length_eq_zero (by omega)
    rw [rdO_nil, rdO_nil]; exact Int.le_refl _
  | n + 1, s, h, h' => by
    by_cases hs : s = []
    · subst hs; rw [rdO_nil, rdO_nil]; exact Int.le_refl _
    rw [rdO_cnt hv h' hs, rdO_cnt hv' h' hs]
    refine cnt_sub hsub (fun f hf hp => ?_) (fun f hf hp => ?_)
    · exact (rdO_bd hv _ (s.drop f.f0.length) rfl (by rw [List.length_drop]; omega)).lo
    · have := (hv.one f hf).1
      have := isPre_len hp
      exact many_mono hv hv' hsub n _ (by rw [List.length_drop]; omega) (by rw [List.length_drop]; omega)
theorem FsV.sub {L L' : List S55} (hv : FsV L) (hsub : L'.Sublist L) : FsV L' :=
  ⟨Nat.le_trans hsub.length_le hv.len, fun f hf => hv.one f (hsub.subset hf), fun f hf => hv.wt f (hsub.subset hf), hv.pw.sublist hsub⟩
theorem goF_of : ∀ (l acc : List S55), (∀ x ∈ l, fOk x = true) → (∀ a ∈ acc, ∀ b ∈ l, a.f0 ≠ b.f0) → l.Pairwise (fun a b => a.f0 ≠ b.f0) → goF acc l = true
  | [], _, _, _, _ => rfl
  | x :: xs, acc, h1, h2, h3 => by
    obtain ⟨p1, p2⟩ := List.pairwise_cons.1 h3
    simp only [goF, Bool.and_eq_true, Bool.not_eq_true', List.any_eq_false, beq_iff_eq]
    refine ⟨h1 x List.mem_cons_self, fun a ha => h2 a ha x List.mem_cons_self, goF_of xs (acc ++ [x]) (fun y hy => h1 y (List.mem_cons_of_mem _ hy)) (fun a ha b hb => ?_) p2⟩
    rcases List.mem_append.1 ha with ha | ha
    · exact h2 a ha b (List.mem_cons_of_mem _ hb)
    · rw [List.mem_singleton.1 ha]; exact p1 b hb
theorem fsOk_sub {L L' : List S55} (h : fsOk L = true) (hsub : L'.Sublist L) : fsOk L' = true := by
  have hv := FsV.of h
  have h8 := hsub.length_le
  have h9 := hv.len
  unfold fsOk
  rw [decide_eq_true (by omega), Bool.true_and]
  exact goF_of L' [] (fun x hx => fsOk_all h x (hsub.subset hx)) (by simp) (hv.pw.sublist hsub)

/-! two readings of one list: plain -/
def flatF : List S55 → List Int
  | [] => []
  | f :: r => f.f0 ++ flatF r
theorem cnt_mem {g : List Int → Int} {s : List Int} : ∀ (l : List S55) {f : S55}, (∀ f ∈ l, isPre f.f0 s = true → 0 ≤ g (s.drop f.f0.length)) → f ∈ l → isPre f.f0 s = true → g (s.drop f.f0.length) ≤ cnt g s l
  | x :: xs, f, h, hf, hp => by
    have h' := fun y hy => h y (List.mem_cons_of_mem _ hy)
    have hn := cnt_nn xs h'
    simp only [cnt]
    rcases List.mem_cons.1 hf with rfl | hf
    · rw [if_pos hp]; omega
    · have := cnt_mem xs h' hf hp
      by_cases hx : isPre x.f0 s = true
      · rw [if_pos hx]; have := h x List.mem_cons_self hx; omega
      · rw [if_neg hx]; omega
theorem cnt_two {g : List Int → Int} {s : List Int} : ∀ (l : List S55) {f f' : S55}, (∀ f ∈ l, isPre f.f0 s = true → 0 ≤ g (s.drop f.f0.length)) → f ∈ l → f' ∈ l → f.f0 ≠ f'.f0 → isPre f.f0 s = true → isPre f'.f0 s = true → g (s.drop f.f0.length) + g (s.drop f'.f0.length) ≤ cnt g s l
  | x :: xs, f, f', h, hf, hf', hne, hp, hp' => by
    have h' := fun y hy => h y (List.mem_cons_of_mem _ hy)
    simp only [cnt]
    rcases List.mem_cons.1 hf with rfl | hfx
    · rcases List.mem_cons.1 hf' with rfl | hfy
      · exact absurd rfl hne
      · have := cnt_mem xs h' hfy hp'
        rw [if_pos hp]; omega
    · rcases List.mem_cons.1 hf' with rfl | hfy
      · have := cnt_mem xs h' hfx hp
        rw [if_pos hp']; omega
      · have := cnt_two xs h' hfx hfy hne hp hp'
        by_cases hx : isPre x.f0 s = true
        · rw [if_pos hx]; have := h x List.mem_cons_self hx; omega
        · rw [if_neg hx]; omega
theorem cnt_pos {g : List Int → Int} {s : List Int} : ∀ (l : List S55), cnt g s l ≠ 0 → ∃ f ∈ l, isPre f.f0 s = true ∧ g (s.drop f.f0.length) ≠ 0
  | [], h => absurd rfl h
  | x :: xs, h => by
    simp only [cnt] at h
    by_cases hx : isPre x.f0 s = true
    · rw [if_pos hx] at h
      by_cases hz : g (s.drop x.f0.length) = 0
      · obtain ⟨f, hf, h1⟩ := cnt_pos (g := g) (s := s) xs (by omega)
        exact ⟨f, List.mem_cons_of_mem _ hf, h1⟩
      · exact ⟨x, List.mem_cons_self, hx, hz⟩
    · rw [if_neg hx] at h
      obtain ⟨f, hf, h1⟩ := cnt_pos (g := g) (s := s) xs (by omega)
      exact ⟨f, List.mem_cons_of_mem _ hf, h1⟩
theorem cnt_gt {g : List Int → Int} {s : List Int} : ∀ (l : List S55), (∀ f ∈ l, isPre f.f0 s = true → 0 ≤ g (s.drop f.f0.length)) → l.Pairwise (fun a b => a.f0 ≠ b.f0) → 1 < cnt g s l →
    (∃ f ∈ l, isPre f.f0 s = true ∧ 1 < g (s.drop f.f0.length)) ∨ (∃ f ∈ l, ∃ f' ∈ l, f.f0 ≠ f'.f0 ∧ isPre f.f0 s = true ∧ isPre f'.f0 s = true ∧ g (s.drop f.f0.length) ≠ 0 ∧ g (s.drop f'.f0.length) ≠ 0)
  | [], _, _, h => absurd h (by simp [cnt])
  | x :: xs, h0, hp, h => by
    obtain ⟨p1, p2⟩ := List.pairwise_cons.1 hp
    have h' := fun y hy => h0 y (List.mem_cons_of_mem _ hy)
    have tl : 1 < cnt g s xs → (∃ f ∈ x :: xs, isPre f.f0 s = true ∧ 1 < g (s.drop f.f0.length)) ∨ (∃ f ∈ x :: xs, ∃ f' ∈ x :: xs, f.f0 ≠ f'.f0 ∧ isPre f.f0 s = true ∧ isPre f'.f0 s = true ∧ g (s.drop f.f0.length) ≠ 0 ∧ g (s.drop f'.f0.length) ≠ 0) := by
      intro h
      rcases cnt_gt xs h' p2 h with ⟨f, hf, h1⟩ | ⟨f, hf, f', hf', h1⟩
      · exact .inl ⟨f, List.mem_cons_of_mem _ hf, h1⟩
      · exact .inr ⟨f, List.mem_cons_of_mem _ hf, f', List.mem_cons_of_mem _ hf', h1⟩
    simp only [cnt] at h
    by_cases hx : isPre x.f0 s = true
    · rw [if_pos hx] at h
      have hv := h0 x List.mem_cons_self hx
      by_cases h1 : 1 < g (s.drop x.f0.length)
      · exact .inl ⟨x, List.mem_cons_self, hx, h1⟩
      by_cases hz : g (s.drop x.f0.length) = 0
      · exact tl (by omega)
      · obtain ⟨f, hf, h2, h3⟩ := cnt_pos (g := g) (s := s) xs (by omega)
        exact .inr ⟨x, List.mem_cons_self, f, List.mem_cons_of_mem _ hf, p1 f hf, hx, h2, hz, h3⟩
    · rw [if_neg hx] at h
      exact tl (by omega)
theorem nn_of {L : List S55} (hv : FsV L) {s : List Int} (hs : s.length ≤ 23) : ∀ f ∈ L, isPre f.f0 s = true → 0 ≤ (rdO L (s.drop f.f0.length)).f0 :=
  fun f _ _ => (rdO_bd hv _ (s.drop f.f0.length) rfl (by rw [List.length_drop]; omega)).lo
theorem isPre_split {p s : List Int} (h : isPre p s = true) : p ++ s.drop p.length = s := by
  have := isPre_take h
  conv => rhs; rw [← List.take_append_drop p.length s, this]
theorem has_reading {L : List S55} (hv : FsV L) : ∀ (n : Nat) (s : List Int), s.length ≤ n → s.length ≤ 23 → (rdO L s).f0 ≠ 0 → ∃ r : List S55, (∀ f ∈ r, f ∈ L) ∧ flatF r = s
  | 0, s, h, _, _ => ⟨[], by simp, by rw [List.eq_nil_of_length_eq_zero (show s.length = 0 by omega)]; rfl⟩
  | n + 1, s, h, h', hz => by
    by_cases hs : s = []
    · exact ⟨[], by simp, by rw [hs]; rfl⟩
    rw [rdO_cnt hv h' hs] at hz
    obtain ⟨f, hf, hp, h1⟩ := cnt_pos L hz
    have := (hv.one f hf).1
    have := isPre_len hp
    obtain ⟨r, h2, h3⟩ := has_reading hv n (s.drop f.f0.length) (by rw [List.length_drop]; omega) (by rw [List.length_drop]; omega) h1
    refine ⟨f :: r, fun x hx => ?_, ?_⟩
    · rcases List.mem_cons.1 hx with rfl | hx
      · exact hf
      · exact h2 x hx
    · simp only [flatF]; rw [h3]; exact isPre_split hp
theorem isPre_app (p s : List Int) : isPre p (p ++ s) = true := by unfold isPre; simp
theorem reading_many {L : List S55} (hv : FsV L) : ∀ r : List S55, (∀ f ∈ r, f ∈ L) → (flatF r).length ≤ 23 → 1 ≤ (rdO L (flatF r)).f0
  | [], _, _ => by simp only [flatF]; rw [rdO_nil]; decide
  | f :: r, h, hl => by
    have hf := h f List.mem_cons_self
    have h1 := (hv.one f hf).1
    simp only [flatF] at hl ⊢
    have hl' := hl
    rw [List.length_append] at hl'
    have ih := reading_many hv r (fun x hx => h x (List.mem_cons_of_mem _ hx)) (by omega)
    rw [rdO_cnt hv hl (by intro e; have := congrArg List.length e; rw [List.length_append, List.length_nil] at this; omega)]
    have := cnt_mem (g := fun t => (rdO L t).f0) L (nn_of hv hl) hf (isPre_app f.f0 (flatF r))
    simp only [List.drop_left] at this
    omega
theorem diverge {L : List S55} (hv : FsV L) : ∀ (n : Nat) (s : List Int), s.length ≤ n → s.length ≤ 23 → 1 < (rdO L s).f0 → ∃ f ∈ L, ∃ f' ∈ L, f.f0 ≠ f'.f0 ∧ ∃ r r' : List S55, (∀ x ∈ r, x ∈ L) ∧ (∀ x ∈ r', x ∈ L) ∧ f.f0 ++ flatF r = f'.f0 ++ flatF r' ∧ (f.f0 ++ flatF r).length ≤ s.length
  | 0, s, h, _, hz => by
    rw [List.eq_nil_of_length_eq_zero (show s.length = 0 by omega), rdO_nil] at hz
    exact absurd hz (by decide)
  | n + 1, s, h, h', hz => by
    by_cases hs : s = []
    · rw [hs, rdO_nil] at hz
      exact absurd hz (by decide)
    rw [rdO_cnt hv h' hs] at hz
    rcases cnt_gt L (nn_of hv h') hv.pw hz with ⟨f, hf, hp, h1⟩ | ⟨f, hf, f', hf', hne, hp, hp', h1, h2⟩
    · have := (hv.one f hf).1
      have := isPre_len hp
      obtain ⟨a, ha, b, hb, hab, r, r', h3, h4, h5, h6⟩ := diverge hv n (s.drop f.f0.length) (by rw [List.length_drop]; omega) (by rw [List.length_drop]; omega) h1
      exact ⟨a, ha, b, hb, hab, r, r', h3, h4, h5, by rw [List.length_drop] at h6; omega⟩
    · obtain ⟨r, h3, h4⟩ := has_reading hv _ (s.drop f.f0.length) (Nat.le_refl _) (by rw [List.length_drop]; omega) h1
      obtain ⟨r', h5, h6⟩ := has_reading hv _ (s.drop f'.f0.length) (Nat.le_refl _) (by rw [List.length_drop]; omega) h2
      have e1 : f.f0 ++ flatF r = s := by rw [h4]; exact isPre_split hp
      have e2 : f'.f0 ++ flatF r' = s := by rw [h6]; exact isPre_split hp'
      exact ⟨f, hf, f', hf', hne, r, r', h3, h5, by rw [e1, e2], by rw [e1]; exact Nat.le_refl _⟩
theorem meets_complete {L : List S55} (hv : FsV L) (most : Int) : ∀ (N : Nat) (r1 r2 : List S55) (a : List Int) (len : Int) (n : Nat), (flatF r1).length + (flatF r2).length ≤ N → (∀ f ∈ r1, f ∈ L) → (∀ f ∈ r2, f ∈ L) → a ≠ [] → a.length ≤ 5 → flatF r2 = a ++ flatF r1 → len + ((flatF r1).length : Int) ≤ most → (most - len) * 6 + (a.length : Int) < n → meetsP L most n a len = true := by
  intro N
  induction N using Nat.strongRecOn with
  | _ N IH =>
    intro r1 r2 a len n hN h1 h2 ha ha5 he hlen hn
    have hal := List.length_pos_iff.2 ha
    cases r2 with
    | nil =>
      simp only [flatF] at he
      have := congrArg List.length he
      rw [List.length_append, List.length_nil] at this
      omega
    | cons f r2 =>
      have hf := h2 f List.mem_cons_self
      have hfl := hv.one f hf
      have h2' : ∀ x ∈ r2, x ∈ L := fun x hx => h2 x (List.mem_cons_of_mem _ hx)
      simp only [flatF, List.length_append] at he hN
      obtain ⟨n, rfl⟩ : ∃ m, n = m + 1 := ⟨n - 1, by omega⟩
      simp only [meetsP]
      rw [List.any_eq_true]
      refine ⟨f, hf, ?_⟩
      unfold meetsF
      by_cases hfa : f.f0 = a
      · simp [hfa]
      rw [beq_eq_false_iff_ne.2 hfa, Bool.false_or]
      rcases List.append_eq_append_iff.1 he with ⟨a', e1, e2⟩ | ⟨c', e1, e2⟩
      · have hp : isPre f.f0 a = true := by rw [e1]; exact isPre_app _ _
        have hd : a.drop f.f0.length = a' := by rw [e1, List.drop_left]
        have hl := congrArg List.length e1
        rw [List.length_append] at hl
        rw [if_pos hp, hd]
        exact IH ((flatF r1).length + (flatF r2).length) (by omega) r1 r2 a' len n (Nat.le_refl _) h1 h2' (fun h => hfa (by rw [e1, h, List.append_nil])) (by omega) e2 hlen (by omega)
      · have hl := congrArg List.length e1
        rw [List.length_append] at hl
        have hc : c' ≠ [] := fun h => hfa (by rw [e1, h, List.append_nil])
        have hcl := List.length_pos_iff.2 hc
        have hp : ¬ isPre f.f0 a = true := fun h => by have := isPre_len h; omega
        have hq : isPre a f.f0 = true := by rw [e1]; exact isPre_app _ _
        have hd : f.f0.drop a.length = c' := by rw [e1, List.drop_left]
        have hl2 := congrArg List.length e2
        rw [List.length_append] at hl2
        rw [if_neg hp, hq, Bool.true_and, decide_eq_true (by omega), Bool.true_and, hd]
        exact IH ((flatF r2).length + (flatF r1).length) (by omega) r2 r1 c' (len + (f.f0.length : Int) - (a.length : Int)) n (Nat.le_refl _) h2' h1 hc (by omega) e2 (by omega) (by omega)
theorem meets_sound {L : List S55} (most : Int) : ∀ (n : Nat) (a : List Int) (len : Int), meetsP L most n a len = true → len ≤ most → ∃ r1 r2 : List S55, (∀ f ∈ r1, f ∈ L) ∧ (∀ f ∈ r2, f ∈ L) ∧ flatF r2 = a ++ flatF r1 ∧ len + ((flatF r1).length : Int) ≤ most
  | 0, a, len, h, _ => by simp [meetsP] at h
  | n + 1, a, len, h, hlen => by
    simp only [meetsP] at h
    rw [List.any_eq_true] at h
    obtain ⟨f, hf, h⟩ := h
    unfold meetsF at h
    rw [Bool.or_eq_true] at h
    have cons_in : ∀ {r : List S55}, (∀ x ∈ r, x ∈ L) → ∀ x ∈ f :: r, x ∈ L := by
      intro r hr x hx
      rcases List.mem_cons.1 hx with rfl | hx
      · exact hf
      · exact hr x hx
    rcases h with h | h
    · have e : f.f0 = a := by simpa using h
      exact ⟨[], [f], by simp, cons_in (by simp), by simp [flatF, e], by simp [flatF]; exact hlen⟩
    · by_cases hp : isPre f.f0 a = true
      · rw [if_pos hp] at h
        obtain ⟨r1, r2, h1, h2, h3, h4⟩ := meets_sound most n _ _ h hlen
        refine ⟨r1, f :: r2, h1, cons_in h2, ?_, h4⟩
        simp only [flatF]
        rw [h3, ← List.append_assoc, isPre_split hp]
      · rw [if_neg hp, Bool.and_eq_true, Bool.and_eq_true, decide_eq_true_eq] at h
        obtain ⟨hq, hc, h⟩ := h
        obtain ⟨r1, r2, h1, h2, h3, h4⟩ := meets_sound most n _ _ h hc
        refine ⟨r2, f :: r1, h2, cons_in h1, ?_, ?_⟩
        · simp only [flatF]
          rw [h3, ← List.append_assoc, isPre_split hq]
        · have hl := congrArg List.length h3
          rw [List.length_append, List.length_drop] at hl
          have := isPre_len hq
          omega
theorem hitRow_iff {L : List S55} {n : Int} {i : Nat} {f : S55} : ∀ (l : List S55) (k : Nat), hitRow L n i f k l = true ↔ ∃ q, ∃ h : q < l.length, hitOne L n i f (k + q) l[q] = true
  | [], k => by simp [hitRow]
  | g :: gs, k => by
    simp only [hitRow, Bool.or_eq_true]
    rw [hitRow_iff gs (k + 1)]
    constructor
    · rintro (h | ⟨q, hq, h⟩)
      · exact ⟨0, by simp, h⟩
      · refine ⟨q + 1, by simpa using hq, ?_⟩
        rw [show k + (q + 1) = k + 1 + q by omega]
        simpa using h
    · rintro ⟨q, hq, h⟩
      cases q with
      | zero => exact .inl h
      | succ q =>
        refine .inr ⟨q, by simpa using hq, ?_⟩
        rw [show k + 1 + q = k + (q + 1) by omega]
        simpa using h
theorem hitAll_iff {L : List S55} {n : Int} : ∀ (l : List S55) (i : Nat), hitAll L n i l = true ↔ ∃ p, ∃ h : p < l.length, hitRow L n (i + p) l[p] 0 L = true
  | [], i => by simp [hitAll]
  | f :: fs, i => by
    simp only [hitAll, Bool.or_eq_true]
    rw [hitAll_iff fs (i + 1)]
    constructor
    · rintro (h | ⟨q, hq, h⟩)
      · exact ⟨0, by simp, h⟩
      · refine ⟨q + 1, by simpa using hq, ?_⟩
        rw [show i + (q + 1) = i + 1 + q by omega]
        simpa using h
    · rintro ⟨q, hq, h⟩
      cases q with
      | zero => exact .inl h
      | succ q =>
        refine .inr ⟨q, by simpa using hq, ?_⟩
        rw [show i + 1 + q = i + (q + 1) by omega]
        simpa using h
def twoP (L : List S55) (n : Int) : Nat → List Int → Bool
  | 0, _ => false
  | m + 1, s => decide (1 < (rdO L s).f0) || L.any (fun f => decide (((s ++ f.f0).length : Int) ≤ n) && twoP L n m (s ++ f.f0))
theorem twoP_iff {L : List S55} (hv : FsV L) (n : Int) : ∀ (m : Nat) (s : List Int), (s.length : Int) ≤ n → n - (s.length : Int) < m → (twoP L n m s = true ↔ ∃ r : List S55, (∀ f ∈ r, f ∈ L) ∧ ((s ++ flatF r).length : Int) ≤ n ∧ 1 < (rdO L (s ++ flatF r)).f0)
  | 0, s, h, h' => absurd h' (by omega)
  | m + 1, s, h, h' => by
    simp only [twoP]
    rw [Bool.or_eq_true, decide_eq_true_eq, List.any_eq_true]
    constructor
    · rintro (h1 | ⟨f, hf, h1⟩)
      · exact ⟨[], by simp, by simpa [flatF] using h, by simpa [flatF] using h1⟩
      · rw [Bool.and_eq_true, decide_eq_true_eq] at h1
        have hfl := (hv.one f hf).1
        obtain ⟨r, h2, h3, h4⟩ := (twoP_iff hv n m (s ++ f.f0) h1.1 (by rw [List.length_append]; omega)).1 h1.2
        refine ⟨f :: r, fun x hx => ?_, ?_, ?_⟩
        · rcases List.mem_cons.1 hx with rfl | hx
          · exact hf
          · exact h2 x hx
        · simp only [flatF]; rwa [← List.append_assoc]
        · simp only [flatF]; rwa [← List.append_assoc]
    · rintro ⟨r, h1, h2, h3⟩
      cases r with
      | nil => exact .inl (by simpa [flatF] using h3)
      | cons f r =>
        simp only [flatF] at h2 h3
        rw [← List.append_assoc] at h2 h3
        have hf := h1 f List.mem_cons_self
        have hfl := (hv.one f hf).1
        have hb : ((s ++ f.f0).length : Int) ≤ n := by have e9 := (List.length_append : ((s ++ f.f0) ++ flatF r).length = _); omega
        refine .inr ⟨f, hf, ?_⟩
        rw [Bool.and_eq_true, decide_eq_true_eq]
        exact ⟨hb, (twoP_iff hv n m (s ++ f.f0) hb (by rw [List.length_append]; omega)).2 ⟨r, fun x hx => h1 x (List.mem_cons_of_mem _ hx), h2, h3⟩⟩
theorem hit_two {L : List S55} (hv : FsV L) {n : Int} (hn0 : 0 ≤ n) (hn : n ≤ 5) : hitAll L n 0 L = twoP L n 6 [] := by
  rw [Bool.eq_iff_iff, twoP_iff hv n 6 [] (by simpa using hn0) (by simp; omega), hitAll_iff]
  have gt : ∀ j (hj : j < L.length), L[j] = rd_T55 L (j : Int) := by
    intro j hj
    unfold rd_T55
    rw [Int.toNat_natCast, List.getD_eq_getElem?_getD, List.getElem?_eq_getElem hj]; rfl
  constructor
  · rintro ⟨p, hp, h⟩
    obtain ⟨q, hq, h⟩ := (hitRow_iff L 0).1 h
    rw [Nat.zero_add, Nat.zero_add] at h
    unfold hitOne at h
    simp only [Bool.and_eq_true, Bool.not_eq_true', decide_eq_false_iff_not, decide_eq_true_eq] at h
    obtain ⟨h1, h2, h3, h4⟩ := h
    have hpi := List.getElem_mem hp
    have hqi := List.getElem_mem hq
    have hne := pw_ne hv hp hq h1
    rw [← gt p hp, ← gt q hq] at hne
    generalize L[p] = f at h2 h3 h4 hpi hne
    generalize L[q] = g at h2 h3 h4 hqi hne
    obtain ⟨r1, r2, k1, k2, k3, k4⟩ := meets_sound n 40 _ _ h4 h2
    have e : f.f0 ++ flatF r2 = g.f0 ++ flatF r1 := by rw [k3, ← List.append_assoc, isPre_split h3]
    have hl : (g.f0 ++ flatF r1).length ≤ 5 := by rw [List.length_append]; omega
    have hle := congrArg List.length e
    rw [List.length_append] at hle
    have hl' := hl
    rw [List.length_append] at hl'
    have hg1 := (hv.one g hqi).1
    refine ⟨g :: r1, fun x hx => ?_, ?_, ?_⟩
    · rcases List.mem_cons.1 hx with rfl | hx
      · exact hqi
      · exact k1 x hx
    · simp only [flatF, List.nil_append]; rw [List.length_append]; omega
    · simp only [flatF, List.nil_append]
      rw [rdO_cnt hv (by omega) (by intro e0; have := congrArg List.length e0; rw [List.length_append, List.length_nil] at this; omega)]
      have h5 := cnt_two (g := fun t => (rdO L t).f0) (s := g.f0 ++ flatF r1) L (nn_of hv (by omega)) hqi hpi (fun h => hne h.symm) (isPre_app _ _) (by rw [← e]; exact isPre_app _ _)
      have h6 : (g.f0 ++ flatF r1).drop f.f0.length = flatF r2 := by rw [← e, List.drop_left]
      rw [h6, List.drop_left] at h5
      have h7 := reading_many hv r1 k1 (by omega)
      have h8 := reading_many hv r2 k2 (by omega)
      omega
  · rintro ⟨r, h1, h2, h3⟩
    rw [List.nil_append] at h2 h3
    obtain ⟨f, hf, g, hg, hne, r1, r2, k1, k2, k3, k4⟩ := diverge hv _ (flatF r) (Nat.le_refl _) (by omega) h3
    -- the shorter one first
    have key : ∀ (f g : S55) (r1 r2 : List S55), f ∈ L → g ∈ L → f.f0 ≠ g.f0 → (∀ x ∈ r1, x ∈ L) → (∀ x ∈ r2, x ∈ L) → f.f0 ++ flatF r1 = g.f0 ++ flatF r2 → ((g.f0 ++ flatF r2).length : Int) ≤ n → (∃ c', g.f0 = f.f0 ++ c' ∧ flatF r1 = c' ++ flatF r2) → ∃ p, ∃ h : p < L.length, hitRow L n (0 + p) L[p] 0 L = true := by
      rintro f g r1 r2 hf hg hne k1 k2 k3 k4 ⟨c', e1, e2⟩
      obtain ⟨p, hp, rfl⟩ := List.getElem_of_mem hf
      obtain ⟨q, hq, rfl⟩ := List.getElem_of_mem hg
      refine ⟨p, hp, (hitRow_iff L 0).2 ⟨q, hq, ?_⟩⟩
      rw [Nat.zero_add, Nat.zero_add]
      have hc : c' ≠ [] := fun h => hne (by rw [e1, h, List.append_nil])
      have hg5 := hv.one _ hg
      have hl := congrArg List.length e1
      rw [List.length_append] at hl
      rw [List.length_append] at k4
      unfold hitOne
      simp only [Bool.and_eq_true, Bool.not_eq_true', decide_eq_false_iff_not, decide_eq_true_eq]
      refine ⟨fun h => hne (by simp only [h]), by omega, by rw [e1]; exact isPre_app _ _, ?_⟩
      have hd : L[q].f0.drop L[p].f0.length = c' := by rw [e1, List.drop_left]
      rw [hd]
      exact meets_complete hv n _ r2 r1 c' _ 40 (Nat.le_refl _) k2 k1 hc (by omega) e2 (by omega) (by omega)
    have k5 : ((f.f0 ++ flatF r1).length : Int) ≤ n := by omega
    rcases List.append_eq_append_iff.1 k3 with ⟨c', e1, e2⟩ | ⟨c', e1, e2⟩
    · exact key f g r1 r2 hf hg hne k1 k2 k3 (by rw [← k3]; exact k5) ⟨c', e1, e2⟩
    · exact key g f r2 r1 hg hf (fun h => hne h.symm) k2 k1 k3.symm k5 ⟨c', e1, e2⟩

end Go.Proofs.Ytnemcppllfmioaa.Pure
