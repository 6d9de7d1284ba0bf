/- Lemmas on the printed functions for the law FnExactFormulasBest. -/
import Derived.Test.YtkmganbgnjphfaaQFnExactFormulasBestq0
import Derived.Test.YtkmganbgnjphfaaQFnExactFormulasBestq1
import Derived.Test.YtkmganbgnjphfaaQFnExactFormulasBestq2
import Derived.Deep.RegionHeld3
import Derived.BigRegion
import Derived.Deep.Slices
import Derived.Laws.CopyOwn
namespace Go.Proofs.Ytkmganbgnjphfaa.Pure
set_option linter.unusedVariables false
set_option linter.unusedSimpArgs false
open Go Go.RowKit Go.Proofs.Ytkmganbgnjphfaa.PFnExactFormulasBest Go.Proofs.YtkmganbgnjphfaaW.PrintWords Go.Proofs.YtkmganbgnjphfaaW.PrintLast Go.Proofs.YtkmganbgnjphfaaW.PrintMore

/-! impl_begins: as the print has it, but the cut list has a name of its own -/
def impl_begins.f (k : Nat) (l0 : List Int) (l1 : List Int) : Option (Bool) := if (l0.length : Int) ≥ (l1.length : Int) then (if 0 ≤ (l1.length : Int) then (if (l1.length : Int) ≤ (l0.length : Int) then ((impl_equalNumbers.f k (l0.take ((l1.length : Int) : Int).toNat) l1).bind fun t117 => (some t117)) else (none)) else (none)) else (some false)
theorem impl_begins.mono : ∀ a0 a1 k, LeO (impl_begins.f k a0 a1) (impl_begins.f (k + 1) a0 a1) := by
  intro a0 a1 k
  unfold impl_begins.f
  repeat' first
      | (with_reducible exact impl_equalNumbers.mono _ _ _)
      | (with_reducible exact LeO.refl _)
      | (with_reducible exact LeO.none _)
      | (with_reducible refine LeO.ite ?_ ?_)
      | (with_reducible refine LeO.bind ?_ (fun _ => ?_))
      | exact impl_equalNumbers.mono _ _ _
      | exact LeO.none _
      | refine LeO.ite ?_ ?_
      | refine LeO.bind ?_ (fun _ => ?_)
set_option maxHeartbeats 8000000 in
set_option maxRecDepth 100000 in
theorem impl_begins.calls (k : Nat) (A0 : Option Addr) (c0 : Nat) (l0 : List Int) (A1 : Option Addr) (c1 : Nat) (l1 : List Int) (r : Bool) (w : World) (hr0 : Kd.C (Kd.int .i64) w A0 l0.length l0) (hc0 : l0.length ≤ c0) (hr1 : Kd.C (Kd.int .i64) w A1 l1.length l1) (hc1 : l1.length ≤ c1) (h : impl_begins.f k l0 l1 = some r) :
    Calls Try.prog 47 #[.slice A0 l0.length c0, .slice A1 l1.length c1] w fun e w' => e = .returned (.bool r) ∧ Drawn0 w w' := by
  have HR0 := Aside0.mk hr0
  have HC0 := Aside0.mk hc0
  clear hr0 hc0
  have HR1 := Aside0.mk hr1
  have HC1 := Aside0.mk hc1
  clear hr1 hc1
  have H : (if (l0.length : Int) ≥ (l1.length : Int) then (if 0 ≤ (l1.length : Int) then (if (l1.length : Int) ≤ (l0.length : Int) then ((impl_equalNumbers.f k (l0.take ((l1.length : Int) : Int).toNat) l1).bind fun t117 => (some t117)) else (none)) else (none)) else (some false)) = some r := h
  clear h
  by_cases c3 : (l0.length : Int) ≥ (l1.length : Int)
  · rw [if_pos c3] at H
    have c3b0 : decide ((l1.length : Int) ≤ (l0.length : Int)) = true := decide_eq_true c3
    have c3b1 : decide (l1.length ≤ l0.length) = true := decide_eq_true (Int.ofNat_le.mp c3)
    clear c3
    by_cases c4 : 0 ≤ (l1.length : Int)
    · rw [if_pos c4] at H
      have c4b0 := eq_true c4
      have c4b1 : decide (0 ≤ (l1.length : Int)) = true := decide_eq_true c4
      clear c4
      by_cases c5 : (l1.length : Int) ≤ (l0.length : Int)
      · rw [if_pos c5] at H
        have c5b0 := eq_true c5
        have c5b1 : decide ((l1.length : Int) ≤ (l0.length : Int)) = true := decide_eq_true c5
        clear c5
        replace H := Option.bind_eq_some_iff.mp H
        obtain ⟨t117, A60, H⟩ := H
        replace H : (some t117) = some r := H
        have A6 := Aside0.mk A60
        clear A60
        obtain rfl := Option.some.inj H
        obtain ⟨i07, hi07, _, hsz7, _⟩ := info_parts info3
        obtain ⟨hcut7, hA7, hC7⟩ := print_take_of (P := Try.prog) (Value.int .i64) 0 29 3 .i64 Try.underlying29 hi07 hsz7 A0 c0 l0 (l1.length : Int) (of_decide_eq_true (by first | (with_reducible assumption) | assumption)) (of_decide_eq_true (by first | (with_reducible assumption) | assumption)) HC0.out
        have HR116 := Aside0.mk (Kd.C_of_reads (h1 := fun _ => rfl) (hA7 _ (Kd.reads_of_C HR0.out)))
        have HC116 := Aside0.mk hC7
        clear hA7 hC7 hi07 hsz7
        generalize (l0.take ((l1.length : Int) : Int).toNat) = TT7 at hcut7 HR116 HC116 A6
        go_enter Try.func47, Try.ntmps47
        go_wp2_with (first | (go_at_call 74; (with_reducible refine (impl_equalNumbers.calls k _ _ TT7 _ _ l1 t117 _ ?side1 ?side2 ?side3 ?side4 A6.out).mono ?_); (case side1 => repeat (first | exact HR116.out | (with_reducible refine Kd.C_alloc ?_ _) | (with_reducible refine Kd.C_drewN ?_ _) | (with_reducible refine Kd.C_drew ?_))); (case side2 => exact HC116.out); (case side3 => repeat (first | exact HR1.out | (with_reducible refine Kd.C_alloc ?_ _) | (with_reducible refine Kd.C_drewN ?_ _) | (with_reducible refine Kd.C_drew ?_))); (case side4 => exact HC1.out); rintro e w' ⟨rfl, ⟨nd, rfl⟩⟩))
        go_ret
        exact ⟨by first | rfl | (simp; done) | (simp [*]; done), by repeat (first | exact Drawn0.refl _ | apply Drawn0.step)⟩
      · rw [if_neg c5] at H
        exact absurd H (by simp)
    · rw [if_neg c4] at H
      exact absurd H (by simp)
  · rw [if_neg c3] at H
    have c3b0 : decide ((l1.length : Int) ≤ (l0.length : Int)) = false := decide_eq_false c3
    have c3b1 : decide (l1.length ≤ l0.length) = false := decide_eq_false (fun h => c3 (Int.ofNat_le.mpr h))
    clear c3
    obtain rfl := Option.some.inj H
    go_enter Try.func47, Try.ntmps47
    go_wp2
    go_ret
    exact ⟨by first | rfl | (simp; done) | (simp [*]; done), by repeat (first | exact Drawn0.refl _ | apply Drawn0.step)⟩

/-! spec_l6fAt: as the print has it, but the cut list has a name of its own -/
def spec_l6fAt.f (k : Nat) (l0_0 : List Int) (a0_1 : Int) (l1 : List Int) (a2 : Int) : Option (Bool) := if (wrap64 (a2 + (l0_0.length : Int))) ≤ (l1.length : Int) then (if 0 ≤ a2 then (if a2 ≤ (wrap64 (a2 + (l0_0.length : Int))) then ((spec_l2Same.f k ((l1.take ((wrap64 (a2 + (l0_0.length : Int))) : Int).toNat).drop (a2 : Int).toNat) l0_0).bind fun t144 => (some t144)) else (none)) else (none)) else (some false)
theorem spec_l6fAt.mono : ∀ a0 a1 a2 a3 k, LeO (spec_l6fAt.f k a0 a1 a2 a3) (spec_l6fAt.f (k + 1) a0 a1 a2 a3) := by
  intro a0 a1 a2 a3 k
  unfold spec_l6fAt.f
  repeat' first
      | (with_reducible exact spec_l2Same.mono _ _ _)
      | (with_reducible exact LeO.refl _)
      | (with_reducible exact LeO.none _)
      | (with_reducible refine LeO.ite ?_ ?_)
      | (with_reducible refine LeO.bind ?_ (fun _ => ?_))
      | exact spec_l2Same.mono _ _ _
      | exact LeO.none _
      | refine LeO.ite ?_ ?_
      | refine LeO.bind ?_ (fun _ => ?_)
set_option maxHeartbeats 8000000 in
set_option maxRecDepth 100000 in
theorem spec_l6fAt.calls (k : Nat) (A0_0 : Option Addr) (c0_0 : Nat) (l0_0 : List Int) (a0_1 : Int) (A1 : Option Addr) (c1 : Nat) (l1 : List Int) (a2 : Int) (r : Bool) (w : World) (hr0_0 : Kd.C (Kd.int .i64) w A0_0 l0_0.length l0_0) (hc0_0 : l0_0.length ≤ c0_0) (hr1 : Kd.C (Kd.int .i64) w A1 l1.length l1) (hc1 : l1.length ≤ c1) (h : spec_l6fAt.f k l0_0 a0_1 l1 a2 = some r) :
    Calls Try.prog 62 #[.agg #[.slice A0_0 l0_0.length c0_0, .int .i64 a0_1], .slice A1 l1.length c1, .int .i64 a2] w fun e w' => e = .returned (.bool r) ∧ Below w.heap.size w w' := by
  have hu37 := Try.underlying37
  have HR0_0 := Aside0.mk hr0_0
  have HC0_0 := Aside0.mk hc0_0
  clear hr0_0 hc0_0
  have HR1 := Aside0.mk hr1
  have HC1 := Aside0.mk hc1
  clear hr1 hc1
  have HB := Aside0.mk (Below.refl w.heap.size w)
  have H : (if (wrap64 (a2 + (l0_0.length : Int))) ≤ (l1.length : Int) then (if 0 ≤ a2 then (if a2 ≤ (wrap64 (a2 + (l0_0.length : Int))) then ((spec_l2Same.f k ((l1.take ((wrap64 (a2 + (l0_0.length : Int))) : Int).toNat).drop (a2 : Int).toNat) l0_0).bind fun t144 => (some t144)) else (none)) else (none)) else (some false)) = some r := h
  clear h
  by_cases c4 : (wrap64 (a2 + (l0_0.length : Int))) ≤ (l1.length : Int)
  · rw [if_pos c4] at H
    have c4b0 : decide ((wrap64 (a2 + (l0_0.length : Int))) ≤ (l1.length : Int)) = true := decide_eq_true c4
    clear c4
    by_cases c5 : 0 ≤ a2
    · rw [if_pos c5] at H
      have c5b0 := eq_true c5
      have c5b1 : decide (0 ≤ a2) = true := decide_eq_true c5
      clear c5
      by_cases c6 : a2 ≤ (wrap64 (a2 + (l0_0.length : Int)))
      · rw [if_pos c6] at H
        have c6b0 := eq_true c6
        have c6b1 : decide (a2 ≤ (wrap64 (a2 + (l0_0.length : Int)))) = true := decide_eq_true c6
        have c7b0 := eq_true (of_decide_eq_true (by first | (with_reducible assumption) | assumption) : (wrap64 (a2 + (l0_0.length : Int))) ≤ (l1.length : Int))
        replace H := Option.bind_eq_some_iff.mp H
        obtain ⟨t144, A80, H⟩ := H
        replace H : (some t144) = some r := H
        have A8 := Aside0.mk A80
        clear A80
        obtain rfl := Option.some.inj H
        go_enter Try.func62, Try.ntmps62
        go_wp2_with (first | ((with_reducible refine gate_dst (N := 3) rfl ?_); refine box_event ?hg (N := 3) ?hd (cs := #[.slice A0_0 l0_0.length c0_0, .int .i64 a0_1]) (t := 37) ?hr ?_; (case hd => rfl); (case hg => rfl); (case hr => first | (go_simp; done) | (go_simp; rfl)); intro gb142 hg w9 hbox hb; have n0_ := Aside0.mk (below_step (by repeat (first | (with_reducible first | exact HB.out | apply below_alloc | apply pw_below_drewN | apply below_drew1) | exact HB.out)) hb); have n1_ := Aside0.mk (hbox); have n2_ := Aside0.mk ((by rw [hg]; exact (below_size (by repeat (first | (with_reducible first | exact HB.out | apply below_alloc | apply pw_below_drewN | apply below_drew1) | exact HB.out))) : w.heap.size ≤ gb142)); have n3_ := Aside0.mk ((by rw [hg]; exact (below_size (by repeat (first | (with_reducible first | exact HB.out | apply below_alloc | apply pw_below_drewN | apply below_drew1) | exact HB.out))) : w.heap.size ≤ gb142)); clear HB; have HB := n0_; have BK142 := n1_; have GW142 := n2_; have GE142 := n3_; clear n0_ n1_ n2_ n3_; clear hb hbox hg; have hcz10_0 : w9.cell? ⟨gb142, 0, none⟩ = some (.slice A0_0 l0_0.length c0_0) := (blk_cell BK142.out 0).trans rfl; have hcz10_1 : w9.cell? ⟨gb142, 1, none⟩ = some (.int .i64 a0_1) := (blk_cell BK142.out 1).trans rfl; have hfz10_0 := blk_frozen BK142.out 0; have hfz10_1 := blk_frozen BK142.out 1; obtain ⟨i011, hi011, _, hsz11, _⟩ := info_parts info3; obtain ⟨A11, hcut11, hA11, hC11⟩ := print_mid_of (P := Try.prog) (Value.int .i64) 0 29 3 .i64 .i64 Try.underlying29 hi011 hsz11 A1 c1 l1 a2 (wrap64 (a2 + (l0_0.length : Int))) (of_decide_eq_true (by first | (with_reducible assumption) | assumption)) (by first | omega | exact of_decide_eq_true (by first | (with_reducible assumption) | assumption)) (of_decide_eq_true (by first | (with_reducible assumption) | assumption)) HC1.out; have HR143 := Aside0.mk (Kd.C_of_reads (h1 := fun _ => rfl) (hA11 _ (Kd.reads_of_C HR1.out))); have HC143 := Aside0.mk hC11; clear hA11 hC11 hi011 hsz11; generalize ((l1.take ((wrap64 (a2 + (l0_0.length : Int))) : Int).toNat).drop (a2 : Int).toNat) = TT11 at hcut11 HR143 HC143 A8) | (go_at_call 72; (with_reducible refine (spec_l2Same.calls k _ _ TT11 _ _ l0_0 t144 _ ?side1 ?side2 ?side3 ?side4 A8.out).mono ?_); (case side1 => repeat (first | exact (Kd.C_below HR143.out HB.out) | (with_reducible refine Kd.C_alloc ?_ _) | (with_reducible refine Kd.C_drewN ?_ _) | (with_reducible refine Kd.C_drew ?_))); (case side2 => exact HC143.out); (case side3 => repeat (first | exact (Kd.C_below HR0_0.out HB.out) | (with_reducible refine Kd.C_alloc ?_ _) | (with_reducible refine Kd.C_drewN ?_ _) | (with_reducible refine Kd.C_drew ?_))); (case side4 => exact HC0_0.out); rintro e w' ⟨rfl, ⟨nd, rfl⟩⟩; (try first | exact ⟨rfl, _, World.drewN_drewN _ _ _⟩ | exact ⟨rfl, _, Eq.trans (World.drewN_drewN _ _ _) (congrArg (World.drewN _) (Nat.add_assoc _ _ _))⟩)))
        repeat (go_quiet (first | ((with_reducible refine gate_dst (N := 3) rfl ?_); refine box_event ?hg (N := 3) ?hd (cs := #[.slice A0_0 l0_0.length c0_0, .int .i64 a0_1]) (t := 37) ?hr ?_; (case hd => rfl); (case hg => rfl); (case hr => first | (go_simp; done) | (go_simp; rfl)); intro gb142 hg w9 hbox hb; have n0_ := Aside0.mk (below_step (by repeat (first | (with_reducible first | exact HB.out | apply below_alloc | apply pw_below_drewN | apply below_drew1) | exact HB.out)) hb); have n1_ := Aside0.mk (hbox); have n2_ := Aside0.mk ((by rw [hg]; exact (below_size (by repeat (first | (with_reducible first | exact HB.out | apply below_alloc | apply pw_below_drewN | apply below_drew1) | exact HB.out))) : w.heap.size ≤ gb142)); have n3_ := Aside0.mk ((by rw [hg]; exact (below_size (by repeat (first | (with_reducible first | exact HB.out | apply below_alloc | apply pw_below_drewN | apply below_drew1) | exact HB.out))) : w.heap.size ≤ gb142)); clear HB; have HB := n0_; have BK142 := n1_; have GW142 := n2_; have GE142 := n3_; clear n0_ n1_ n2_ n3_; clear hb hbox hg; have hcz10_0 : w9.cell? ⟨gb142, 0, none⟩ = some (.slice A0_0 l0_0.length c0_0) := (blk_cell BK142.out 0).trans rfl; have hcz10_1 : w9.cell? ⟨gb142, 1, none⟩ = some (.int .i64 a0_1) := (blk_cell BK142.out 1).trans rfl; have hfz10_0 := blk_frozen BK142.out 0; have hfz10_1 := blk_frozen BK142.out 1; obtain ⟨i011, hi011, _, hsz11, _⟩ := info_parts info3; obtain ⟨A11, hcut11, hA11, hC11⟩ := print_mid_of (P := Try.prog) (Value.int .i64) 0 29 3 .i64 .i64 Try.underlying29 hi011 hsz11 A1 c1 l1 a2 (wrap64 (a2 + (l0_0.length : Int))) (of_decide_eq_true (by first | (with_reducible assumption) | assumption)) (by first | omega | exact of_decide_eq_true (by first | (with_reducible assumption) | assumption)) (of_decide_eq_true (by first | (with_reducible assumption) | assumption)) HC1.out; have HR143 := Aside0.mk (Kd.C_of_reads (h1 := fun _ => rfl) (hA11 _ (Kd.reads_of_C HR1.out))); have HC143 := Aside0.mk hC11; clear hA11 hC11 hi011 hsz11; generalize ((l1.take ((wrap64 (a2 + (l0_0.length : Int))) : Int).toNat).drop (a2 : Int).toNat) = TT11 at hcut11 HR143 HC143 A8) | (go_at_call 72; (with_reducible refine (spec_l2Same.calls k _ _ TT11 _ _ l0_0 t144 _ ?side1 ?side2 ?side3 ?side4 A8.out).mono ?_); (case side1 => repeat (first | exact (Kd.C_below HR143.out HB.out) | (with_reducible refine Kd.C_alloc ?_ _) | (with_reducible refine Kd.C_drewN ?_ _) | (with_reducible refine Kd.C_drew ?_))); (case side2 => exact HC143.out); (case side3 => repeat (first | exact (Kd.C_below HR0_0.out HB.out) | (with_reducible refine Kd.C_alloc ?_ _) | (with_reducible refine Kd.C_drewN ?_ _) | (with_reducible refine Kd.C_drew ?_))); (case side4 => exact HC0_0.out); rintro e w' ⟨rfl, ⟨nd, rfl⟩⟩; (try first | exact ⟨rfl, _, World.drewN_drewN _ _ _⟩ | exact ⟨rfl, _, Eq.trans (World.drewN_drewN _ _ _) (congrArg (World.drewN _) (Nat.add_assoc _ _ _))⟩))); try go_wp2_with (first | ((with_reducible refine gate_dst (N := 3) rfl ?_); refine box_event ?hg (N := 3) ?hd (cs := #[.slice A0_0 l0_0.length c0_0, .int .i64 a0_1]) (t := 37) ?hr ?_; (case hd => rfl); (case hg => rfl); (case hr => first | (go_simp; done) | (go_simp; rfl)); intro gb142 hg w9 hbox hb; have n0_ := Aside0.mk (below_step (by repeat (first | (with_reducible first | exact HB.out | apply below_alloc | apply pw_below_drewN | apply below_drew1) | exact HB.out)) hb); have n1_ := Aside0.mk (hbox); have n2_ := Aside0.mk ((by rw [hg]; exact (below_size (by repeat (first | (with_reducible first | exact HB.out | apply below_alloc | apply pw_below_drewN | apply below_drew1) | exact HB.out))) : w.heap.size ≤ gb142)); have n3_ := Aside0.mk ((by rw [hg]; exact (below_size (by repeat (first | (with_reducible first | exact HB.out | apply below_alloc | apply pw_below_drewN | apply below_drew1) | exact HB.out))) : w.heap.size ≤ gb142)); clear HB; have HB := n0_; have BK142 := n1_; have GW142 := n2_; have GE142 := n3_; clear n0_ n1_ n2_ n3_; clear hb hbox hg; have hcz10_0 : w9.cell? ⟨gb142, 0, none⟩ = some (.slice A0_0 l0_0.length c0_0) := (blk_cell BK142.out 0).trans rfl; have hcz10_1 : w9.cell? ⟨gb142, 1, none⟩ = some (.int .i64 a0_1) := (blk_cell BK142.out 1).trans rfl; have hfz10_0 := blk_frozen BK142.out 0; have hfz10_1 := blk_frozen BK142.out 1; obtain ⟨i011, hi011, _, hsz11, _⟩ := info_parts info3; obtain ⟨A11, hcut11, hA11, hC11⟩ := print_mid_of (P := Try.prog) (Value.int .i64) 0 29 3 .i64 .i64 Try.underlying29 hi011 hsz11 A1 c1 l1 a2 (wrap64 (a2 + (l0_0.length : Int))) (of_decide_eq_true (by first | (with_reducible assumption) | assumption)) (by first | omega | exact of_decide_eq_true (by first | (with_reducible assumption) | assumption)) (of_decide_eq_true (by first | (with_reducible assumption) | assumption)) HC1.out; have HR143 := Aside0.mk (Kd.C_of_reads (h1 := fun _ => rfl) (hA11 _ (Kd.reads_of_C HR1.out))); have HC143 := Aside0.mk hC11; clear hA11 hC11 hi011 hsz11; generalize ((l1.take ((wrap64 (a2 + (l0_0.length : Int))) : Int).toNat).drop (a2 : Int).toNat) = TT11 at hcut11 HR143 HC143 A8) | (go_at_call 72; (with_reducible refine (spec_l2Same.calls k _ _ TT11 _ _ l0_0 t144 _ ?side1 ?side2 ?side3 ?side4 A8.out).mono ?_); (case side1 => repeat (first | exact (Kd.C_below HR143.out HB.out) | (with_reducible refine Kd.C_alloc ?_ _) | (with_reducible refine Kd.C_drewN ?_ _) | (with_reducible refine Kd.C_drew ?_))); (case side2 => exact HC143.out); (case side3 => repeat (first | exact (Kd.C_below HR0_0.out HB.out) | (with_reducible refine Kd.C_alloc ?_ _) | (with_reducible refine Kd.C_drewN ?_ _) | (with_reducible refine Kd.C_drew ?_))); (case side4 => exact HC0_0.out); rintro e w' ⟨rfl, ⟨nd, rfl⟩⟩; (try first | exact ⟨rfl, _, World.drewN_drewN _ _ _⟩ | exact ⟨rfl, _, Eq.trans (World.drewN_drewN _ _ _) (congrArg (World.drewN _) (Nat.add_assoc _ _ _))⟩))))
        go_ret
        exact ⟨by first | rfl | (simp [errW_none, errW_some] <;> rfl) | (simp [*, errW_none, errW_some] <;> rfl), by repeat (first | (with_reducible first | exact HB.out | apply below_alloc | apply pw_below_drewN | apply below_drew1 | refine below_set ?_ GE142.out) | exact HB.out)⟩
      · rw [if_neg c6] at H
        exact absurd H (by simp)
    · rw [if_neg c5] at H
      exact absurd H (by simp)
  · rw [if_neg c4] at H
    have c4b0 : decide ((wrap64 (a2 + (l0_0.length : Int))) ≤ (l1.length : Int)) = false := decide_eq_false c4
    clear c4
    obtain rfl := Option.some.inj H
    go_enter Try.func62, Try.ntmps62
    go_wp2_with (first | ((with_reducible refine gate_dst (N := 3) rfl ?_); refine box_event ?hg (N := 3) ?hd (cs := #[.slice A0_0 l0_0.length c0_0, .int .i64 a0_1]) (t := 37) ?hr ?_; (case hd => rfl); (case hg => rfl); (case hr => first | (go_simp; done) | (go_simp; rfl)); intro gb142 hg w12 hbox hb; have n0_ := Aside0.mk (below_step (by repeat (first | (with_reducible first | exact HB.out | apply below_alloc | apply pw_below_drewN | apply below_drew1) | exact HB.out)) hb); have n1_ := Aside0.mk (hbox); have n2_ := Aside0.mk ((by rw [hg]; exact (below_size (by repeat (first | (with_reducible first | exact HB.out | apply below_alloc | apply pw_below_drewN | apply below_drew1) | exact HB.out))) : w.heap.size ≤ gb142)); have n3_ := Aside0.mk ((by rw [hg]; exact (below_size (by repeat (first | (with_reducible first | exact HB.out | apply below_alloc | apply pw_below_drewN | apply below_drew1) | exact HB.out))) : w.heap.size ≤ gb142)); clear HB; have HB := n0_; have BK142 := n1_; have GW142 := n2_; have GE142 := n3_; clear n0_ n1_ n2_ n3_; clear hb hbox hg; have hcz13_0 : w12.cell? ⟨gb142, 0, none⟩ = some (.slice A0_0 l0_0.length c0_0) := (blk_cell BK142.out 0).trans rfl; have hcz13_1 : w12.cell? ⟨gb142, 1, none⟩ = some (.int .i64 a0_1) := (blk_cell BK142.out 1).trans rfl; have hfz13_0 := blk_frozen BK142.out 0; have hfz13_1 := blk_frozen BK142.out 1))
    repeat (go_quiet (first | ((with_reducible refine gate_dst (N := 3) rfl ?_); refine box_event ?hg (N := 3) ?hd (cs := #[.slice A0_0 l0_0.length c0_0, .int .i64 a0_1]) (t := 37) ?hr ?_; (case hd => rfl); (case hg => rfl); (case hr => first | (go_simp; done) | (go_simp; rfl)); intro gb142 hg w12 hbox hb; have n0_ := Aside0.mk (below_step (by repeat (first | (with_reducible first | exact HB.out | apply below_alloc | apply pw_below_drewN | apply below_drew1) | exact HB.out)) hb); have n1_ := Aside0.mk (hbox); have n2_ := Aside0.mk ((by rw [hg]; exact (below_size (by repeat (first | (with_reducible first | exact HB.out | apply below_alloc | apply pw_below_drewN | apply below_drew1) | exact HB.out))) : w.heap.size ≤ gb142)); have n3_ := Aside0.mk ((by rw [hg]; exact (below_size (by repeat (first | (with_reducible first | exact HB.out | apply below_alloc | apply pw_below_drewN | apply below_drew1) | exact HB.out))) : w.heap.size ≤ gb142)); clear HB; have HB := n0_; have BK142 := n1_; have GW142 := n2_; have GE142 := n3_; clear n0_ n1_ n2_ n3_; clear hb hbox hg; have hcz13_0 : w12.cell? ⟨gb142, 0, none⟩ = some (.slice A0_0 l0_0.length c0_0) := (blk_cell BK142.out 0).trans rfl; have hcz13_1 : w12.cell? ⟨gb142, 1, none⟩ = some (.int .i64 a0_1) := (blk_cell BK142.out 1).trans rfl; have hfz13_0 := blk_frozen BK142.out 0; have hfz13_1 := blk_frozen BK142.out 1)); try go_wp2_with (first | ((with_reducible refine gate_dst (N := 3) rfl ?_); refine box_event ?hg (N := 3) ?hd (cs := #[.slice A0_0 l0_0.length c0_0, .int .i64 a0_1]) (t := 37) ?hr ?_; (case hd => rfl); (case hg => rfl); (case hr => first | (go_simp; done) | (go_simp; rfl)); intro gb142 hg w12 hbox hb; have n0_ := Aside0.mk (below_step (by repeat (first | (with_reducible first | exact HB.out | apply below_alloc | apply pw_below_drewN | apply below_drew1) | exact HB.out)) hb); have n1_ := Aside0.mk (hbox); have n2_ := Aside0.mk ((by rw [hg]; exact (below_size (by repeat (first | (with_reducible first | exact HB.out | apply below_alloc | apply pw_below_drewN | apply below_drew1) | exact HB.out))) : w.heap.size ≤ gb142)); have n3_ := Aside0.mk ((by rw [hg]; exact (below_size (by repeat (first | (with_reducible first | exact HB.out | apply below_alloc | apply pw_below_drewN | apply below_drew1) | exact HB.out))) : w.heap.size ≤ gb142)); clear HB; have HB := n0_; have BK142 := n1_; have GW142 := n2_; have GE142 := n3_; clear n0_ n1_ n2_ n3_; clear hb hbox hg; have hcz13_0 : w12.cell? ⟨gb142, 0, none⟩ = some (.slice A0_0 l0_0.length c0_0) := (blk_cell BK142.out 0).trans rfl; have hcz13_1 : w12.cell? ⟨gb142, 1, none⟩ = some (.int .i64 a0_1) := (blk_cell BK142.out 1).trans rfl; have hfz13_0 := blk_frozen BK142.out 0; have hfz13_1 := blk_frozen BK142.out 1)))
    go_ret
    exact ⟨by first | rfl | (simp [errW_none, errW_some] <;> rfl) | (simp [*, errW_none, errW_some] <;> rfl), by repeat (first | (with_reducible first | exact HB.out | apply below_alloc | apply pw_below_drewN | apply below_drew1 | refine below_set ?_ GE142.out) | exact HB.out)⟩

/-! formulas -/
def inR (a b n : Int) : Bool := decide (a ≤ n ∧ n ≤ b)
def fOk (x : S37) : Bool := decide (1 ≤ (x.f0.length : Int) ∧ (x.f0.length : Int) ≤ 5) && (x.f0.all (inR (-7) 7) && decide (1 ≤ x.f1 ∧ x.f1 ≤ 9))
def goF : List S37 → List S37 → Bool
  | _, [] => true
  | acc, x :: xs => fOk x && (!(acc.any (fun y => y.f0 == x.f0)) && goF (acc ++ [x]) xs)
def fsOk (l : List S37) : Bool := decide ((l.length : Int) ≤ 8) && goF [] l
theorem goF_all : ∀ {l acc : List S37}, goF acc l = true → ∀ x ∈ l, fOk x = true
  | [], _, _, x, h => by simp at h
  | y :: ys, acc, h, x, hx => by
    simp only [goF, Bool.and_eq_true] at h
    rcases List.mem_cons.1 hx with rfl | hx
    · exact h.1
    · exact goF_all h.2.2 x hx
theorem fsOk_len {l : List S37} (h : fsOk l = true) : l.length ≤ 8 := by
  unfold fsOk at h; simp at h; have := h.1; omega
theorem fsOk_all {l : List S37} (h : fsOk l = true) : ∀ x ∈ l, fOk x = true := by
  unfold fsOk at h; simp at h; exact goF_all h.2
theorem fOk_len {x : S37} (h : fOk x = true) : 1 ≤ x.f0.length ∧ x.f0.length ≤ 5 := by
  unfold fOk at h; simp at h; omega
theorem fOk_weight {x : S37} (h : fOk x = true) : 1 ≤ x.f1 ∧ x.f1 ≤ 9 := by
  unfold fOk at h; simp at h; omega
theorem rd_mem {l : List S37} {k : Int} (h0 : 0 ≤ k) (h1 : k < l.length) : rd_T37 l k ∈ l := by
  have hlt : k.toNat < l.length := by omega
  unfold rd_T37
  rw [List.getD_eq_getElem?_getD, List.getElem?_eq_getElem hlt]
  exact List.getElem_mem hlt
theorem take_rd (l : List S37) (i : Nat) (hi : i < l.length) : l.take (i + 1) = l.take i ++ [l.getD i z37] := by
  rw [List.take_succ_eq_append_getElem hi, List.getD_eq_getElem?_getD, List.getElem?_eq_getElem hi]; rfl

theorem impl_allWithin_ev (l : List Int) (hl : l.length ≤ 1000000000000) (b : Int) (hb : 0 ≤ b) (hb' : b ≤ 1000) : Ev (fun k => impl_allWithin.f k l b) (l.all (inR (-b) b)) := by
  unfold impl_allWithin.f
  have := Ev.over (0 : Int) l (fun k (_ : Unit) i => impl_allWithin.l0 k b l l.length i) (fun _ rest => rest.all (inR (-b) b)) (fun _ _ => True) (by
    intro s _
    refine Ev.succ ?_
    simp only [impl_allWithin.l0]
    exact Ev.neg (by omega) (Ev.now _)) (by
    intro s i rest _ hi _ ih
    refine Ev.succ ?_
    simp only [impl_allWithin.l0]
    rw [w64 (x := -b) (by omega) (by omega), w64 (by omega) (by omega)]
    refine Ev.pos (by omega) (Ev.pos (by omega) (Ev.pos (by omega) ?_))
    have hrd : rd l (i : Int) = l.getD i 0 := rfl
    rw [hrd]
    generalize l.getD i 0 = n
    simp only [List.all_cons]
    by_cases h1 : n < -b
    · have e : inR (-b) b n = false := decide_eq_false (by omega)
      rw [e]; exact Ev.pos h1 (Ev.now _)
    · refine Ev.neg h1 ?_
      by_cases h2 : n > b
      · have e : inR (-b) b n = false := decide_eq_false (by omega)
        rw [e]; exact Ev.pos h2 (Ev.now _)
      · have e : inR (-b) b n = true := decide_eq_true (by omega)
        rw [e]
        exact Ev.neg h2 (ih () trivial)) 0 () (Nat.zero_le _) trivial
  simpa using this
theorem impl_equalNumbers_ev (a b : List Int) (hl : a.length ≤ 1000000000000) : Ev (fun k => impl_equalNumbers.f k a b) (a == b) := by
  unfold impl_equalNumbers.f
  by_cases hlen : (a.length : Int) = (b.length : Int)
  · refine Ev.pos hlen ?_
    have := Ev.over (0 : Int) a (fun k (_ : Unit) i => impl_equalNumbers.l0 k b a a.length i) (fun _ rest => rest == b.drop (a.length - rest.length)) (fun _ _ => True) (by
      intro s _
      refine Ev.succ ?_
      simp only [impl_equalNumbers.l0]
      refine Ev.eqr (Ev.neg (by omega) (Ev.now _)) ?_
      have : b.drop a.length = [] := List.drop_eq_nil_of_le (by omega)
      simp [this]) (by
      intro s i rest _ hi hdr ih
      have hrl : rest.length + 1 + i = a.length := by
        have := congrArg List.length hdr
        simp at this; omega
      refine Ev.succ ?_
      simp only [impl_equalNumbers.l0]
      rw [w64 (by omega) (by omega)]
      refine Ev.pos (by omega) (Ev.pos (by omega) (Ev.pos (by omega) (Ev.pos (by omega) ?_)))
      have hra : rd a (i : Int) = a.getD i 0 := rfl
      have hrb : rd b (i : Int) = b.getD i 0 := rfl
      rw [hra, hrb]
      have e2 : a.length - (a.getD i 0 :: rest).length = i := by simp; omega
      have e1 : a.length - rest.length = i + 1 := by omega
      have e3 : b.drop i = b.getD i 0 :: b.drop (i + 1) := by
        rw [List.drop_eq_getElem_cons (by omega), List.getD_eq_getElem?_getD, List.getElem?_eq_getElem (by omega)]; rfl
      rw [e2, e3]
      have ih := ih () trivial
      rw [e1] at ih
      by_cases h : a.getD i 0 = b.getD i 0
      · refine Ev.pos h (Ev.eqr ih ?_)
        rw [h, Bool.eq_iff_iff]; simp
      · refine Ev.neg h (Ev.eqr (Ev.now _) ?_)
        symm; rw [beq_eq_false_iff_ne]; intro hc; exact h (List.cons.inj hc).1) 0 () (Nat.zero_le _) trivial
    simpa using this
  · refine Ev.neg hlen (Ev.eqr (Ev.now _) ?_)
    symm; rw [beq_eq_false_iff_ne]; rintro rfl; exact hlen rfl
theorem impl_Formula_valid_ev (x : S37) (hl : x.f0.length ≤ 1000000000000) : Ev (fun k => impl_Formula_valid.f k x.f0 x.f1) (fOk x) := by
  unfold impl_Formula_valid.f fOk
  by_cases h1 : (x.f0.length : Int) ≥ 1
  · refine Ev.pos h1 ?_
    by_cases h2 : (x.f0.length : Int) ≤ 5
    · refine Ev.pos h2 ?_
      rw [decide_eq_true (⟨h1, h2⟩ : 1 ≤ (x.f0.length : Int) ∧ (x.f0.length : Int) ≤ 5), Bool.true_and]
      refine Ev.bind (impl_allWithin_ev x.f0 hl 7 (by omega) (by omega)) ?_
      cases x.f0.all (inR (-7) 7)
      · exact Ev.neg (by simp) (Ev.now _)
      · refine Ev.pos rfl ?_
        by_cases h3 : x.f1 ≥ 1
        · refine Ev.pos h3 (Ev.eqr (Ev.now _) ?_)
          rw [Bool.true_and, Bool.eq_iff_iff]; simp; omega
        · refine Ev.neg h3 (Ev.eqr (Ev.now _) ?_)
          rw [Bool.true_and]; symm; exact decide_eq_false (by omega)
    · refine Ev.neg h2 (Ev.eqr (Ev.now _) ?_)
      rw [decide_eq_false (by omega : ¬ (1 ≤ (x.f0.length : Int) ∧ (x.f0.length : Int) ≤ 5))]; rfl
  · refine Ev.neg h1 (Ev.eqr (Ev.now _) ?_)
    rw [decide_eq_false (by omega : ¬ (1 ≤ (x.f0.length : Int) ∧ (x.f0.length : Int) ≤ 5))]; rfl
theorem impl_FormulasValid_ev (l : List S37) (hl : ∀ x ∈ l, x.f0.length ≤ 1000000000000) : Ev (fun k => impl_FormulasValid.f k l) (fsOk l) := by
  unfold impl_FormulasValid.f fsOk
  by_cases h8 : (l.length : Int) > 8
  · refine Ev.pos h8 (Ev.eqr (Ev.now _) ?_)
    rw [decide_eq_false (by omega : ¬ (l.length : Int) ≤ 8)]; rfl
  refine Ev.neg h8 ?_
  rw [decide_eq_true (by omega : (l.length : Int) ≤ 8), Bool.true_and]
  have := Ev.over z37 l (fun k (_ : Unit) i => impl_FormulasValid.l0 k l l l.length i) (fun _ rest => goF (l.take (l.length - rest.length)) rest) (fun _ _ => True) (by
    intro s _
    refine Ev.succ ?_
    simp only [impl_FormulasValid.l0]
    exact Ev.neg (by omega) (Ev.now _)) (by
    intro s i rest _ hi hdr ih
    have hrl : rest.length + 1 + i = l.length := by
      have := congrArg List.length hdr
      simp at this; omega
    have hm : l.getD i z37 ∈ l := by
      rw [List.getD_eq_getElem?_getD, List.getElem?_eq_getElem hi]; exact List.getElem_mem hi
    have hx := hl _ hm
    refine Ev.succ ?_
    simp only [impl_FormulasValid.l0]
    refine Ev.pos (by omega) (Ev.pos (by omega) (Ev.pos (by omega) ?_))
    have hrd : rd_T37 l (i : Int) = l.getD i z37 := rfl
    have e2 : l.length - (l.getD i z37 :: rest).length = i := by simp; omega
    have e1 : l.length - rest.length = i + 1 := by omega
    have ih := ih () trivial
    rw [e1, take_rd l i hi] at ih
    rw [hrd, e2]
    generalize l.getD i z37 = x at hx ih
    simp only [goF]
    refine Ev.bind (impl_Formula_valid_ev x hx) ?_
    cases hf : fOk x
    · exact Ev.neg (by simp) (Ev.now _)
    refine Ev.pos rfl (Ev.pos (by omega) (Ev.someb ?_))
    simp only [Int.toNat_natCast, Bool.true_and]
    have htl : (l.take i).length = i := by simp; omega
    have inner := Ev.over z37 (l.take i) (fun k (_ : Unit) j => impl_FormulasValid.l1 k l l l.length i (l.take i) ((l.take i).length : Int) j x.f0 x.f1) (fun _ rest' => !(rest'.any (fun y => y.f0 == x.f0)) && goF (l.take i ++ [x]) rest) (fun _ _ => True) (by
      intro s _
      refine Ev.succ ?_
      simp only [impl_FormulasValid.l1]
      refine Ev.neg (by omega) ?_
      rw [w64 (by omega) (by omega)]
      exact ih) (by
      intro s j rest' _ hj _ ih'
      have hjm : (l.take i).getD j z37 ∈ l := by
        rw [List.getD_eq_getElem?_getD, List.getElem?_eq_getElem hj]; exact List.mem_of_mem_take (List.getElem_mem hj)
      have hxj := hl _ hjm
      refine Ev.succ ?_
      simp only [impl_FormulasValid.l1]
      refine Ev.pos (by omega) (Ev.pos (by omega) (Ev.pos (by omega) ?_))
      have hrd' : rd_T37 (l.take i) (j : Int) = (l.take i).getD j z37 := rfl
      rw [hrd']
      generalize (l.take i).getD j z37 = y at hxj
      refine Ev.bind (impl_equalNumbers_ev _ _ hxj) ?_
      simp only [List.any_cons]
      cases y.f0 == x.f0
      · refine Ev.neg (by simp) ?_
        rw [w64 (by omega) (by omega)]
        simpa using ih' () trivial
      · exact Ev.pos rfl (Ev.now _)) 0 () (Nat.zero_le _) trivial
    simpa using inner) 0 () (Nat.zero_le _) trivial
  simpa using this

/-! what a reader reads: plain -/
def isPre (p s : List Int) : Bool := decide (p.length ≤ s.length) && (s.take p.length == p)
theorem impl_begins_ev (s p : List Int) (hs : s.length ≤ 1000000000000) : Ev (fun k => impl_begins.f k s p) (isPre p s) := by
  unfold impl_begins.f isPre
  by_cases h : (s.length : Int) ≥ (p.length : Int)
  · rw [decide_eq_true (by omega : p.length ≤ s.length), Bool.true_and]
    refine Ev.pos h (Ev.pos (by omega) (Ev.pos (by omega) ?_))
    rw [Int.toNat_natCast]
    refine Ev.bind (impl_equalNumbers_ev _ p (by rw [List.length_take]; omega)) (Ev.now _)
  · rw [decide_eq_false (by omega : ¬ p.length ≤ s.length)]
    exact Ev.neg h (Ev.now _)
def rdA (rec : List Int → OutC) (s : List Int) : List S37 → OutC → OutC
  | [], acc => acc
  | f :: fs, acc => if isPre f.f0 s = true then (if (rec (s.drop f.f0.length)).f0 = 0 then rdA rec s fs acc else rdA rec s fs (outW acc f (rec (s.drop f.f0.length)))) else rdA rec s fs acc
def rdC (rec : List Int → OutC) (s : List Int) : Int → List S37 → List (Int × OutC)
  | _, [] => []
  | i, f :: fs => if isPre f.f0 s = true then (if (rec (s.drop f.f0.length)).f0 = 0 then rdC rec s (i + 1) fs else (i, rec (s.drop f.f0.length)) :: rdC rec s (i + 1) fs) else rdC rec s (i + 1) fs
def rdG (L : List S37) : Nat → List Int → OutC
  | 0, s => if s = [] then ⟨1, 0, 0⟩ else ⟨0, 0, 0⟩
  | n + 1, s => if s = [] then ⟨1, 0, 0⟩ else rdA (rdG L n) s L ⟨0, 0, 0⟩
def rdO (L : List S37) (s : List Int) : OutC := rdG L s.length s
/-- The formulas with which readings begin, and what is left behind each. -/
def rdCalls (L : List S37) (s : List Int) : List (Int × OutC) := if s = [] then [] else rdC (rdO L) s 0 L
theorem isPre_len {p s : List Int} (h : isPre p s = true) : p.length ≤ s.length := by
  unfold isPre at h; simp at h; exact h.1
theorem rdA_congr {rec rec' : List Int → OutC} {s : List Int} : ∀ {L : List S37} {acc : OutC}, (∀ f ∈ L, isPre f.f0 s = true → rec (s.drop f.f0.length) = rec' (s.drop f.f0.length)) → rdA rec s L acc = rdA rec' s L acc
  | [], _, _ => rfl
  | f :: fs, acc, h => by
    simp only [rdA]
    by_cases hp : isPre f.f0 s = true
    · rw [if_pos hp, if_pos hp, h f List.mem_cons_self hp, rdA_congr (fun g hg => h g (List.mem_cons_of_mem _ hg)), rdA_congr (fun g hg => h g (List.mem_cons_of_mem _ hg))]
    · rw [if_neg hp, if_neg hp, rdA_congr (fun g hg => h g (List.mem_cons_of_mem _ hg))]
theorem rdG_more {L : List S37} (hL : ∀ f ∈ L, 1 ≤ f.f0.length) : ∀ (n : Nat) (s : List Int), s.length ≤ n → ∀ m, s.length ≤ m → rdG L n s = rdG L m s
  | 0, s, h, m, _ => by
    obtain rfl : s = [] := List.eq_nil_of_length_eq_zero (by omega)
    cases m <;> simp [rdG]
  | n + 1, s, h, m, h' => by
    by_cases hs : s = []
    · subst hs
      cases m <;> simp [rdG]
    · cases m with
      | zero => exact absurd (List.eq_nil_of_length_eq_zero (by omega)) hs
      | succ m =>
        simp only [rdG]
        rw [if_neg hs, if_neg hs]
        refine rdA_congr (fun f hf hp => ?_)
        have h1 := hL f hf
        have h2 : 0 < s.length := List.length_pos_iff.2 hs
        exact rdG_more hL n _ (by rw [List.length_drop]; omega) m (by rw [List.length_drop]; omega)
theorem rdO_nil (L : List S37) : rdO L [] = ⟨1, 0, 0⟩ := by simp [rdO, rdG]
theorem rdO_step {L : List S37} (hL : ∀ f ∈ L, 1 ≤ f.f0.length) {s : List Int} (hs : s ≠ []) : rdO L s = rdA (rdO L) s L ⟨0, 0, 0⟩ := by
  have h2 : 0 < s.length := List.length_pos_iff.2 hs
  obtain ⟨n, hn⟩ : ∃ n, s.length = n + 1 := ⟨s.length - 1, by omega⟩
  conv => lhs; unfold rdO
  rw [hn]
  simp only [rdG]
  rw [if_neg hs]
  refine rdA_congr (fun f hf hp => ?_)
  have h1 := hL f hf
  exact rdG_more hL n _ (by rw [List.length_drop]; omega) _ (Nat.le_refl _)
def okR (L : List S37) (S : List Int) : Bool := fsOk L && (decide (S.length ≤ 23) && S.all (inR (-20) 20))
theorem okR_of {L : List S37} {S : List Int} (h : okR L S = true) : fsOk L = true ∧ S.length ≤ 23 := by
  unfold okR at h; simp at h; exact ⟨h.1, h.2.1⟩
def fMany (L : List S37) (S : List Int) : Int := if okR L S = true then (rdO L S).f0 else -1
def fFew (L : List S37) (S : List Int) : Int := if okR L S = true then (if (rdO L S).f0 = 0 then -1 else (rdO L S).f2) else -1

/-! words for own walks -/
theorem cut_take {P : Program} {α : Type} (d : Kd α) (t e : TypeId) {i : TypeInfo} (ht : P.underlying t = some (.slice e)) (hi : P.info? e = some i) {w : World} {A : Option Addr} {c : Nat} {xs : List α} (j : Int) (hr : d.C w A xs.length xs) (hc : xs.length ≤ c) (h0 : 0 ≤ j) (hm : j ≤ xs.length) :
    (∀ W : World, (Instr.slice t (.slice A xs.length c) none (some (.int .i64 j)) none).run P W = .ok (.slice A j.toNat c) W) ∧ d.C w A j.toNat (xs.take j.toNat) ∧ j.toNat ≤ c ∧ (xs.take j.toNat).length = j.toNat := by
  have e1 : (xs.take j.toNat).length = j.toNat := by rw [List.length_take]; omega
  have h := Kd.C_take (m := j.toNat) hr (by omega)
  rw [e1] at h
  exact ⟨cut_to t e .i64 ht hi A _ c j h0 hm hc, h, by omega, e1⟩
theorem cut_drop {P : Program} {α : Type} (d : Kd α) (t e : TypeId) {i : TypeInfo} (ht : P.underlying t = some (.slice e)) (hi : P.info? e = some i) (hsz : i.size = d.sz) {w : World} {A : Option Addr} {c : Nat} {xs : List α} (j : Int) (hr : d.C w A xs.length xs) (hc : xs.length ≤ c) (h0 : 0 ≤ j) (hm : j ≤ xs.length) :
    ∃ A' c', (∀ W : World, (Instr.slice t (.slice A xs.length c) (some (.int .i64 j)) none none).run P W = .ok (.slice A' (xs.length - j.toNat) c') W) ∧ d.C w A' (xs.length - j.toNat) (xs.drop j.toNat) ∧ xs.length - j.toNat ≤ c' ∧ (xs.drop j.toNat).length = xs.length - j.toNat := by
  have e1 : (xs.drop j.toNat).length = xs.length - j.toNat := by rw [List.length_drop]
  have h := Kd.C_drop (m := j.toNat) (c := c) hr (by omega) hc
  rw [e1] at h
  exact ⟨_, _, cut_from t e .i64 ht hi d.sz hsz A _ c j h0 hm, h, by omega, e1⟩
theorem later_cell {w1 : World} {a : Addr} {v : Value} (h : w1.cell? a = some v) : ∀ o, (w1.alloc o).cell? a = some v := fun o => pw_cell_below (below_alloc (Below.refl _ _) o) h
theorem lit_R {α : Type} (d : Kd α) (W : World) (base e : Nat) (hbase : base ≤ W.heap.size) {xs : List α} {inner : List Value} (hrep : Reps (d.M W base (fun _ => False)) d.sz xs inner) (hm : xs.length ≤ 9223372036854775807) :
    d.R e (W.alloc (.cells inner.toArray e)) base (fun _ => True) (.slice (some ⟨W.heap.size, 0, none⟩) xs.length xs.length) xs := by
  refine ⟨fun _ _ => trivial, inner, ?_, ?_⟩
  · have h2 := World.ownsRow_lit (base := base) (e := e) (size := d.sz) W inner.toArray xs.length hbase (by simpa [maxLen] using hm) (by simpa using hrep.1)
    simpa using h2
  · refine hrep.imp_ (fun p c hp => d.M_mono (fun k hk => hk.elim) (Kd.M_below hp (below_alloc (Below.refl _ _) _)))
theorem lit_C {α : Type} (d : Kd α) (W : World) (e : Nat) {xs : List α} {inner : List Value} (hrep : Reps (d.M W W.heap.size (fun _ => False)) d.sz xs inner) (hm : xs.length ≤ 9223372036854775807) :
    d.C (W.alloc (.cells inner.toArray e)) (some ⟨W.heap.size, 0, none⟩) xs.length xs := (Kd.R_reads' (lit_R d W _ e (Nat.le_refl _) hrep hm)).2.2

end Go.Proofs.Ytkmganbgnjphfaa.Pure
