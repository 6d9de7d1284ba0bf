/- Lemmas for the law FnTonaryAdd. -/
import Derived.Test.YtknfnmdfdkdipaaDoorSFnTonaryAdds3
namespace Go.Proofs.YtknfnmdfdkdipaaDoor.PFnTonaryAdd
open Go.RowKit Go.Proofs.YtknfnmdfdkdipaaDoorW.PrintWords Go.Proofs.YtknfnmdfdkdipaaDoorW.PrintLast Go.Proofs.YtknfnmdfdkdipaaDoorW.PrintMore
attribute [local go_sem] max2_int min2_int max_two min_two max_three min_three max_four min_four   -- for this text's walks alone
set_option linter.unusedVariables false
set_option linter.unusedSimpArgs false

def laws_sameEntry.f (k : Nat) (a0_0 : ByteArray) (a0_1 : Int) (l0_2 : List (S74)) (a1_0 : ByteArray) (a1_1 : Int) (l1_2 : List (S74)) : Option (Bool) := if a0_0.toList = a1_0.toList then (if a0_1 = a1_1 then ((laws_sameTones.f k l0_2 l1_2).bind fun t315 => (some t315)) else (some false)) else (some false)
set_option maxHeartbeats 8000000 in
set_option maxRecDepth 100000 in
theorem laws_sameEntry.calls (k : Nat) (a0_0 : ByteArray) (a0_1 : Int) (A0_2 : Option Addr) (c0_2 : Nat) (l0_2 : List (S74)) (a1_0 : ByteArray) (a1_1 : Int) (A1_2 : Option Addr) (c1_2 : Nat) (l1_2 : List (S74)) (r : Bool) (w : World) (hr0_2 : Kd.C k74 w A0_2 l0_2.length l0_2) (hc0_2 : l0_2.length ≤ c0_2) (hr1_2 : Kd.C k74 w A1_2 l1_2.length l1_2) (hc1_2 : l1_2.length ≤ c1_2) (h : laws_sameEntry.f k a0_0 a0_1 l0_2 a1_0 a1_1 l1_2 = some r) :
 Calls Tryd.prog 10 #[.agg #[.string a0_0, .int .i64 a0_1, .slice A0_2 l0_2.length c0_2], .agg #[.string a1_0, .int .i64 a1_1, .slice A1_2 l1_2.length c1_2]] w fun e w' => e = .returned (.bool r) ∧ Below w.heap.size w w' := by
 have hu26 := Tryd.underlying26; have HR0_2 := Aside0.mk hr0_2; have HC0_2 := Aside0.mk hc0_2; clear hr0_2 hc0_2; have HR1_2 := Aside0.mk hr1_2; have HC1_2 := Aside0.mk hc1_2; clear hr1_2 hc1_2; have HB := Aside0.mk (Below.refl w.heap.size w); have H : (if a0_0.toList = a1_0.toList then (if a0_1 = a1_1 then ((laws_sameTones.f k l0_2 l1_2).bind fun t315 => (some t315)) else (some false)) else (some false)) = some r := h; clear h; by_cases c3 : a0_0.toList = a1_0.toList
 ·
  rw [if_pos c3] at H; have c3b0 : (a0_0.toList == a1_0.toList) = true := beq_iff_eq.mpr c3; have c3b1 : (a0_0.toList != a1_0.toList) = false := bne_eq_false_iff_eq.mpr c3; clear c3; by_cases c4 : a0_1 = a1_1
  ·
   rw [if_pos c4] at H; have c4b0 : (a0_1 == a1_1) = true := beq_iff_eq.mpr c4; have c4b1 : (a0_1 != a1_1) = false := bne_eq_false_iff_eq.mpr c4; clear c4; replace H := Option.bind_eq_some_iff.mp H; obtain ⟨t315, A50, H⟩ := H; replace H : (some t315) = some r := H; have A5 := Aside0.mk A50; clear A50; obtain rfl := Option.some.inj H; go_enter Tryd.func10, Tryd.ntmps10
   go_wp2_with (first | ((with_reducible refine gate_dst (N := 2) rfl ?_); refine box_event ?hg (N := 2) ?hd (cs := #[.string a0_0, .int .i64 a0_1, .slice A0_2 l0_2.length c0_2]) (t := 26) ?hr ?_; (case hd => rfl); (case hg => rfl); (case hr => first | (go_simp; done) | (go_simp; rfl)); intro gb313 hg w6 hbox hb; have n0_ := Aside0.mk (below_step (by repeat (first | (with_reducible first | exact HB.out | apply below_alloc | apply pw_below_drewN | apply below_drew1) | exact HB.out)) hb); have n1_ := Aside0.mk (hbox); have n2_ := Aside0.mk ((by rw [hg]; exact (below_size (by repeat (first | (with_reducible first | exact HB.out | apply below_alloc | apply pw_below_drewN | apply below_drew1) | exact HB.out))) : w.heap.size ≤ gb313)); have n3_ := Aside0.mk ((by rw [hg]; exact (below_size (by repeat (first | (with_reducible first | exact HB.out | apply below_alloc | apply pw_below_drewN | apply below_drew1) | exact HB.out))) : w.heap.size ≤ gb313)); clear HB; have HB := n0_; have BK313 := n1_; have GW313 := n2_; have GE313 := n3_; clear n0_ n1_ n2_ n3_; clear hb hbox hg) | ((with_reducible refine gate_dst (N := 3) rfl ?_); refine box_event ?hg (N := 3) ?hd (cs := #[.string a1_0, .int .i64 a1_1, .slice A1_2 l1_2.length c1_2]) (t := 26) ?hr ?_; (case hd => rfl); (case hg => rfl); (case hr => first | (go_simp; done) | (go_simp; rfl)); intro gb314 hg w7 hbox hb; have n0_ := Aside0.mk (blk_below (g := gb313) (o := .cells #[.string a0_0, .int .i64 a0_1, .slice A0_2 l0_2.length c0_2] 26 (0, 0)) (by (with_reducible repeat (first | refine blk_drewN ?_ _ | refine blk_drew ?_ | refine blk_alloc ?_ _)); exact BK313.out) hb); have n1_ := Aside0.mk (below_step (by repeat (first | (with_reducible first | exact HB.out | apply below_alloc | apply pw_below_drewN | apply below_drew1 | refine below_set ?_ GE313.out) | exact HB.out)) hb); have n2_ := Aside0.mk (hbox); have n3_ := Aside0.mk ((by rw [hg]; exact (below_size (by repeat (first | (with_reducible first | exact HB.out | apply below_alloc | apply pw_below_drewN | apply below_drew1 | refine below_set ?_ GE313.out) | exact HB.out))) : w.heap.size ≤ gb314)); have n4_ := Aside0.mk ((by rw [hg]; exact (below_size (by repeat (first | (with_reducible first | exact HB.out | apply below_alloc | apply pw_below_drewN | apply below_drew1 | refine below_set ?_ GE313.out) | exact HB.out))) : w.heap.size ≤ gb314)); have n5_ := Aside0.mk ((by rw [hg]; exact Nat.ne_of_lt (blk_lt (g := gb313) (o := .cells #[.string a0_0, .int .i64 a0_1, .slice A0_2 l0_2.length c0_2] 26 (0, 0)) (by (with_reducible repeat (first | refine blk_drewN ?_ _ | refine blk_drew ?_ | refine blk_alloc ?_ _)); exact BK313.out)) : gb313 ≠ gb314)); have n6_ := Aside0.mk ((by rw [hg]; exact Nat.ne_of_gt (blk_lt (g := gb313) (o := .cells #[.string a0_0, .int .i64 a0_1, .slice A0_2 l0_2.length c0_2] 26 (0, 0)) (by (with_reducible repeat (first | refine blk_drewN ?_ _ | refine blk_drew ?_ | refine blk_alloc ?_ _)); exact BK313.out)) : gb314 ≠ gb313)); clear BK313; clear HB; have BK313 := n0_; have HB := n1_; have BK314 := n2_; have GW314 := n3_; have GE314 := n4_; have NB313_314 := n5_; have NB314_313 := n6_; clear n0_ n1_ n2_ n3_ n4_ n5_ n6_; clear hb hbox hg; have hnb8 := NB313_314.out; have hnc8 := NB314_313.out; have hcz9_0 : w7.cell? ⟨gb313, 0, none⟩ = some (.string a0_0) := (blk_cell BK313.out 0).trans rfl; have hcz9_1 : w7.cell? ⟨gb313, 1, none⟩ = some (.int .i64 a0_1) := (blk_cell BK313.out 1).trans rfl; have hcz9_2 : w7.cell? ⟨gb313, 2, none⟩ = some (.slice A0_2 l0_2.length c0_2) := (blk_cell BK313.out 2).trans rfl; have hfz9_0 := blk_frozen BK313.out 0; have hfz9_1 := blk_frozen BK313.out 1; have hfz9_2 := blk_frozen BK313.out 2; have hcz10_0 : w7.cell? ⟨gb314, 0, none⟩ = some (.string a1_0) := (blk_cell BK314.out 0).trans rfl; have hcz10_1 : w7.cell? ⟨gb314, 1, none⟩ = some (.int .i64 a1_1) := (blk_cell BK314.out 1).trans rfl; have hcz10_2 : w7.cell? ⟨gb314, 2, none⟩ = some (.slice A1_2 l1_2.length c1_2) := (blk_cell BK314.out 2).trans rfl; have hfz10_0 := blk_frozen BK314.out 0; have hfz10_1 := blk_frozen BK314.out 1; have hfz10_2 := blk_frozen BK314.out 2) | (go_at_call 27; (with_reducible refine (laws_sameTones.calls k _ _ l0_2 _ _ l1_2 t315 _ ?side1 ?side2 ?side3 ?side4 A5.out).mono ?_); (case side1 => repeat (first | exact (Kd.C_below HR0_2.out HB.out) | (with_reducible refine Kd.C_alloc ?_ _) | (with_reducible refine Kd.C_drewN ?_ _) | (with_reducible refine Kd.C_drew ?_))); (case side2 => exact HC0_2.out); (case side3 => repeat (first | exact (Kd.C_below HR1_2.out HB.out) | (with_reducible refine Kd.C_alloc ?_ _) | (with_reducible refine Kd.C_drewN ?_ _) | (with_reducible refine Kd.C_drew ?_))); (case side4 => exact HC1_2.out); rintro e w' ⟨rfl, ⟨nd, rfl⟩⟩))
   go_ret
   exact ⟨by first | rfl | (simp [errW_none, errW_some] <;> rfl) | (simp [*, errW_none, errW_some] <;> rfl), by repeat (first | (with_reducible first | exact HB.out | apply below_alloc | apply pw_below_drewN | apply below_drew1 | refine below_set ?_ GE313.out | refine below_set ?_ GE314.out) | exact HB.out)⟩
  ·
   rw [if_neg c4] at H; have c4b0 : (a0_1 == a1_1) = false := beq_eq_false_iff_ne.mpr c4; have c4b1 : (a0_1 != a1_1) = true := bne_iff_ne.mpr c4; obtain rfl := Option.some.inj H; go_enter Tryd.func10, Tryd.ntmps10
   go_wp2_with (first | ((with_reducible refine gate_dst (N := 2) rfl ?_); refine box_event ?hg (N := 2) ?hd (cs := #[.string a0_0, .int .i64 a0_1, .slice A0_2 l0_2.length c0_2]) (t := 26) ?hr ?_; (case hd => rfl); (case hg => rfl); (case hr => first | (go_simp; done) | (go_simp; rfl)); intro gb313 hg w11 hbox hb; have n0_ := Aside0.mk (below_step (by repeat (first | (with_reducible first | exact HB.out | apply below_alloc | apply pw_below_drewN | apply below_drew1) | exact HB.out)) hb); have n1_ := Aside0.mk (hbox); have n2_ := Aside0.mk ((by rw [hg]; exact (below_size (by repeat (first | (with_reducible first | exact HB.out | apply below_alloc | apply pw_below_drewN | apply below_drew1) | exact HB.out))) : w.heap.size ≤ gb313)); have n3_ := Aside0.mk ((by rw [hg]; exact (below_size (by repeat (first | (with_reducible first | exact HB.out | apply below_alloc | apply pw_below_drewN | apply below_drew1) | exact HB.out))) : w.heap.size ≤ gb313)); clear HB; have HB := n0_; have BK313 := n1_; have GW313 := n2_; have GE313 := n3_; clear n0_ n1_ n2_ n3_; clear hb hbox hg) | ((with_reducible refine gate_dst (N := 3) rfl ?_); refine box_event ?hg (N := 3) ?hd (cs := #[.string a1_0, .int .i64 a1_1, .slice A1_2 l1_2.length c1_2]) (t := 26) ?hr ?_; (case hd => rfl); (case hg => rfl); (case hr => first | (go_simp; done) | (go_simp; rfl)); intro gb314 hg w12 hbox hb; have n0_ := Aside0.mk (blk_below (g := gb313) (o := .cells #[.string a0_0, .int .i64 a0_1, .slice A0_2 l0_2.length c0_2] 26 (0, 0)) (by (with_reducible repeat (first | refine blk_drewN ?_ _ | refine blk_drew ?_ | refine blk_alloc ?_ _)); exact BK313.out) hb); have n1_ := Aside0.mk (below_step (by repeat (first | (with_reducible first | exact HB.out | apply below_alloc | apply pw_below_drewN | apply below_drew1 | refine below_set ?_ GE313.out) | exact HB.out)) hb); have n2_ := Aside0.mk (hbox); have n3_ := Aside0.mk ((by rw [hg]; exact (below_size (by repeat (first | (with_reducible first | exact HB.out | apply below_alloc | apply pw_below_drewN | apply below_drew1 | refine below_set ?_ GE313.out) | exact HB.out))) : w.heap.size ≤ gb314)); have n4_ := Aside0.mk ((by rw [hg]; exact (below_size (by repeat (first | (with_reducible first | exact HB.out | apply below_alloc | apply pw_below_drewN | apply below_drew1 | refine below_set ?_ GE313.out) | exact HB.out))) : w.heap.size ≤ gb314)); have n5_ := Aside0.mk ((by rw [hg]; exact Nat.ne_of_lt (blk_lt (g := gb313) (o := .cells #[.string a0_0, .int .i64 a0_1, .slice A0_2 l0_2.length c0_2] 26 (0, 0)) (by (with_reducible repeat (first | refine blk_drewN ?_ _ | refine blk_drew ?_ | refine blk_alloc ?_ _)); exact BK313.out)) : gb313 ≠ gb314)); have n6_ := Aside0.mk ((by rw [hg]; exact Nat.ne_of_gt (blk_lt (g := gb313) (o := .cells #[.string a0_0, .int .i64 a0_1, .slice A0_2 l0_2.length c0_2] 26 (0, 0)) (by (with_reducible repeat (first | refine blk_drewN ?_ _ | refine blk_drew ?_ | refine blk_alloc ?_ _)); exact BK313.out)) : gb314 ≠ gb313)); clear BK313; clear HB; have BK313 := n0_; have HB := n1_; have BK314 := n2_; have GW314 := n3_; have GE314 := n4_; have NB313_314 := n5_; have NB314_313 := n6_; clear n0_ n1_ n2_ n3_ n4_ n5_ n6_; clear hb hbox hg; have hnb13 := NB313_314.out; have hnc13 := NB314_313.out; have hcz14_0 : w12.cell? ⟨gb313, 0, none⟩ = some (.string a0_0) := (blk_cell BK313.out 0).trans rfl; have hcz14_1 : w12.cell? ⟨gb313, 1, none⟩ = some (.int .i64 a0_1) := (blk_cell BK313.out 1).trans rfl; have hcz14_2 : w12.cell? ⟨gb313, 2, none⟩ = some (.slice A0_2 l0_2.length c0_2) := (blk_cell BK313.out 2).trans rfl; have hfz14_0 := blk_frozen BK313.out 0; have hfz14_1 := blk_frozen BK313.out 1; have hfz14_2 := blk_frozen BK313.out 2; have hcz15_0 : w12.cell? ⟨gb314, 0, none⟩ = some (.string a1_0) := (blk_cell BK314.out 0).trans rfl; have hcz15_1 : w12.cell? ⟨gb314, 1, none⟩ = some (.int .i64 a1_1) := (blk_cell BK314.out 1).trans rfl; have hcz15_2 : w12.cell? ⟨gb314, 2, none⟩ = some (.slice A1_2 l1_2.length c1_2) := (blk_cell BK314.out 2).trans rfl; have hfz15_0 := blk_frozen BK314.out 0; have hfz15_1 := blk_frozen BK314.out 1; have hfz15_2 := blk_frozen BK314.out 2))
   go_ret
   exact ⟨by first | rfl | (simp [errW_none, errW_some] <;> rfl) | (simp [*, errW_none, errW_some] <;> rfl), by repeat (first | (with_reducible first | exact HB.out | apply below_alloc | apply pw_below_drewN | apply below_drew1 | refine below_set ?_ GE313.out | refine below_set ?_ GE314.out) | exact HB.out)⟩
 ·
  rw [if_neg c3] at H; have c3b0 : (a0_0.toList == a1_0.toList) = false := beq_eq_false_iff_ne.mpr c3; have c3b1 : (a0_0.toList != a1_0.toList) = true := bne_iff_ne.mpr c3; obtain rfl := Option.some.inj H; go_enter Tryd.func10, Tryd.ntmps10
  go_wp2_with (first | ((with_reducible refine gate_dst (N := 2) rfl ?_); refine box_event ?hg (N := 2) ?hd (cs := #[.string a0_0, .int .i64 a0_1, .slice A0_2 l0_2.length c0_2]) (t := 26) ?hr ?_; (case hd => rfl); (case hg => rfl); (case hr => first | (go_simp; done) | (go_simp; rfl)); intro gb313 hg w16 hbox hb; have n0_ := Aside0.mk (below_step (by repeat (first | (with_reducible first | exact HB.out | apply below_alloc | apply pw_below_drewN | apply below_drew1) | exact HB.out)) hb); have n1_ := Aside0.mk (hbox); have n2_ := Aside0.mk ((by rw [hg]; exact (below_size (by repeat (first | (with_reducible first | exact HB.out | apply below_alloc | apply pw_below_drewN | apply below_drew1) | exact HB.out))) : w.heap.size ≤ gb313)); have n3_ := Aside0.mk ((by rw [hg]; exact (below_size (by repeat (first | (with_reducible first | exact HB.out | apply below_alloc | apply pw_below_drewN | apply below_drew1) | exact HB.out))) : w.heap.size ≤ gb313)); clear HB; have HB := n0_; have BK313 := n1_; have GW313 := n2_; have GE313 := n3_; clear n0_ n1_ n2_ n3_; clear hb hbox hg) | ((with_reducible refine gate_dst (N := 3) rfl ?_); refine box_event ?hg (N := 3) ?hd (cs := #[.string a1_0, .int .i64 a1_1, .slice A1_2 l1_2.length c1_2]) (t := 26) ?hr ?_; (case hd => rfl); (case hg => rfl); (case hr => first | (go_simp; done) | (go_simp; rfl)); intro gb314 hg w17 hbox hb; have n0_ := Aside0.mk (blk_below (g := gb313) (o := .cells #[.string a0_0, .int .i64 a0_1, .slice A0_2 l0_2.length c0_2] 26 (0, 0)) (by (with_reducible repeat (first | refine blk_drewN ?_ _ | refine blk_drew ?_ | refine blk_alloc ?_ _)); exact BK313.out) hb); have n1_ := Aside0.mk (below_step (by repeat (first | (with_reducible first | exact HB.out | apply below_alloc | apply pw_below_drewN | apply below_drew1 | refine below_set ?_ GE313.out) | exact HB.out)) hb); have n2_ := Aside0.mk (hbox); have n3_ := Aside0.mk ((by rw [hg]; exact (below_size (by repeat (first | (with_reducible first | exact HB.out | apply below_alloc | apply pw_below_drewN | apply below_drew1 | refine below_set ?_ GE313.out) | exact HB.out))) : w.heap.size ≤ gb314)); have n4_ := Aside0.mk ((by rw [hg]; exact (below_size (by repeat (first | (with_reducible first | exact HB.out | apply below_alloc | apply pw_below_drewN | apply below_drew1 | refine below_set ?_ GE313.out) | exact HB.out))) : w.heap.size ≤ gb314)); have n5_ := Aside0.mk ((by rw [hg]; exact Nat.ne_of_lt (blk_lt (g := gb313) (o := .cells #[.string a0_0, .int .i64 a0_1, .slice A0_2 l0_2.length c0_2] 26 (0, 0)) (by (with_reducible repeat (first | refine blk_drewN ?_ _ | refine blk_drew ?_ | refine blk_alloc ?_ _)); exact BK313.out)) : gb313 ≠ gb314)); have n6_ := Aside0.mk ((by rw [hg]; exact Nat.ne_of_gt (blk_lt (g := gb313) (o := .cells #[.string a0_0, .int .i64 a0_1, .slice A0_2 l0_2.length c0_2] 26 (0, 0)) (by (with_reducible repeat (first | refine blk_drewN ?_ _ | refine blk_drew ?_ | refine blk_alloc ?_ _)); exact BK313.out)) : gb314 ≠ gb313)); clear BK313; clear HB; have BK313 := n0_; have HB := n1_; have BK314 := n2_; have GW314 := n3_; have GE314 := n4_; have NB313_314 := n5_; have NB314_313 := n6_; clear n0_ n1_ n2_ n3_ n4_ n5_ n6_; clear hb hbox hg; have hnb18 := NB313_314.out; have hnc18 := NB314_313.out; have hcz19_0 : w17.cell? ⟨gb313, 0, none⟩ = some (.string a0_0) := (blk_cell BK313.out 0).trans rfl; have hcz19_1 : w17.cell? ⟨gb313, 1, none⟩ = some (.int .i64 a0_1) := (blk_cell BK313.out 1).trans rfl; have hcz19_2 : w17.cell? ⟨gb313, 2, none⟩ = some (.slice A0_2 l0_2.length c0_2) := (blk_cell BK313.out 2).trans rfl; have hfz19_0 := blk_frozen BK313.out 0; have hfz19_1 := blk_frozen BK313.out 1; have hfz19_2 := blk_frozen BK313.out 2; have hcz20_0 : w17.cell? ⟨gb314, 0, none⟩ = some (.string a1_0) := (blk_cell BK314.out 0).trans rfl; have hcz20_1 : w17.cell? ⟨gb314, 1, none⟩ = some (.int .i64 a1_1) := (blk_cell BK314.out 1).trans rfl; have hcz20_2 : w17.cell? ⟨gb314, 2, none⟩ = some (.slice A1_2 l1_2.length c1_2) := (blk_cell BK314.out 2).trans rfl; have hfz20_0 := blk_frozen BK314.out 0; have hfz20_1 := blk_frozen BK314.out 1; have hfz20_2 := blk_frozen BK314.out 2))
  go_ret
  exact ⟨by first | rfl | (simp [errW_none, errW_some] <;> rfl) | (simp [*, errW_none, errW_some] <;> rfl), by repeat (first | (with_reducible first | exact HB.out | apply below_alloc | apply pw_below_drewN | apply below_drew1 | refine below_set ?_ GE313.out | refine below_set ?_ GE314.out) | exact HB.out)⟩

end Go.Proofs.YtknfnmdfdkdipaaDoor.PFnTonaryAdd
namespace Go.Proofs.YtknfnmdfdkdipaaDoor.PFnTonaryAdd
open Go.RowKit Go.Proofs.YtknfnmdfdkdipaaDoorW.PrintWords Go.Proofs.YtknfnmdfdkdipaaDoorW.PrintLast Go.Proofs.YtknfnmdfdkdipaaDoorW.PrintMore
attribute [local go_sem] max2_int min2_int max_two min_two max_three min_three max_four min_four   -- for this text's walks alone
set_option linter.unusedVariables false
set_option linter.unusedSimpArgs false

def laws_sameEntries.l0 : Nat → List (S26) → List (S26) → Int → Option (Bool)
 | 0, _, _, _ => none
 | k + 1, x0, x1, x5 => if x5 < (x0.length : Int) then (if 0 ≤ x5 then (if x5 < (x1.length : Int) then ((laws_sameEntry.f k ((rd_T26 x0 x5).f0) ((rd_T26 x0 x5).f1) ((rd_T26 x0 x5).f2) ((rd_T26 x1 x5).f0) ((rd_T26 x1 x5).f1) ((rd_T26 x1 x5).f2)).bind fun t318 => (if t318 = true then (laws_sameEntries.l0 k x0 x1 (wrap64 (x5 + 1))) else (some false))) else (none)) else (none)) else (some true)
def laws_sameEntries.f (k : Nat) (l0 : List (S26)) (l1 : List (S26)) : Option (Bool) := if (l0.length : Int) = (l1.length : Int) then (laws_sameEntries.l0 k l0 l1 0) else (some false)
def laws_sameEntries.T6 : Bool × List (List Nat × List Nat) := (true, [([], []), ([], []), ([0, 1], [0, 1]), ([2], [2]), ([], []), ([], []), ([4, 5], [4, 5]), ([6], [6]), ([3, 7], [3, 7]), ([8], [8])])
def laws_sameEntries.B6 : List Nat := [0, 0, 3, 7, 0, 0, 48, 112, 255, 511]
theorem laws_sameEntries.tab6 : rtab .any (opsOf Tryd.f7 6) = laws_sameEntries.T6 := by kernel_rfl
theorem laws_sameEntries.bits6 : waitsOk laws_sameEntries.T6.2 laws_sameEntries.B6 = true := by kernel_rfl
set_option maxHeartbeats 8000000 in
set_option maxRecDepth 100000 in
theorem laws_sameEntries.calls (k : Nat) (A0 : Option Addr) (c0 : Nat) (l0 : List (S26)) (A1 : Option Addr) (c1 : Nat) (l1 : List (S26)) (r : Bool) (w : World) (hr0 : Kd.C k26 w A0 l0.length l0) (hc0 : l0.length ≤ c0) (hr1 : Kd.C k26 w A1 l1.length l1) (hc1 : l1.length ≤ c1) (h : laws_sameEntries.f k l0 l1 = some r) :
 Calls Tryd.prog 7 #[.slice A0 l0.length c0, .slice A1 l1.length c1] w fun e w' => e = .returned (.bool r) ∧ Below w.heap.size w w' := by
 have hu26 := Tryd.underlying26; have HR0 := Aside0.mk hr0; have HC0 := Aside0.mk hc0; clear hr0 hc0; have HR1 := Aside0.mk hr1; have HC1 := Aside0.mk hc1; clear hr1 hc1; have HB := Aside0.mk (Below.refl w.heap.size w); have H : (if (l0.length : Int) = (l1.length : Int) then (laws_sameEntries.l0 k l0 l1 0) else (some false)) = some r := h; clear h; by_cases c3 : (l0.length : Int) = (l1.length : Int)
 ·
  rw [if_pos c3] at H; have c3b0 : ((l0.length : Int) == (l1.length : Int)) = true := beq_iff_eq.mpr c3; have c3b1 : ((l0.length : Int) != (l1.length : Int)) = false := bne_eq_false_iff_eq.mpr c3; have c3b2 : (l0.length == l1.length) = true := by first | simpa using c3 | (simp at c3 ⊢; omega)
  clear c3; have H' := Aside0.mk H; clear H; go_enter Tryd.func7, Tryd.ntmps7
  go_wp2; go_loopg [5] k (fun kq v5 w' => ∃ (x5_1 : Int), v5 = .int .i64 x5_1 ∧ Aside0 (laws_sameEntries.l0 kq l0 l1 x5_1 = some r) ∧ Aside0 (kq ≤ k) ∧ Aside0 (Below w.heap.size w w'))
  case atStart => exact ⟨(0), (by first | rfl | (simp; done) | (simp [*]; done)), H', ⟨Nat.le_refl _⟩, ⟨by repeat (first | (with_reducible first | exact HB.out | apply below_alloc | apply pw_below_drewN | apply below_drew1) | exact HB.out)⟩⟩
  case round =>
   clear H'; try clear c1
   try clear p2
   try clear c3
   try clear c3b0
   try clear c3b1
   try clear c3b2
   obtain ⟨x5_1, rfl, HA, HK1, HB⟩ := hrel; cases gk with
   | zero => exact absurd HA.out (by simp [laws_sameEntries.l0])
   | succ k1 =>
    have H := HA.out; clear HA; simp only [laws_sameEntries.l0] at H; by_cases c4 : x5_1 < (l0.length : Int)
    ·
     rw [if_pos c4] at H; have c4b0 : decide (x5_1 < (l0.length : Int)) = true := decide_eq_true c4; clear c4; by_cases c5 : 0 ≤ x5_1
     ·
      rw [if_pos c5] at H; have c5b0 : decide (0 ≤ x5_1) = true := decide_eq_true c5; clear c5; by_cases c6 : x5_1 < (l1.length : Int)
      ·
       rw [if_pos c6] at H; have c6b0 : decide (x5_1 < (l1.length : Int)) = true := decide_eq_true c6; clear c6; replace H := Option.bind_eq_some_iff.mp H; obtain ⟨t318, A70, H⟩ := H; replace H : (if t318 = true then (laws_sameEntries.l0 k1 l0 l1 (wrap64 (x5_1 + 1))) else (some false)) = some r := H; have A7 := Aside0.mk A70; clear A70; by_cases c8 : t318 = true
       ·
        subst c8; have H1 : (laws_sameEntries.l0 k1 l0 l1 (wrap64 (x5_1 + 1))) = some r := by rw [if_pos rfl] at H; exact H
        clear H; have H := H1; clear H1; have H' := Aside0.mk H; clear H; try go_wp2
        have n0_ := Aside0.mk (below_drew1 HB.out); clear HB; have HB := n0_; clear n0_; have p316 : 0 ≤ (x5_1 : Int) := of_decide_eq_true (by first | (with_reducible assumption) | assumption); have q316 : x5_1 < (l0.length : Int) := of_decide_eq_true (by first | (with_reducible assumption) | assumption); obtain ⟨ad316, A316_2, c316_2, e316, hx316_0, hx316_1, hx316_2, hl316_2, hi316_2⟩ := at_T26 HR0.out x5_1 p316 q316; have hw316_2 := hx316_2; have hw316_1 := hx316_1; have hw316_0 := hx316_0; cases e316; replace hx316_0 := (HB.out.cell (World.block_lt_of_cell? w _ hx316_0)).trans hx316_0; replace hx316_1 := (HB.out.cell (World.block_lt_of_cell? w _ hx316_1)).trans hx316_1; replace hx316_2 := (HB.out.cell (World.block_lt_of_cell? w _ hx316_2)).trans hx316_2; have HR316_2 := Aside0.mk hi316_2; have HC316_2 := Aside0.mk hl316_2; clear hi316_2 hl316_2; replace p316 := eq_true p316; replace q316 := eq_true q316; have p317 : 0 ≤ (x5_1 : Int) := of_decide_eq_true (by first | (with_reducible assumption) | assumption); have q317 : x5_1 < (l1.length : Int) := of_decide_eq_true (by first | (with_reducible assumption) | assumption); obtain ⟨ad317, A317_2, c317_2, e317, hx317_0, hx317_1, hx317_2, hl317_2, hi317_2⟩ := at_T26 HR1.out x5_1 p317 q317; have hw317_2 := hx317_2; have hw317_1 := hx317_1; have hw317_0 := hx317_0; cases e317; replace hx317_0 := (HB.out.cell (World.block_lt_of_cell? w _ hx317_0)).trans hx317_0; replace hx317_1 := (HB.out.cell (World.block_lt_of_cell? w _ hx317_1)).trans hx317_1; replace hx317_2 := (HB.out.cell (World.block_lt_of_cell? w _ hx317_2)).trans hx317_2; have HR317_2 := Aside0.mk hi317_2; have HC317_2 := Aside0.mk hl317_2; clear hi317_2 hl317_2; replace p317 := eq_true p317; replace q317 := eq_true q317; refine start_ (n := 10) (S := fun w' => w'.cell? (ad316.add ((x5_1).toNat * 3)) = some (.string ((rd_T26 l0 x5_1).f0)) ∧ w'.cell? ⟨(ad316.add ((x5_1).toNat * 3)).block, (ad316.add ((x5_1).toNat * 3)).off + 1, none⟩ = some (.int .i64 ((rd_T26 l0 x5_1).f1)) ∧ w'.cell? ⟨(ad316.add ((x5_1).toNat * 3)).block, (ad316.add ((x5_1).toNat * 3)).off + 2, none⟩ = some (.slice A316_2 ((rd_T26 l0 x5_1).f2).length c316_2) ∧ w'.cell? (ad317.add ((x5_1).toNat * 3)) = some (.string ((rd_T26 l1 x5_1).f0)) ∧ w'.cell? ⟨(ad317.add ((x5_1).toNat * 3)).block, (ad317.add ((x5_1).toNat * 3)).off + 1, none⟩ = some (.int .i64 ((rd_T26 l1 x5_1).f1)) ∧ w'.cell? ⟨(ad317.add ((x5_1).toNat * 3)).block, (ad317.add ((x5_1).toNat * 3)).off + 2, none⟩ = some (.slice A317_2 ((rd_T26 l1 x5_1).f2).length c317_2)) (ds := []) (rowB 10 0) (by kernel_rfl) rfl rfl ⟨((HB.out.cell (World.block_lt_of_cell? w _ hw316_0)).trans hw316_0), ((HB.out.cell (World.block_lt_of_cell? w _ hw316_1)).trans hw316_1), ((HB.out.cell (World.block_lt_of_cell? w _ hw316_2)).trans hw316_2), ((HB.out.cell (World.block_lt_of_cell? w _ hw317_0)).trans hw317_0), ((HB.out.cell (World.block_lt_of_cell? w _ hw317_1)).trans hw317_1), ((HB.out.cell (World.block_lt_of_cell? w _ hw317_2)).trans hw317_2)⟩ (fun hHeld => ?_); refine with_tabW laws_sameEntries.tab6 laws_sameEntries.bits6 (fun HT_ HW_ => ?_); generalize wr.drew = w9 at HB HR316_2 HR317_2 hx316_0 hx316_1 hx316_2 hx317_0 hx317_1 hx317_2 hHeld ⊢; refine pure_ (i := 0) (N := some 17) (v := ?_) (a' := ?_) (rowB 10 1) rfl rfl (any_of HT_.out (by kernel_rfl)) (fun _ _ _ h => h) (Or.inl ⟨by rfl, ?_⟩) ?_ ?_; rotate_left; (· intro w'; go_simp; with_reducible rfl); rotate_left; (· simp only [Act.put, List.setIfInBounds_toArray, List.set_cons_zero, List.set_cons_succ, i64_w, i32_w]; rfl); refine pure_ (i := 1) (N := some 18) (v := ?_) (a' := ?_) (rowB 10 3) rfl rfl (any_of HT_.out (by kernel_rfl)) (fun _ _ _ h => h) (Or.inl ⟨by rfl, ?_⟩) ?_ ?_; rotate_left; (· intro w'; go_simp; with_reducible rfl); rotate_left; (· simp only [Act.put, List.setIfInBounds_toArray, List.set_cons_zero, List.set_cons_succ, i64_w, i32_w]; rfl); refine pure_ (i := 2) (N := some 19) (v := ?_) (a' := ?_) (rowB 10 7) rfl rfl (any_of HT_.out (by kernel_rfl)) (fun _ _ _ h => h) (Or.inl ⟨by rfl, ?_⟩) ?_ ?_; rotate_left; (· intro w'; go_simp; with_reducible rfl); rotate_left; (· simp only [Act.put, List.setIfInBounds_toArray, List.set_cons_zero, List.set_cons_succ, i64_w, i32_w]; rfl); refine pure_ (i := 4) (N := some 21) (v := ?_) (a' := ?_) (rowB 10 23) rfl rfl (any_of HT_.out (by kernel_rfl)) (fun _ _ _ h => h) (Or.inl ⟨by rfl, ?_⟩) ?_ ?_; rotate_left; (· intro w'; go_simp; with_reducible rfl); rotate_left; (· simp only [Act.put, List.setIfInBounds_toArray, List.set_cons_zero, List.set_cons_succ, i64_w, i32_w]; rfl); refine pure_ (i := 5) (N := some 22) (v := ?_) (a' := ?_) (rowB 10 55) rfl rfl (any_of HT_.out (by kernel_rfl)) (fun _ _ _ h => h) (Or.inl ⟨by rfl, ?_⟩) ?_ ?_; rotate_left; (· intro w'; go_simp; with_reducible rfl); rotate_left; (· simp only [Act.put, List.setIfInBounds_toArray, List.set_cons_zero, List.set_cons_succ, i64_w, i32_w]; rfl); refine pure_ (i := 6) (N := some 23) (v := ?_) (a' := ?_) (rowB 10 119) rfl rfl (any_of HT_.out (by kernel_rfl)) (fun _ _ _ h => h) (Or.inl ⟨by rfl, ?_⟩) ?_ ?_; rotate_left; (· intro w'; go_simp; with_reducible rfl); rotate_left; (· simp only [Act.put, List.setIfInBounds_toArray, List.set_cons_zero, List.set_cons_succ, i64_w, i32_w]; rfl); refine take_ (i := 3) (N := some 20) (v := ?_) (a' := ?_) (rowB 10 127) rfl rfl (take_ofW HT_.out HW_.out (by kernel_rfl)) (fun _ _ _ h => h) (Or.inl ⟨by rfl, ?_⟩) hHeld ?_ ?_; rotate_left; (· rintro w' ⟨s0, s1, s2, s3, s4, s5⟩; go_simp; with_reducible rfl); rotate_left; (· simp only [Act.put, List.setIfInBounds_toArray, List.set_cons_zero, List.set_cons_succ, i64_w, i32_w]; rfl); refine take_ (i := 7) (N := some 24) (v := ?_) (a' := ?_) (rowB 10 255) rfl rfl (take_ofW HT_.out HW_.out (by kernel_rfl)) (fun _ _ _ h => h) (Or.inl ⟨by rfl, ?_⟩) hHeld ?_ ?_; rotate_left; (· rintro w' ⟨s0, s1, s2, s3, s4, s5⟩; go_simp; with_reducible rfl); rotate_left; (· simp only [Act.put, List.setIfInBounds_toArray, List.set_cons_zero, List.set_cons_succ, i64_w, i32_w]; rfl); refine one_ (i := 8) (N := some 25) (rowB 10 511) rfl rfl (one_of HT_.out (by kernel_rfl)) (by decide) (fun K hK => ?_); refine goes_ Tryd.func10 (by kernel_rfl) rfl #[.agg #[.string ((rd_T26 l0 x5_1).f0), .int .i64 ((rd_T26 l0 x5_1).f1), .slice A316_2 ((rd_T26 l0 x5_1).f2).length c316_2], .agg #[.string ((rd_T26 l1 x5_1).f0), .int .i64 ((rd_T26 l1 x5_1).f1), .slice A317_2 ((rd_T26 l1 x5_1).f2).length c317_2]] (by rfl) rfl rfl (by (try simp only [List.map_toArray, List.map_cons, List.map_nil]); first | done | rfl | (simp only [List.length_drop, List.length_take]; rfl)) ?_; with_reducible refine (laws_sameEntry.calls k1 ((rd_T26 l0 x5_1).f0) ((rd_T26 l0 x5_1).f1) _ _ ((rd_T26 l0 x5_1).f2) ((rd_T26 l1 x5_1).f0) ((rd_T26 l1 x5_1).f1) _ _ ((rd_T26 l1 x5_1).f2) true _ ?side1 ?side2 ?side3 ?side4 A7.out).mono ?_
        (case side1 => repeat (first | exact (Kd.C_below HR316_2.out HB.out) | (with_reducible refine Kd.C_alloc ?_ _) | (with_reducible refine Kd.C_drewN ?_ _) | (with_reducible refine Kd.C_drew ?_)))
        (case side2 => exact HC316_2.out)
        (case side3 => repeat (first | exact (Kd.C_below HR317_2.out HB.out) | (with_reducible refine Kd.C_alloc ?_ _) | (with_reducible refine Kd.C_drewN ?_ _) | (with_reducible refine Kd.C_drew ?_)))
        (case side4 => exact HC317_2.out)
        rintro e w10 ⟨rfl, hb⟩; refine ⟨_, rfl, ?_⟩; have n0_ := Aside0.mk (below_step (by repeat (first | (with_reducible first | exact HB.out | apply below_alloc | apply pw_below_drewN | apply below_drew1) | exact HB.out)) hb); clear HB; have HB := n0_; clear n0_; (try clear hb)
        (try clear hb2)
        (try clear hk)
        (try clear hi)
        refine hK.out _ _ ⟨((HB.out.cell (World.block_lt_of_cell? w _ hw316_0)).trans hw316_0), ((HB.out.cell (World.block_lt_of_cell? w _ hw316_1)).trans hw316_1), ((HB.out.cell (World.block_lt_of_cell? w _ hw316_2)).trans hw316_2), ((HB.out.cell (World.block_lt_of_cell? w _ hw317_0)).trans hw317_0), ((HB.out.cell (World.block_lt_of_cell? w _ hw317_1)).trans hw317_1), ((HB.out.cell (World.block_lt_of_cell? w _ hw317_2)).trans hw317_2)⟩ (fun hHeld => ?_); clear hK K; refine norm_ (a' := ?_) ?_ ?_; rotate_left; (· show Act.put _ (some 25) _ = _; simp only [Act.put, List.setIfInBounds_toArray, List.set_cons_zero, List.set_cons_succ, i64_w, i32_w]; rfl); refine pure_ (i := 9) (N := some 26) (v := ?_) (a' := ?_) (rowB 10 1023) rfl rfl (any_of HT_.out (by kernel_rfl)) (fun _ _ _ h => h) (Or.inl ⟨by rfl, ?_⟩) ?_ ?_; rotate_left; (· intro w'; go_simp; with_reducible rfl); rotate_left; (· simp only [Act.put, List.setIfInBounds_toArray, List.set_cons_zero, List.set_cons_succ, i64_w, i32_w]; rfl); refine done_ (done_of HT_.out (by kernel_rfl)) ?_; try go_wp2
        go_roundg k1
        case measure => have := HK1.out; omega
        case rel => exact ⟨(wrap64 (x5_1 + 1)), (by first | rfl | (simp; done) | (simp [*]; done)), H', ⟨by have := HK1.out; omega⟩, ⟨by repeat (first | (with_reducible first | exact HB.out | apply below_alloc | apply pw_below_drewN | apply below_drew1) | exact HB.out)⟩⟩
       ·
        replace c8 := Bool.eq_false_iff.mpr c8; subst c8; have H1 : (some false) = some r := by rw [if_neg (show ¬ (false = true) by decide)] at H; exact H
        clear H; have H := H1; clear H1; obtain rfl := Option.some.inj H; try go_wp2
        have n0_ := Aside0.mk (below_drew1 HB.out); clear HB; have HB := n0_; clear n0_; have p316 : 0 ≤ (x5_1 : Int) := of_decide_eq_true (by first | (with_reducible assumption) | assumption); have q316 : x5_1 < (l0.length : Int) := of_decide_eq_true (by first | (with_reducible assumption) | assumption); obtain ⟨ad316, A316_2, c316_2, e316, hx316_0, hx316_1, hx316_2, hl316_2, hi316_2⟩ := at_T26 HR0.out x5_1 p316 q316; have hw316_2 := hx316_2; have hw316_1 := hx316_1; have hw316_0 := hx316_0; cases e316; replace hx316_0 := (HB.out.cell (World.block_lt_of_cell? w _ hx316_0)).trans hx316_0; replace hx316_1 := (HB.out.cell (World.block_lt_of_cell? w _ hx316_1)).trans hx316_1; replace hx316_2 := (HB.out.cell (World.block_lt_of_cell? w _ hx316_2)).trans hx316_2; have HR316_2 := Aside0.mk hi316_2; have HC316_2 := Aside0.mk hl316_2; clear hi316_2 hl316_2; replace p316 := eq_true p316; replace q316 := eq_true q316; have p317 : 0 ≤ (x5_1 : Int) := of_decide_eq_true (by first | (with_reducible assumption) | assumption); have q317 : x5_1 < (l1.length : Int) := of_decide_eq_true (by first | (with_reducible assumption) | assumption); obtain ⟨ad317, A317_2, c317_2, e317, hx317_0, hx317_1, hx317_2, hl317_2, hi317_2⟩ := at_T26 HR1.out x5_1 p317 q317; have hw317_2 := hx317_2; have hw317_1 := hx317_1; have hw317_0 := hx317_0; cases e317; replace hx317_0 := (HB.out.cell (World.block_lt_of_cell? w _ hx317_0)).trans hx317_0; replace hx317_1 := (HB.out.cell (World.block_lt_of_cell? w _ hx317_1)).trans hx317_1; replace hx317_2 := (HB.out.cell (World.block_lt_of_cell? w _ hx317_2)).trans hx317_2; have HR317_2 := Aside0.mk hi317_2; have HC317_2 := Aside0.mk hl317_2; clear hi317_2 hl317_2; replace p317 := eq_true p317; replace q317 := eq_true q317; refine start_ (n := 10) (S := fun w' => w'.cell? (ad316.add ((x5_1).toNat * 3)) = some (.string ((rd_T26 l0 x5_1).f0)) ∧ w'.cell? ⟨(ad316.add ((x5_1).toNat * 3)).block, (ad316.add ((x5_1).toNat * 3)).off + 1, none⟩ = some (.int .i64 ((rd_T26 l0 x5_1).f1)) ∧ w'.cell? ⟨(ad316.add ((x5_1).toNat * 3)).block, (ad316.add ((x5_1).toNat * 3)).off + 2, none⟩ = some (.slice A316_2 ((rd_T26 l0 x5_1).f2).length c316_2) ∧ w'.cell? (ad317.add ((x5_1).toNat * 3)) = some (.string ((rd_T26 l1 x5_1).f0)) ∧ w'.cell? ⟨(ad317.add ((x5_1).toNat * 3)).block, (ad317.add ((x5_1).toNat * 3)).off + 1, none⟩ = some (.int .i64 ((rd_T26 l1 x5_1).f1)) ∧ w'.cell? ⟨(ad317.add ((x5_1).toNat * 3)).block, (ad317.add ((x5_1).toNat * 3)).off + 2, none⟩ = some (.slice A317_2 ((rd_T26 l1 x5_1).f2).length c317_2)) (ds := []) (rowB 10 0) (by kernel_rfl) rfl rfl ⟨((HB.out.cell (World.block_lt_of_cell? w _ hw316_0)).trans hw316_0), ((HB.out.cell (World.block_lt_of_cell? w _ hw316_1)).trans hw316_1), ((HB.out.cell (World.block_lt_of_cell? w _ hw316_2)).trans hw316_2), ((HB.out.cell (World.block_lt_of_cell? w _ hw317_0)).trans hw317_0), ((HB.out.cell (World.block_lt_of_cell? w _ hw317_1)).trans hw317_1), ((HB.out.cell (World.block_lt_of_cell? w _ hw317_2)).trans hw317_2)⟩ (fun hHeld => ?_); refine with_tabW laws_sameEntries.tab6 laws_sameEntries.bits6 (fun HT_ HW_ => ?_); generalize wr.drew = w11 at HB HR316_2 HR317_2 hx316_0 hx316_1 hx316_2 hx317_0 hx317_1 hx317_2 hHeld ⊢; refine pure_ (i := 0) (N := some 17) (v := ?_) (a' := ?_) (rowB 10 1) rfl rfl (any_of HT_.out (by kernel_rfl)) (fun _ _ _ h => h) (Or.inl ⟨by rfl, ?_⟩) ?_ ?_; rotate_left; (· intro w'; go_simp; with_reducible rfl); rotate_left; (· simp only [Act.put, List.setIfInBounds_toArray, List.set_cons_zero, List.set_cons_succ, i64_w, i32_w]; rfl); refine pure_ (i := 1) (N := some 18) (v := ?_) (a' := ?_) (rowB 10 3) rfl rfl (any_of HT_.out (by kernel_rfl)) (fun _ _ _ h => h) (Or.inl ⟨by rfl, ?_⟩) ?_ ?_; rotate_left; (· intro w'; go_simp; with_reducible rfl); rotate_left; (· simp only [Act.put, List.setIfInBounds_toArray, List.set_cons_zero, List.set_cons_succ, i64_w, i32_w]; rfl); refine pure_ (i := 2) (N := some 19) (v := ?_) (a' := ?_) (rowB 10 7) rfl rfl (any_of HT_.out (by kernel_rfl)) (fun _ _ _ h => h) (Or.inl ⟨by rfl, ?_⟩) ?_ ?_; rotate_left; (· intro w'; go_simp; with_reducible rfl); rotate_left; (· simp only [Act.put, List.setIfInBounds_toArray, List.set_cons_zero, List.set_cons_succ, i64_w, i32_w]; rfl); refine pure_ (i := 4) (N := some 21) (v := ?_) (a' := ?_) (rowB 10 23) rfl rfl (any_of HT_.out (by kernel_rfl)) (fun _ _ _ h => h) (Or.inl ⟨by rfl, ?_⟩) ?_ ?_; rotate_left; (· intro w'; go_simp; with_reducible rfl); rotate_left; (· simp only [Act.put, List.setIfInBounds_toArray, List.set_cons_zero, List.set_cons_succ, i64_w, i32_w]; rfl); refine pure_ (i := 5) (N := some 22) (v := ?_) (a' := ?_) (rowB 10 55) rfl rfl (any_of HT_.out (by kernel_rfl)) (fun _ _ _ h => h) (Or.inl ⟨by rfl, ?_⟩) ?_ ?_; rotate_left; (· intro w'; go_simp; with_reducible rfl); rotate_left; (· simp only [Act.put, List.setIfInBounds_toArray, List.set_cons_zero, List.set_cons_succ, i64_w, i32_w]; rfl); refine pure_ (i := 6) (N := some 23) (v := ?_) (a' := ?_) (rowB 10 119) rfl rfl (any_of HT_.out (by kernel_rfl)) (fun _ _ _ h => h) (Or.inl ⟨by rfl, ?_⟩) ?_ ?_; rotate_left; (· intro w'; go_simp; with_reducible rfl); rotate_left; (· simp only [Act.put, List.setIfInBounds_toArray, List.set_cons_zero, List.set_cons_succ, i64_w, i32_w]; rfl); refine take_ (i := 3) (N := some 20) (v := ?_) (a' := ?_) (rowB 10 127) rfl rfl (take_ofW HT_.out HW_.out (by kernel_rfl)) (fun _ _ _ h => h) (Or.inl ⟨by rfl, ?_⟩) hHeld ?_ ?_; rotate_left; (· rintro w' ⟨s0, s1, s2, s3, s4, s5⟩; go_simp; with_reducible rfl); rotate_left; (· simp only [Act.put, List.setIfInBounds_toArray, List.set_cons_zero, List.set_cons_succ, i64_w, i32_w]; rfl); refine take_ (i := 7) (N := some 24) (v := ?_) (a' := ?_) (rowB 10 255) rfl rfl (take_ofW HT_.out HW_.out (by kernel_rfl)) (fun _ _ _ h => h) (Or.inl ⟨by rfl, ?_⟩) hHeld ?_ ?_; rotate_left; (· rintro w' ⟨s0, s1, s2, s3, s4, s5⟩; go_simp; with_reducible rfl); rotate_left; (· simp only [Act.put, List.setIfInBounds_toArray, List.set_cons_zero, List.set_cons_succ, i64_w, i32_w]; rfl); refine one_ (i := 8) (N := some 25) (rowB 10 511) rfl rfl (one_of HT_.out (by kernel_rfl)) (by decide) (fun K hK => ?_); refine goes_ Tryd.func10 (by kernel_rfl) rfl #[.agg #[.string ((rd_T26 l0 x5_1).f0), .int .i64 ((rd_T26 l0 x5_1).f1), .slice A316_2 ((rd_T26 l0 x5_1).f2).length c316_2], .agg #[.string ((rd_T26 l1 x5_1).f0), .int .i64 ((rd_T26 l1 x5_1).f1), .slice A317_2 ((rd_T26 l1 x5_1).f2).length c317_2]] (by rfl) rfl rfl (by (try simp only [List.map_toArray, List.map_cons, List.map_nil]); first | done | rfl | (simp only [List.length_drop, List.length_take]; rfl)) ?_; with_reducible refine (laws_sameEntry.calls k1 ((rd_T26 l0 x5_1).f0) ((rd_T26 l0 x5_1).f1) _ _ ((rd_T26 l0 x5_1).f2) ((rd_T26 l1 x5_1).f0) ((rd_T26 l1 x5_1).f1) _ _ ((rd_T26 l1 x5_1).f2) false _ ?side1 ?side2 ?side3 ?side4 A7.out).mono ?_
        (case side1 => repeat (first | exact (Kd.C_below HR316_2.out HB.out) | (with_reducible refine Kd.C_alloc ?_ _) | (with_reducible refine Kd.C_drewN ?_ _) | (with_reducible refine Kd.C_drew ?_)))
        (case side2 => exact HC316_2.out)
        (case side3 => repeat (first | exact (Kd.C_below HR317_2.out HB.out) | (with_reducible refine Kd.C_alloc ?_ _) | (with_reducible refine Kd.C_drewN ?_ _) | (with_reducible refine Kd.C_drew ?_)))
        (case side4 => exact HC317_2.out)
        rintro e w12 ⟨rfl, hb⟩; refine ⟨_, rfl, ?_⟩; have n0_ := Aside0.mk (below_step (by repeat (first | (with_reducible first | exact HB.out | apply below_alloc | apply pw_below_drewN | apply below_drew1) | exact HB.out)) hb); clear HB; have HB := n0_; clear n0_; (try clear hb)
        (try clear hb2)
        (try clear hk)
        (try clear hi)
        refine hK.out _ _ ⟨((HB.out.cell (World.block_lt_of_cell? w _ hw316_0)).trans hw316_0), ((HB.out.cell (World.block_lt_of_cell? w _ hw316_1)).trans hw316_1), ((HB.out.cell (World.block_lt_of_cell? w _ hw316_2)).trans hw316_2), ((HB.out.cell (World.block_lt_of_cell? w _ hw317_0)).trans hw317_0), ((HB.out.cell (World.block_lt_of_cell? w _ hw317_1)).trans hw317_1), ((HB.out.cell (World.block_lt_of_cell? w _ hw317_2)).trans hw317_2)⟩ (fun hHeld => ?_); clear hK K; refine norm_ (a' := ?_) ?_ ?_; rotate_left; (· show Act.put _ (some 25) _ = _; simp only [Act.put, List.setIfInBounds_toArray, List.set_cons_zero, List.set_cons_succ, i64_w, i32_w]; rfl); refine pure_ (i := 9) (N := some 26) (v := ?_) (a' := ?_) (rowB 10 1023) rfl rfl (any_of HT_.out (by kernel_rfl)) (fun _ _ _ h => h) (Or.inl ⟨by rfl, ?_⟩) ?_ ?_; rotate_left; (· intro w'; go_simp; with_reducible rfl); rotate_left; (· simp only [Act.put, List.setIfInBounds_toArray, List.set_cons_zero, List.set_cons_succ, i64_w, i32_w]; rfl); refine done_ (done_of HT_.out (by kernel_rfl)) ?_; try go_wp2
        go_ret
        exact ⟨by first | rfl | (simp [errW_none, errW_some] <;> rfl) | (simp [*, errW_none, errW_some] <;> rfl), by repeat (first | (with_reducible first | exact HB.out | apply below_alloc | apply pw_below_drewN | apply below_drew1) | exact HB.out)⟩
      ·
       rw [if_neg c6] at H; exact absurd H (by simp)
     ·
      rw [if_neg c5] at H; exact absurd H (by simp)
    ·
     rw [if_neg c4] at H; have c4b0 : decide (x5_1 < (l0.length : Int)) = false := decide_eq_false c4; clear c4; obtain rfl := Option.some.inj H; go_wp2; go_ret
     exact ⟨by first | rfl | (simp [errW_none, errW_some] <;> rfl) | (simp [*, errW_none, errW_some] <;> rfl), by repeat (first | (with_reducible first | exact HB.out | apply below_alloc | apply pw_below_drewN | apply below_drew1) | exact HB.out)⟩
 ·
  rw [if_neg c3] at H; have c3b0 : ((l0.length : Int) == (l1.length : Int)) = false := beq_eq_false_iff_ne.mpr c3; have c3b1 : ((l0.length : Int) != (l1.length : Int)) = true := bne_iff_ne.mpr c3; have c3b2 : (l0.length == l1.length) = false := by first | simpa using c3 | (simp at c3 ⊢; omega)
  obtain rfl := Option.some.inj H; go_enter Tryd.func7, Tryd.ntmps7
  go_wp2; go_ret
  exact ⟨by first | rfl | (simp [errW_none, errW_some] <;> rfl) | (simp [*, errW_none, errW_some] <;> rfl), by repeat (first | (with_reducible first | exact HB.out | apply below_alloc | apply pw_below_drewN | apply below_drew1) | exact HB.out)⟩

end Go.Proofs.YtknfnmdfdkdipaaDoor.PFnTonaryAdd
namespace Go.Proofs.YtknfnmdfdkdipaaDoor.PFnTonaryAdd
set_option linter.unusedVariables false
set_option linter.unusedSimpArgs false
open Go Go.RowKit Go.Proofs.YtknfnmdfdkdipaaDoor.Pure Go.Proofs.YtknfnmdfdkdipaaDoorW.PrintWords Go.Proofs.YtknfnmdfdkdipaaDoorW.PrintLast Go.Proofs.YtknfnmdfdkdipaaDoorW.PrintMore
def impl_TonaryDrop.f (l0 : List S26) (a1 : Int) (a2 : ByteArray) : Option (List S26 × Bool) := if entSz l0 = true then some (tonDrop l0 a1 a2) else none
theorem impl_TonaryDrop.calls (A0 : Option Addr) (c0 : Nat) (l0 : List S26) (a1 : Int) (a2 : ByteArray) (r1 : List S26) (r2 : Bool) (w : World) (ht : DTab w) (hr0 : Kd.C k26 w A0 l0.length l0) (hc0 : l0.length ≤ c0) (h : impl_TonaryDrop.f l0 a1 a2 = some (r1, r2)) :
 Calls Tryd.prog 8 #[.slice A0 l0.length c0, .int .i64 a1, .string a2] w fun e w' => ∃ v0_ : Value, e = .returned (.tuple #[v0_, .bool r2]) ∧ Kd.S k26 26 w' w.heap.size (fun _ => True) v0_ r1 ∧ Below w.heap.size w w' := by
 unfold impl_TonaryDrop.f at h; split at h
 ·
  rename_i hh
  injection h with h
  have := impl_TonaryDrop_calls l0 a1 a2 A0 c0 w ht.m hr0 hc0 hh; rw [h] at this; exact this
 ·
  cases h

end Go.Proofs.YtknfnmdfdkdipaaDoor.PFnTonaryAdd
namespace Go.Proofs.YtknfnmdfdkdipaaDoor.PFnTonaryAdd
set_option linter.unusedVariables false
set_option linter.unusedSimpArgs false
open Go Go.RowKit Go.Proofs.YtknfnmdfdkdipaaDoor.Pure Go.Proofs.YtknfnmdfdkdipaaDoorW.PrintWords Go.Proofs.YtknfnmdfdkdipaaDoorW.PrintLast Go.Proofs.YtknfnmdfdkdipaaDoorW.PrintMore
def impl_TonaryValid.f (l0 : List S26) : Option (Bool) := if entSz l0 = true then some (tonOk l0) else none
theorem impl_TonaryValid.calls (A0 : Option Addr) (c0 : Nat) (l0 : List S26) (r : Bool) (w : World) (ht : DTab w) (hr0 : Kd.C k26 w A0 l0.length l0) (hc0 : l0.length ≤ c0) (h : impl_TonaryValid.f l0 = some r) :
 Calls Tryd.prog 11 #[.slice A0 l0.length c0] w fun e w' => e = .returned (.bool r) ∧ Below w.heap.size w w' := by
 unfold impl_TonaryValid.f at h; split at h
 ·
  rename_i hh
  injection h with h
  subst h; exact impl_TonaryValid_calls l0 A0 c0 w ht.m hr0 hc0 hh
 ·
  cases h

end Go.Proofs.YtknfnmdfdkdipaaDoor.PFnTonaryAdd
namespace Go.Proofs.YtknfnmdfdkdipaaDoor.PFnTonaryAdd
set_option linter.unusedVariables false
set_option linter.unusedSimpArgs false
open Go Go.RowKit Go.Proofs.YtknfnmdfdkdipaaDoor.Pure Go.Proofs.YtknfnmdfdkdipaaDoorW.PrintWords Go.Proofs.YtknfnmdfdkdipaaDoorW.PrintLast Go.Proofs.YtknfnmdfdkdipaaDoorW.PrintMore
def impl_MelodySame.f (l0 : List S74) (l1 : List S74) : Option Bool := if l0.length ≤ 1000000000000 ∧ l1.length ≤ 1000000000000 then some (msame l0 l1) else none
theorem impl_MelodySame.calls (A0 : Option Addr) (c0 : Nat) (l0 : List S74) (A1 : Option Addr) (c1 : Nat) (l1 : List S74) (r : Bool) (w : World) (ht : DTab w) (hr0 : Kd.C k74 w A0 l0.length l0) (hc0 : l0.length ≤ c0) (hr1 : Kd.C k74 w A1 l1.length l1) (hc1 : l1.length ≤ c1) (h : impl_MelodySame.f l0 l1 = some r) :
 Calls Tryd.prog 26 #[.slice A0 l0.length c0, .slice A1 l1.length c1] w fun e w' => e = .returned (.bool r) ∧ Below w.heap.size w w' := by
 unfold impl_MelodySame.f at h; split at h
 ·
  rename_i hh
  injection h with h
  have := impl_MelodySame_calls l0 l1 A0 c0 A1 c1 w ht.h hr0 hc0 hr1 hc1 hh.1 hh.2; rw [h] at this; exact this
 ·
  cases h

end Go.Proofs.YtknfnmdfdkdipaaDoor.PFnTonaryAdd
namespace Go.Proofs.YtknfnmdfdkdipaaDoor.PFnTonaryAdd
open Go.RowKit Go.Proofs.YtknfnmdfdkdipaaDoorW.PrintWords Go.Proofs.YtknfnmdfdkdipaaDoorW.PrintLast Go.Proofs.YtknfnmdfdkdipaaDoorW.PrintMore Go.Proofs.YtknfnmdfdkdipaaDoor.Pure
attribute [local go_sem] max2_int min2_int max_two min_two max_three min_three max_four min_four   -- for this text's walks alone
set_option linter.unusedVariables false
set_option linter.unusedSimpArgs false

mutual
def impl_TonaryFind.j0 : Nat → List (S26) → List (S74) → List Int → Bool → Option (List Int)
 | 0, _, _, _, _ => none
 | k + 1, x0, x1, x5, x16 => if x16 = true then (some x5) else (impl_TonaryFind.l0 k x1 x5 x0 (x0.length : Int) 0)
def impl_TonaryFind.l0 : Nat → List (S74) → List Int → List (S26) → Int → Int → Option (List Int)
 | 0, _, _, _, _, _ => none
 | k + 1, x1, x5, x18, x19, x20 => if x20 < x19 then (if 0 ≤ x20 then (if x20 < (x18.length : Int) then (if (((rd_T26 x18 x20).f2).length : Int) ≥ (x1.length : Int) then (if 0 ≤ (x1.length : Int) then (if (x1.length : Int) ≤ (((rd_T26 x18 x20).f2).length : Int) then ((impl_MelodySame.f (((rd_T26 x18 x20).f2).take ((x1.length : Int) : Int).toNat) x1).bind fun t353 => (if t353 = true then (if x5.length < 17592186044416 then (impl_TonaryFind.l0 k x1 (x5 ++ [x20]) x18 x19 (wrap64 (x20 + 1))) else (none)) else (impl_TonaryFind.l0 k x1 x5 x18 x19 (wrap64 (x20 + 1))))) else (none)) else (none)) else (impl_TonaryFind.l0 k x1 x5 x18 x19 (wrap64 (x20 + 1)))) else (none)) else (none)) else (some x5)
end
def impl_TonaryFind.f (k : Nat) (l0 : List (S26)) (l1 : List (S74)) : Option (List Int) := (some (([] : List Int) : List Int)).bind fun y342 => ((impl_TonaryValid.f l0).bind fun t345 => (if t345 = true then ((impl_MelodyValid.f k l1).bind fun t346 => (impl_TonaryFind.j0 k l0 l1 y342 (!t346))) else (impl_TonaryFind.j0 k l0 l1 y342 true)))
set_option maxHeartbeats 8000000 in
set_option maxRecDepth 100000 in
theorem impl_TonaryFind.calls (k : Nat) (A0 : Option Addr) (c0 : Nat) (l0 : List (S26)) (A1 : Option Addr) (c1 : Nat) (l1 : List (S74)) (r : List Int) (w : World) (ht : DTab w) (hr0 : Kd.C k26 w A0 l0.length l0) (hc0 : l0.length ≤ c0) (hr1 : Kd.C k74 w A1 l1.length l1) (hc1 : l1.length ≤ c1) (h : impl_TonaryFind.f k l0 l1 = some r) :
 Calls Tryd.prog 9 #[.slice A0 l0.length c0, .slice A1 l1.length c1] w fun e w' => ∃ v0_ : Value, e = .returned (v0_) ∧ Kd.R (Kd.int .i64) 3 w' w.heap.size (fun _ => True) v0_ r ∧ Below w.heap.size w w' := by
 have HT := Aside0.mk ht; clear ht; have hu26 := Tryd.underlying26; have HR0 := Aside0.mk hr0; have HC0 := Aside0.mk hc0; clear hr0 hc0; have HR1 := Aside0.mk hr1; have HC1 := Aside0.mk hc1; clear hr1 hc1; have HB := Aside0.mk (Below.refl w.heap.size w); have H : ((some (([] : List Int) : List Int)).bind fun y342 => ((impl_TonaryValid.f l0).bind fun t345 => (if t345 = true then ((impl_MelodyValid.f k l1).bind fun t346 => (impl_TonaryFind.j0 k l0 l1 y342 (!t346))) else (impl_TonaryFind.j0 k l0 l1 y342 true)))) = some r := h; clear h; obtain ⟨y342, hy342⟩ : ∃ y_ : List Int, y_ = (([] : List Int)) := ⟨_, rfl⟩
 replace H : ((impl_TonaryValid.f l0).bind fun t345 => (if t345 = true then ((impl_MelodyValid.f k l1).bind fun t346 => (impl_TonaryFind.j0 k l0 l1 y342 (!t346))) else (impl_TonaryFind.j0 k l0 l1 y342 true))) = some r := by first | (rw [hy342]; with_reducible exact H) | (have H2_ := (Option.bind_some _ _).symm.trans H; rw [hy342]; with_reducible exact H2_) | (have H2_ := (Option.bind_some _ _).symm.trans H; with_reducible exact H2_) | with_reducible exact H | (rw [hy342]; exact H) | exact H
 have Ny342 := Aside0.mk hy342; clear hy342; have HC3 := Aside0.mk H; clear H; go_enter Tryd.func9, Tryd.ntmps9
 go_upto_region 2 with (first | ((with_reducible refine gate_dst (N := 8) rfl ?_); (try (refine gate_guard (by rfl) ?_; dsimp only)); refine Kd.R_lit (Kd.int .i64) _ 3 ?hg (N := 8) ?hd (xs := ([] : List Int)) (inner := []) (ok := fun _ => True) (okp := fun _ => True) ?hr ?hp (fun _ hk => hk) trivial (Below.refl _ _) (Nat.le_refl _) (by simp) ?_; (case hd => rfl); (case hg => rfl); (case hr => first | (go_simp; done) | (go_simp; rfl)); (case hp => exact (Reps.none _ _)); intro v343 w4 ho5 hb hg_ hnew_; clear hg_ hnew_; (first | rw [← Ny342.out] at ho5 | (simp only [Int.reduceToNat] at ho5; rw [← Ny342.out] at ho5)); have n0_ := Aside0.mk (Kd.R_lower ho5 (below_size (by repeat (first | (with_reducible first | exact HB.out | apply below_alloc | apply pw_below_drewN | apply below_drew1) | exact HB.out)))); have n1_ := Aside0.mk (below_step (by repeat (first | (with_reducible first | exact HB.out | apply below_alloc | apply pw_below_drewN | apply below_drew1) | exact HB.out)) hb); clear HB; have HO344 := n0_; have HB := n1_; clear n0_ n1_; clear hb ho5))
 (try simp only [Act.put, List.setIfInBounds_toArray, List.set_cons_zero, List.set_cons_succ])
 go_cut [16] (fun v16 wc => ∃ (kq : Nat) (x16_2 : Bool), v16 = .bool x16_2 ∧ Aside0 (impl_TonaryFind.j0 kq l0 l1 y342 x16_2 = some r) ∧ Aside0 (kq ≤ k) ∧ Aside0 (Kd.R (Kd.int .i64) 3 wc w.heap.size (fun _ => True) v343 y342) ∧ Aside0 (Below w.heap.size w wc))
 case first =>
  have H := HC3.out; clear HC3; replace H := Option.bind_eq_some_iff.mp H; obtain ⟨t345, A60, H⟩ := H; replace H : (if t345 = true then ((impl_MelodyValid.f k l1).bind fun t346 => (impl_TonaryFind.j0 k l0 l1 y342 (!t346))) else (impl_TonaryFind.j0 k l0 l1 y342 true)) = some r := H; have A6 := Aside0.mk A60; clear A60; by_cases c7 : t345 = true
  ·
   subst c7; have H1 : ((impl_MelodyValid.f k l1).bind fun t346 => (impl_TonaryFind.j0 k l0 l1 y342 (!t346))) = some r := by rw [if_pos rfl] at H; exact H
   clear H; have H := H1; clear H1; replace H := Option.bind_eq_some_iff.mp H; obtain ⟨t346, A80, H⟩ := H; replace H : (impl_TonaryFind.j0 k l0 l1 y342 (!t346)) = some r := H; have A8 := Aside0.mk A80; clear A80; have H' := Aside0.mk H; clear H; go_wp2_with (first | ((with_reducible refine gate_callee (f := 11) rfl ?_); refine goesL_ (some 10) rfl rfl Tryd.func11 (by kernel_rfl) rfl #[.slice A0 l0.length c0] rfl (by (try simp only [List.map_toArray, List.map_cons, List.map_nil]); first | done | rfl | (simp only [List.length_drop, List.length_take]; rfl)) ?_; (with_reducible refine (impl_TonaryValid.calls _ _ l0 true _ ?side1 ?side2 A6.out (ht := HT.out.below (by repeat (first | (with_reducible first | exact HB.out | apply below_alloc | apply pw_below_drewN | apply below_drew1) | exact HB.out)))).mono ?_); (case side1 => repeat (first | exact (Kd.C_below HR0.out HB.out) | (with_reducible refine Kd.C_alloc ?_ _) | (with_reducible refine Kd.C_drewN ?_ _) | (with_reducible refine Kd.C_drew ?_))); (case side2 => exact HC0.out); rintro e w9 ⟨rfl, hb⟩; refine ⟨_, rfl, ?_⟩; have n0_ := Aside0.mk (Kd.R_below (by (with_reducible repeat (first | apply Kd.R_alloc | apply Kd.R_drewN | apply Kd.R_drew)); exact HO344.out) hb); have n1_ := Aside0.mk (below_step (by repeat (first | (with_reducible first | exact HB.out | apply below_alloc | apply pw_below_drewN | apply below_drew1) | exact HB.out)) hb); clear HO344; clear HB; have HO344 := n0_; have HB := n1_; clear n0_ n1_; (try clear hb); (try clear hb2); (try clear hk); (try clear hi)) | (go_at_call 25; (with_reducible refine (impl_MelodyValid.calls k _ _ l1 t346 _ ?side1 ?side2 A8.out).mono ?_); (case side1 => repeat (first | exact (Kd.C_below HR1.out HB.out) | (with_reducible refine Kd.C_alloc ?_ _) | (with_reducible refine Kd.C_drewN ?_ _) | (with_reducible refine Kd.C_drew ?_))); (case side2 => exact HC1.out); rintro e w10 ⟨rfl, hb⟩; have n0_ := Aside0.mk (Kd.R_below (by (with_reducible repeat (first | apply Kd.R_alloc | apply Kd.R_drewN | apply Kd.R_drew)); exact HO344.out) hb); have n1_ := Aside0.mk (below_step (by repeat (first | (with_reducible first | exact HB.out | apply below_alloc | apply pw_below_drewN | apply below_drew1) | exact HB.out)) hb); clear HO344; clear HB; have HO344 := n0_; have HB := n1_; clear n0_ n1_; (try clear hb); (try clear hb2); (try clear hk); (try clear hi)))
   go_meet
   case rel => exact ⟨_, (!t346), (by first | rfl | (simp; done) | (simp [*]; done)), H', ⟨by first | omega | exact Nat.le_refl _⟩, ⟨by (with_reducible repeat (first | apply Kd.R_alloc | apply Kd.R_drewN | apply Kd.R_drew)); exact HO344.out⟩, ⟨by repeat (first | (with_reducible first | exact HB.out | apply below_alloc | apply pw_below_drewN | apply below_drew1) | exact HB.out)⟩⟩
  ·
   replace c7 := Bool.eq_false_iff.mpr c7; subst c7; have H1 : (impl_TonaryFind.j0 k l0 l1 y342 true) = some r := by rw [if_neg (show ¬ (false = true) by decide)] at H; exact H
   clear H; have H := H1; clear H1; have H' := Aside0.mk H; clear H; go_wp2_with (first | ((with_reducible refine gate_callee (f := 11) rfl ?_); refine goesL_ (some 10) rfl rfl Tryd.func11 (by kernel_rfl) rfl #[.slice A0 l0.length c0] rfl (by (try simp only [List.map_toArray, List.map_cons, List.map_nil]); first | done | rfl | (simp only [List.length_drop, List.length_take]; rfl)) ?_; (with_reducible refine (impl_TonaryValid.calls _ _ l0 false _ ?side1 ?side2 A6.out (ht := HT.out.below (by repeat (first | (with_reducible first | exact HB.out | apply below_alloc | apply pw_below_drewN | apply below_drew1) | exact HB.out)))).mono ?_); (case side1 => repeat (first | exact (Kd.C_below HR0.out HB.out) | (with_reducible refine Kd.C_alloc ?_ _) | (with_reducible refine Kd.C_drewN ?_ _) | (with_reducible refine Kd.C_drew ?_))); (case side2 => exact HC0.out); rintro e w11 ⟨rfl, hb⟩; refine ⟨_, rfl, ?_⟩; have n0_ := Aside0.mk (Kd.R_below (by (with_reducible repeat (first | apply Kd.R_alloc | apply Kd.R_drewN | apply Kd.R_drew)); exact HO344.out) hb); have n1_ := Aside0.mk (below_step (by repeat (first | (with_reducible first | exact HB.out | apply below_alloc | apply pw_below_drewN | apply below_drew1) | exact HB.out)) hb); clear HO344; clear HB; have HO344 := n0_; have HB := n1_; clear n0_ n1_; (try clear hb); (try clear hb2); (try clear hk); (try clear hi)))
   go_meet
   case rel => exact ⟨_, (true), (by first | rfl | (simp; done) | (simp [*]; done)), H', ⟨by first | omega | exact Nat.le_refl _⟩, ⟨by (with_reducible repeat (first | apply Kd.R_alloc | apply Kd.R_drewN | apply Kd.R_drew)); exact HO344.out⟩, ⟨by repeat (first | (with_reducible first | exact HB.out | apply below_alloc | apply pw_below_drewN | apply below_drew1) | exact HB.out)⟩⟩
 case rest =>
  clear HC3; try clear c1
  try clear p2
  try clear c7
  try clear c9
  try clear c11
  obtain ⟨kq, x16_2, rfl, HA, HJ2, HO_5, HB⟩ := hcut; cases kq with
  | zero => exact absurd HA.out (by simp [impl_TonaryFind.j0])
  | succ kj2 =>
   have H := HA.out; clear HA; simp only [impl_TonaryFind.j0] at H; by_cases c12 : x16_2 = true
   ·
    subst c12; have H1 : (some y342) = some r := by rw [if_pos rfl] at H; exact H
    clear H; have H := H1; clear H1; obtain rfl := Option.some.inj H; go_wp2; go_ret
    exact ⟨_, by first | rfl | (simp [errW_none, errW_some] <;> rfl) | (simp [*, errW_none, errW_some] <;> rfl), by (with_reducible repeat (first | apply Kd.R_alloc | apply Kd.R_drewN | apply Kd.R_drew)); exact HO_5.out, by repeat (first | (with_reducible first | exact HB.out | apply below_alloc | apply pw_below_drewN | apply below_drew1) | exact HB.out)⟩
   ·
    replace c12 := Bool.eq_false_iff.mpr c12; subst c12; have H1 : (impl_TonaryFind.l0 kj2 l1 y342 l0 (l0.length : Int) 0) = some r := by rw [if_neg (show ¬ (false = true) by decide)] at H; exact H
    clear H; have H := H1; clear H1; have H' := Aside0.mk H; clear H; go_wp2; go_loopg [5, 20] kj2 (fun kq v5 v20 w' => ∃ (x5_2 : List Int) (x20_2 : Int), v20 = .int .i64 x20_2 ∧ Aside0 (impl_TonaryFind.l0 kq l1 x5_2 l0 (l0.length : Int) x20_2 = some r) ∧ Aside0 (kq ≤ kj2) ∧ Aside0 (Kd.R (Kd.int .i64) 3 w' w.heap.size (fun _ => True) v5 x5_2) ∧ Aside0 (Below w.heap.size w w'))
    case atStart => exact ⟨(y342), (0), (by first | rfl | (simp; done) | (simp [*]; done)), H', ⟨Nat.le_refl _⟩, ⟨by (with_reducible repeat (first | apply Kd.R_alloc | apply Kd.R_drewN | apply Kd.R_drew)); exact HO_5.out⟩, ⟨by repeat (first | (with_reducible first | exact HB.out | apply below_alloc | apply pw_below_drewN | apply below_drew1) | exact HB.out)⟩⟩
    case round =>
     clear H'; try clear c1
     try clear p2
     try clear c7
     try clear c9
     try clear c11
     try clear c12
     try clear p2
     obtain ⟨x5_2, x20_2, rfl, HA, HK2, HO_5, HB⟩ := hrel; cases gk with
     | zero => exact absurd HA.out (by simp [impl_TonaryFind.l0])
     | succ k2 =>
      have H := HA.out; clear HA; simp only [impl_TonaryFind.l0] at H; by_cases c13 : x20_2 < (l0.length : Int)
      ·
       rw [if_pos c13] at H; have c13b0 : decide (x20_2 < (l0.length : Int)) = true := decide_eq_true c13; clear c13; by_cases c14 : 0 ≤ x20_2
       ·
        rw [if_pos c14] at H; have c14b0 : decide (0 ≤ x20_2) = true := decide_eq_true c14; clear c14; by_cases c15 : x20_2 < (l0.length : Int)
        ·
         rw [if_pos c15] at H; have c15b0 : decide (x20_2 < (l0.length : Int)) = true := decide_eq_true c15; clear c15; by_cases c16 : (((rd_T26 l0 x20_2).f2).length : Int) ≥ (l1.length : Int)
         ·
          rw [if_pos c16] at H; have c16b0 : decide ((l1.length : Int) ≤ (((rd_T26 l0 x20_2).f2).length : Int)) = true := decide_eq_true c16; have c16b1 : decide (l1.length ≤ ((rd_T26 l0 x20_2).f2).length) = true := decide_eq_true (Int.ofNat_le.mp c16); clear c16; by_cases c17 : 0 ≤ (l1.length : Int)
          ·
           rw [if_pos c17] at H; have c17b0 := eq_true c17; have c17b1 : decide (0 ≤ (l1.length : Int)) = true := decide_eq_true c17; clear c17; by_cases c18 : (l1.length : Int) ≤ (((rd_T26 l0 x20_2).f2).length : Int)
           ·
            rw [if_pos c18] at H; have c18b0 := eq_true c18; have c18b1 : decide ((l1.length : Int) ≤ (((rd_T26 l0 x20_2).f2).length : Int)) = true := decide_eq_true c18; clear c18; obtain ⟨y349, hy349⟩ : ∃ y_ : List (S74), y_ = (((rd_T26 l0 x20_2).f2).take ((l1.length : Int) : Int).toNat) := ⟨_, rfl⟩
            replace H : ((impl_MelodySame.f y349 l1).bind fun t353 => (if t353 = true then (if x5_2.length < 17592186044416 then (impl_TonaryFind.l0 k2 l1 (x5_2 ++ [x20_2]) l0 (l0.length : Int) (wrap64 (x20_2 + 1))) else (none)) else (impl_TonaryFind.l0 k2 l1 x5_2 l0 (l0.length : Int) (wrap64 (x20_2 + 1))))) = some r := by first | (rw [hy349]; with_reducible exact H) | (have H2_ := (Option.bind_some _ _).symm.trans H; rw [hy349]; with_reducible exact H2_) | (have H2_ := (Option.bind_some _ _).symm.trans H; with_reducible exact H2_) | with_reducible exact H | (rw [hy349]; exact H) | exact H
            have Ny349 := Aside0.mk hy349; clear hy349; replace H := Option.bind_eq_some_iff.mp H; obtain ⟨t353, A190, H⟩ := H; replace H : (if t353 = true then (if x5_2.length < 17592186044416 then (impl_TonaryFind.l0 k2 l1 (x5_2 ++ [x20_2]) l0 (l0.length : Int) (wrap64 (x20_2 + 1))) else (none)) else (impl_TonaryFind.l0 k2 l1 x5_2 l0 (l0.length : Int) (wrap64 (x20_2 + 1)))) = some r := H; have A19 := Aside0.mk A190; clear A190; by_cases c20 : t353 = true
            ·
             subst c20; have H1 : (if x5_2.length < 17592186044416 then (impl_TonaryFind.l0 k2 l1 (x5_2 ++ [x20_2]) l0 (l0.length : Int) (wrap64 (x20_2 + 1))) else (none)) = some r := by rw [if_pos rfl] at H; exact H
             clear H; have H := H1; clear H1; by_cases c21 : x5_2.length < 17592186044416
             ·
              rw [if_pos c21] at H; have LMc21 := Aside0.mk c21; clear c21; obtain ⟨y354, hy354⟩ : ∃ y_ : List Int, y_ = (x5_2 ++ [x20_2]) := ⟨_, rfl⟩
              replace H : (impl_TonaryFind.l0 k2 l1 y354 l0 (l0.length : Int) (wrap64 (x20_2 + 1))) = some r := by first | (rw [hy354]; with_reducible exact H) | (have H2_ := (Option.bind_some _ _).symm.trans H; rw [hy354]; with_reducible exact H2_) | (have H2_ := (Option.bind_some _ _).symm.trans H; with_reducible exact H2_) | with_reducible exact H | (rw [hy354]; exact H) | exact H
              have Ny354 := Aside0.mk hy354; clear hy354; have H' := Aside0.mk H; clear H; have p347 : 0 ≤ (x20_2 : Int) := of_decide_eq_true (by first | (with_reducible assumption) | assumption); have q347 : x20_2 < (l0.length : Int) := of_decide_eq_true (by first | (with_reducible assumption) | assumption); obtain ⟨ad347, A347_2, c347_2, e347, hx347_0, hx347_1, hx347_2, hl347_2, hi347_2⟩ := at_T26 HR0.out x20_2 p347 q347; cases e347; replace hx347_0 := (HB.out.cell (World.block_lt_of_cell? w _ hx347_0)).trans hx347_0; replace hx347_1 := (HB.out.cell (World.block_lt_of_cell? w _ hx347_1)).trans hx347_1; replace hx347_2 := (HB.out.cell (World.block_lt_of_cell? w _ hx347_2)).trans hx347_2; have HR347_2 := Aside0.mk hi347_2; have HC347_2 := Aside0.mk hl347_2; clear hi347_2 hl347_2; replace p347 := eq_true p347; replace q347 := eq_true q347; go_wp2_with (first | ((with_reducible refine gate_dst (N := 7) rfl ?_); (try (refine gate_guard (by rfl) ?_; dsimp only)); refine box_event ?hg (N := 7) ?hd (cs := #[.string (⟨#[]⟩ : ByteArray), .int .i64 0, .slice none 0 0]) (t := 26) ?hr ?_; (case hd => rfl); (case hg => rfl); (case hr => first | (go_simp; done) | (go_simp; rfl)); intro gb348 hg w22 hbox hb; have n0_ := Aside0.mk (Kd.R_below (by (with_reducible repeat (first | apply Kd.R_alloc | apply Kd.R_drewN | apply Kd.R_drew)); exact HO_5.out) hb); have n1_ := Aside0.mk (below_step (by repeat (first | (with_reducible first | exact HB.out | apply below_alloc | apply pw_below_drewN | apply below_drew1) | exact HB.out)) hb); have n2_ := Aside0.mk (hbox); have n3_ := Aside0.mk ((by rw [hg]; exact (below_size (by repeat (first | (with_reducible first | exact HB.out | apply below_alloc | apply pw_below_drewN | apply below_drew1) | exact HB.out))) : w.heap.size ≤ gb348)); have n4_ := Aside0.mk ((by rw [hg]; exact (below_size (by repeat (first | (with_reducible first | exact HB.out | apply below_alloc | apply pw_below_drewN | apply below_drew1) | exact HB.out))) : w.heap.size ≤ gb348)); clear HO_5; clear HB; have HO_5 := n0_; have HB := n1_; have BK348 := n2_; have GW348 := n3_; have GE348 := n4_; clear n0_ n1_ n2_ n3_ n4_; clear hb hbox hg; have hcz23_0 : w22.cell? ⟨gb348, 0, none⟩ = some (.string (⟨#[]⟩ : ByteArray)) := (blk_cell BK348.out 0).trans rfl; have hcz23_1 : w22.cell? ⟨gb348, 1, none⟩ = some (.int .i64 0) := (blk_cell BK348.out 1).trans rfl; have hcz23_2 : w22.cell? ⟨gb348, 2, none⟩ = some (.slice none 0 0) := (blk_cell BK348.out 2).trans rfl; have hfz23_0 := blk_frozen BK348.out 0; have hfz23_1 := blk_frozen BK348.out 1; have hfz23_2 := blk_frozen BK348.out 2) | ((with_reducible refine gate_store (t := 26) (p := 7) rfl ?_); refine store_event (t := 26) (p := 7) (v := ?vo_w24) (w1 := (((w22.setCell ⟨gb348, 0, none⟩ (.string ((rd_T26 l0 x20_2).f0))).setCell ⟨gb348, 1, none⟩ (.int .i64 ((rd_T26 l0 x20_2).f1))).setCell ⟨gb348, 2, none⟩ (.slice A347_2 ((rd_T26 l0 x20_2).f2).length c347_2))) ?hg ?ho ?hn ?hr ?_; (case ho => rfl); (case hg => rfl); (case hn => rfl); (case hr => first | (go_simp; done) | (go_simp; rfl)); intro w24 hw; have n0_ : Aside0 (Kd.R (Kd.int .i64) 3 w24 w.heap.size (fun _ => True) u5 x5_2) := ⟨(by rw [hw]; exact (by (with_reducible repeat (first | apply Kd.R_alloc | apply Kd.R_drewN | apply Kd.R_drew)); exact Kd.R_mono (Kd.R_far (p := ⟨gb348, 2, none⟩) (Kd.R_far (p := ⟨gb348, 1, none⟩) (Kd.R_far (p := ⟨gb348, 0, none⟩) (Kd.R_types HO_5.out BK348.out (by decide)) (fun _ hk => hk.2) (.string ((rd_T26 l0 x20_2).f0))) (fun _ hk => hk.2) (.int .i64 ((rd_T26 l0 x20_2).f1))) (fun _ hk => hk.2) (.slice A347_2 ((rd_T26 l0 x20_2).f2).length c347_2)) (fun _ hk => trivial)))⟩; have n1_ : Aside0 (w24.heap[gb348]? = some (.cells #[.string ((rd_T26 l0 x20_2).f0), .int .i64 ((rd_T26 l0 x20_2).f1), .slice A347_2 ((rd_T26 l0 x20_2).f2).length c347_2] 26 (0, 0))) := ⟨(by rw [hw]; exact (by (with_reducible repeat (first | refine blk_drewN ?_ _ | refine blk_drew ?_ | refine blk_alloc ?_ _)); refine blk_put (cs := #[.string ((rd_T26 l0 x20_2).f0), .int .i64 ((rd_T26 l0 x20_2).f1), .slice none 0 0]) ?_ 2 _ rfl; (with_reducible repeat (first | refine blk_drewN ?_ _ | refine blk_drew ?_ | refine blk_alloc ?_ _)); refine blk_put (cs := #[.string ((rd_T26 l0 x20_2).f0), .int .i64 0, .slice none 0 0]) ?_ 1 _ rfl; (with_reducible repeat (first | refine blk_drewN ?_ _ | refine blk_drew ?_ | refine blk_alloc ?_ _)); refine blk_put (cs := #[.string (⟨#[]⟩ : ByteArray), .int .i64 0, .slice none 0 0]) ?_ 0 _ rfl; (with_reducible repeat (first | refine blk_drewN ?_ _ | refine blk_drew ?_ | refine blk_alloc ?_ _)); exact BK348.out))⟩; have n2_ : Aside0 (Below w.heap.size w w24) := ⟨(by rw [hw]; exact (by repeat (first | (with_reducible first | exact HB.out | apply below_alloc | apply pw_below_drewN | apply below_drew1 | refine below_set ?_ GE348.out) | exact HB.out)))⟩; clear hw; clear HO_5; clear BK348; clear HB; have HO_5 := n0_; have BK348 := n1_; have HB := n2_; clear n0_ n1_ n2_; have hcz25_0 : w24.cell? ⟨gb348, 0, none⟩ = some (.string ((rd_T26 l0 x20_2).f0)) := (blk_cell BK348.out 0).trans rfl; have hcz25_1 : w24.cell? ⟨gb348, 1, none⟩ = some (.int .i64 ((rd_T26 l0 x20_2).f1)) := (blk_cell BK348.out 1).trans rfl; have hcz25_2 : w24.cell? ⟨gb348, 2, none⟩ = some (.slice A347_2 ((rd_T26 l0 x20_2).f2).length c347_2) := (blk_cell BK348.out 2).trans rfl; have hfz25_0 := blk_frozen BK348.out 0; have hfz25_1 := blk_frozen BK348.out 1; have hfz25_2 := blk_frozen BK348.out 2; have q26 : ((l1.length : Int) : Int) ≤ ((((rd_T26 l0 x20_2).f2).length : Int) : Int) := of_decide_eq_true (by first | (with_reducible assumption) | assumption); obtain ⟨i026, hi026, _, hsz26, _⟩ := info_parts info74; have hroom26 : ((rd_T26 l0 x20_2).f2).length ≤ c347_2 := HC347_2.out; have hC26 : Kd.C k74 _ A347_2 ((rd_T26 l0 x20_2).f2).length ((rd_T26 l0 x20_2).f2) := HR347_2.out; have hcut26 := cut_to (P := Tryd.prog) 24 74 .i64 Tryd.underlying24 hi026 A347_2 ((rd_T26 l0 x20_2).f2).length c347_2 (l1.length : Int) (of_decide_eq_true (by first | (with_reducible assumption) | assumption)) q26 hroom26; have hr26 := Kd.C_take (m := ((l1.length : Int) : Int).toNat) hC26 (by omega); have hy26 : y349.length = ((l1.length : Int) : Int).toNat := (by rw [Ny349.out, List.length_take]; omega); rw [← Ny349.out] at hr26; rw [← hy26] at hcut26; have HR352 := Aside0.mk hr26; have HC352 := Aside0.mk (show y349.length ≤ c347_2 from by omega); clear hr26 hC26 hroom26 hi026 hsz26; have KY26 := Aside0.mk hy26; clear hy26; replace q26 := eq_true q26) | (go_at_call 26; (with_reducible refine (impl_MelodySame.calls _ _ y349 _ _ l1 true _ ?side1 ?side2 ?side3 ?side4 A19.out (ht := HT.out.below (by repeat (first | (with_reducible first | exact HB.out | apply below_alloc | apply pw_below_drewN | apply below_drew1 | refine below_set ?_ GE348.out) | exact HB.out)))).mono ?_); (case side1 => repeat (first | exact (Kd.C_below HR352.out HB.out) | (with_reducible refine Kd.C_alloc ?_ _) | (with_reducible refine Kd.C_drewN ?_ _) | (with_reducible refine Kd.C_drew ?_))); (case side2 => exact HC352.out); (case side3 => repeat (first | exact (Kd.C_below HR1.out HB.out) | (with_reducible refine Kd.C_alloc ?_ _) | (with_reducible refine Kd.C_drewN ?_ _) | (with_reducible refine Kd.C_drew ?_))); (case side4 => exact HC1.out); rintro e w27 ⟨rfl, hb⟩; have n0_ := Aside0.mk (Kd.R_below (by (with_reducible repeat (first | apply Kd.R_alloc | apply Kd.R_drewN | apply Kd.R_drew)); exact HO_5.out) hb); have n1_ := Aside0.mk (blk_below (g := gb348) (o := .cells #[.string ((rd_T26 l0 x20_2).f0), .int .i64 ((rd_T26 l0 x20_2).f1), .slice A347_2 ((rd_T26 l0 x20_2).f2).length c347_2] 26 (0, 0)) (by (with_reducible repeat (first | refine blk_drewN ?_ _ | refine blk_drew ?_ | refine blk_alloc ?_ _)); exact BK348.out) hb); have n2_ := Aside0.mk (below_step (by repeat (first | (with_reducible first | exact HB.out | apply below_alloc | apply pw_below_drewN | apply below_drew1 | refine below_set ?_ GE348.out) | exact HB.out)) hb); clear HO_5; clear BK348; clear HB; have HO_5 := n0_; have BK348 := n1_; have HB := n2_; clear n0_ n1_ n2_; (try clear hb); (try clear hb2); (try clear hk); (try clear hi)) | ((with_reducible refine gate_builtin (b := .append) (xs := #[.tmp 40, .tmp 42]) rfl ?_); (try (refine gate_guard (by rfl) ?_; dsimp only)); at_builtin; refine Kd.R_append (Kd.int .i64) (w0 := w) w.heap.size rfl (.tmp 40) (.tmp 42) 33 3 (.int .i64 0) 8 rfl Tryd.underlying33 info3 rfl (by decide) (by omega) u5 x5_2 x20_2 [.int .i64 x20_2] (fun _ => True) (fun _ => False) rfl rfl ?aP (fun _ hk => hk.elim) ?aF ?aO ?aB ?aS ?aL ?_; (case aP => exact rfl); (case aB => exact (by repeat (first | (with_reducible first | exact HB.out | apply below_alloc | apply pw_below_drewN | apply below_drew1 | refine below_set ?_ GE348.out) | exact HB.out))); (case aF => exact (fun _ _ => trivial)); (case aO => exact (by (with_reducible repeat (first | apply Kd.R_alloc | apply Kd.R_drewN | apply Kd.R_drew)); exact HO_5.out)); (case aS => exact (below_size (by repeat (first | (with_reducible first | exact HB.out | apply below_alloc | apply pw_below_drewN | apply below_drew1 | refine below_set ?_ GE348.out) | exact HB.out)))); (case aL => have := LMc21.out; omega); intro v355 w28 ho hb hg hat; rw [← Ny354.out] at ho; have n0_ := Aside0.mk (blk_grown (g := gb348) (o := .cells #[.string ((rd_T26 l0 x20_2).f0), .int .i64 ((rd_T26 l0 x20_2).f1), .slice A347_2 ((rd_T26 l0 x20_2).f2).length c347_2] 26 (0, 0)) (by (with_reducible repeat (first | refine blk_drewN ?_ _ | refine blk_drew ?_ | refine blk_alloc ?_ _)); exact BK348.out) hg (Kd.R_ne HO_5.out BK348.out (by decide))); have n1_ := Aside0.mk (hb); have n2_ := Aside0.mk (ho); clear BK348; clear HB; clear HO_5; have BK348 := n0_; have HB := n1_; have HO356 := n2_; clear n0_ n1_ n2_; clear ho hb hg hat))
              go_roundg k2
              case measure => have := HJ2.out; have := HK2.out; omega
              case rel => exact ⟨(y354), (wrap64 (x20_2 + 1)), (by first | rfl | (simp; done) | (simp [*]; done)), H', ⟨by have := HJ2.out; have := HK2.out; omega⟩, ⟨by (with_reducible repeat (first | apply Kd.R_alloc | apply Kd.R_drewN | apply Kd.R_drew)); exact HO356.out⟩, ⟨by repeat (first | (with_reducible first | exact HB.out | apply below_alloc | apply pw_below_drewN | apply below_drew1 | refine below_set ?_ GE348.out) | exact HB.out)⟩⟩
             ·
              rw [if_neg c21] at H; exact absurd H (by simp)
            ·
             replace c20 := Bool.eq_false_iff.mpr c20; subst c20; have H1 : (impl_TonaryFind.l0 k2 l1 x5_2 l0 (l0.length : Int) (wrap64 (x20_2 + 1))) = some r := by rw [if_neg (show ¬ (false = true) by decide)] at H; exact H
             clear H; have H := H1; clear H1; have H' := Aside0.mk H; clear H; have p347 : 0 ≤ (x20_2 : Int) := of_decide_eq_true (by first | (with_reducible assumption) | assumption); have q347 : x20_2 < (l0.length : Int) := of_decide_eq_true (by first | (with_reducible assumption) | assumption); obtain ⟨ad347, A347_2, c347_2, e347, hx347_0, hx347_1, hx347_2, hl347_2, hi347_2⟩ := at_T26 HR0.out x20_2 p347 q347; cases e347; replace hx347_0 := (HB.out.cell (World.block_lt_of_cell? w _ hx347_0)).trans hx347_0; replace hx347_1 := (HB.out.cell (World.block_lt_of_cell? w _ hx347_1)).trans hx347_1; replace hx347_2 := (HB.out.cell (World.block_lt_of_cell? w _ hx347_2)).trans hx347_2; have HR347_2 := Aside0.mk hi347_2; have HC347_2 := Aside0.mk hl347_2; clear hi347_2 hl347_2; replace p347 := eq_true p347; replace q347 := eq_true q347; go_wp2_with (first | ((with_reducible refine gate_dst (N := 7) rfl ?_); (try (refine gate_guard (by rfl) ?_; dsimp only)); refine box_event ?hg (N := 7) ?hd (cs := #[.string (⟨#[]⟩ : ByteArray), .int .i64 0, .slice none 0 0]) (t := 26) ?hr ?_; (case hd => rfl); (case hg => rfl); (case hr => first | (go_simp; done) | (go_simp; rfl)); intro gb348 hg w29 hbox hb; have n0_ := Aside0.mk (Kd.R_below (by (with_reducible repeat (first | apply Kd.R_alloc | apply Kd.R_drewN | apply Kd.R_drew)); exact HO_5.out) hb); have n1_ := Aside0.mk (below_step (by repeat (first | (with_reducible first | exact HB.out | apply below_alloc | apply pw_below_drewN | apply below_drew1) | exact HB.out)) hb); have n2_ := Aside0.mk (hbox); have n3_ := Aside0.mk ((by rw [hg]; exact (below_size (by repeat (first | (with_reducible first | exact HB.out | apply below_alloc | apply pw_below_drewN | apply below_drew1) | exact HB.out))) : w.heap.size ≤ gb348)); have n4_ := Aside0.mk ((by rw [hg]; exact (below_size (by repeat (first | (with_reducible first | exact HB.out | apply below_alloc | apply pw_below_drewN | apply below_drew1) | exact HB.out))) : w.heap.size ≤ gb348)); clear HO_5; clear HB; have HO_5 := n0_; have HB := n1_; have BK348 := n2_; have GW348 := n3_; have GE348 := n4_; clear n0_ n1_ n2_ n3_ n4_; clear hb hbox hg; have hcz30_0 : w29.cell? ⟨gb348, 0, none⟩ = some (.string (⟨#[]⟩ : ByteArray)) := (blk_cell BK348.out 0).trans rfl; have hcz30_1 : w29.cell? ⟨gb348, 1, none⟩ = some (.int .i64 0) := (blk_cell BK348.out 1).trans rfl; have hcz30_2 : w29.cell? ⟨gb348, 2, none⟩ = some (.slice none 0 0) := (blk_cell BK348.out 2).trans rfl; have hfz30_0 := blk_frozen BK348.out 0; have hfz30_1 := blk_frozen BK348.out 1; have hfz30_2 := blk_frozen BK348.out 2) | ((with_reducible refine gate_store (t := 26) (p := 7) rfl ?_); refine store_event (t := 26) (p := 7) (v := ?vo_w31) (w1 := (((w29.setCell ⟨gb348, 0, none⟩ (.string ((rd_T26 l0 x20_2).f0))).setCell ⟨gb348, 1, none⟩ (.int .i64 ((rd_T26 l0 x20_2).f1))).setCell ⟨gb348, 2, none⟩ (.slice A347_2 ((rd_T26 l0 x20_2).f2).length c347_2))) ?hg ?ho ?hn ?hr ?_; (case ho => rfl); (case hg => rfl); (case hn => rfl); (case hr => first | (go_simp; done) | (go_simp; rfl)); intro w31 hw; have n0_ : Aside0 (Kd.R (Kd.int .i64) 3 w31 w.heap.size (fun _ => True) u5 x5_2) := ⟨(by rw [hw]; exact (by (with_reducible repeat (first | apply Kd.R_alloc | apply Kd.R_drewN | apply Kd.R_drew)); exact Kd.R_mono (Kd.R_far (p := ⟨gb348, 2, none⟩) (Kd.R_far (p := ⟨gb348, 1, none⟩) (Kd.R_far (p := ⟨gb348, 0, none⟩) (Kd.R_types HO_5.out BK348.out (by decide)) (fun _ hk => hk.2) (.string ((rd_T26 l0 x20_2).f0))) (fun _ hk => hk.2) (.int .i64 ((rd_T26 l0 x20_2).f1))) (fun _ hk => hk.2) (.slice A347_2 ((rd_T26 l0 x20_2).f2).length c347_2)) (fun _ hk => trivial)))⟩; have n1_ : Aside0 (w31.heap[gb348]? = some (.cells #[.string ((rd_T26 l0 x20_2).f0), .int .i64 ((rd_T26 l0 x20_2).f1), .slice A347_2 ((rd_T26 l0 x20_2).f2).length c347_2] 26 (0, 0))) := ⟨(by rw [hw]; exact (by (with_reducible repeat (first | refine blk_drewN ?_ _ | refine blk_drew ?_ | refine blk_alloc ?_ _)); refine blk_put (cs := #[.string ((rd_T26 l0 x20_2).f0), .int .i64 ((rd_T26 l0 x20_2).f1), .slice none 0 0]) ?_ 2 _ rfl; (with_reducible repeat (first | refine blk_drewN ?_ _ | refine blk_drew ?_ | refine blk_alloc ?_ _)); refine blk_put (cs := #[.string ((rd_T26 l0 x20_2).f0), .int .i64 0, .slice none 0 0]) ?_ 1 _ rfl; (with_reducible repeat (first | refine blk_drewN ?_ _ | refine blk_drew ?_ | refine blk_alloc ?_ _)); refine blk_put (cs := #[.string (⟨#[]⟩ : ByteArray), .int .i64 0, .slice none 0 0]) ?_ 0 _ rfl; (with_reducible repeat (first | refine blk_drewN ?_ _ | refine blk_drew ?_ | refine blk_alloc ?_ _)); exact BK348.out))⟩; have n2_ : Aside0 (Below w.heap.size w w31) := ⟨(by rw [hw]; exact (by repeat (first | (with_reducible first | exact HB.out | apply below_alloc | apply pw_below_drewN | apply below_drew1 | refine below_set ?_ GE348.out) | exact HB.out)))⟩; clear hw; clear HO_5; clear BK348; clear HB; have HO_5 := n0_; have BK348 := n1_; have HB := n2_; clear n0_ n1_ n2_; have hcz32_0 : w31.cell? ⟨gb348, 0, none⟩ = some (.string ((rd_T26 l0 x20_2).f0)) := (blk_cell BK348.out 0).trans rfl; have hcz32_1 : w31.cell? ⟨gb348, 1, none⟩ = some (.int .i64 ((rd_T26 l0 x20_2).f1)) := (blk_cell BK348.out 1).trans rfl; have hcz32_2 : w31.cell? ⟨gb348, 2, none⟩ = some (.slice A347_2 ((rd_T26 l0 x20_2).f2).length c347_2) := (blk_cell BK348.out 2).trans rfl; have hfz32_0 := blk_frozen BK348.out 0; have hfz32_1 := blk_frozen BK348.out 1; have hfz32_2 := blk_frozen BK348.out 2; have q33 : ((l1.length : Int) : Int) ≤ ((((rd_T26 l0 x20_2).f2).length : Int) : Int) := of_decide_eq_true (by first | (with_reducible assumption) | assumption); obtain ⟨i033, hi033, _, hsz33, _⟩ := info_parts info74; have hroom33 : ((rd_T26 l0 x20_2).f2).length ≤ c347_2 := HC347_2.out; have hC33 : Kd.C k74 _ A347_2 ((rd_T26 l0 x20_2).f2).length ((rd_T26 l0 x20_2).f2) := HR347_2.out; have hcut33 := cut_to (P := Tryd.prog) 24 74 .i64 Tryd.underlying24 hi033 A347_2 ((rd_T26 l0 x20_2).f2).length c347_2 (l1.length : Int) (of_decide_eq_true (by first | (with_reducible assumption) | assumption)) q33 hroom33; have hr33 := Kd.C_take (m := ((l1.length : Int) : Int).toNat) hC33 (by omega); have hy33 : y349.length = ((l1.length : Int) : Int).toNat := (by rw [Ny349.out, List.length_take]; omega); rw [← Ny349.out] at hr33; rw [← hy33] at hcut33; have HR352 := Aside0.mk hr33; have HC352 := Aside0.mk (show y349.length ≤ c347_2 from by omega); clear hr33 hC33 hroom33 hi033 hsz33; have KY33 := Aside0.mk hy33; clear hy33; replace q33 := eq_true q33) | (go_at_call 26; (with_reducible refine (impl_MelodySame.calls _ _ y349 _ _ l1 false _ ?side1 ?side2 ?side3 ?side4 A19.out (ht := HT.out.below (by repeat (first | (with_reducible first | exact HB.out | apply below_alloc | apply pw_below_drewN | apply below_drew1 | refine below_set ?_ GE348.out) | exact HB.out)))).mono ?_); (case side1 => repeat (first | exact (Kd.C_below HR352.out HB.out) | (with_reducible refine Kd.C_alloc ?_ _) | (with_reducible refine Kd.C_drewN ?_ _) | (with_reducible refine Kd.C_drew ?_))); (case side2 => exact HC352.out); (case side3 => repeat (first | exact (Kd.C_below HR1.out HB.out) | (with_reducible refine Kd.C_alloc ?_ _) | (with_reducible refine Kd.C_drewN ?_ _) | (with_reducible refine Kd.C_drew ?_))); (case side4 => exact HC1.out); rintro e w34 ⟨rfl, hb⟩; have n0_ := Aside0.mk (Kd.R_below (by (with_reducible repeat (first | apply Kd.R_alloc | apply Kd.R_drewN | apply Kd.R_drew)); exact HO_5.out) hb); have n1_ := Aside0.mk (blk_below (g := gb348) (o := .cells #[.string ((rd_T26 l0 x20_2).f0), .int .i64 ((rd_T26 l0 x20_2).f1), .slice A347_2 ((rd_T26 l0 x20_2).f2).length c347_2] 26 (0, 0)) (by (with_reducible repeat (first | refine blk_drewN ?_ _ | refine blk_drew ?_ | refine blk_alloc ?_ _)); exact BK348.out) hb); have n2_ := Aside0.mk (below_step (by repeat (first | (with_reducible first | exact HB.out | apply below_alloc | apply pw_below_drewN | apply below_drew1 | refine below_set ?_ GE348.out) | exact HB.out)) hb); clear HO_5; clear BK348; clear HB; have HO_5 := n0_; have BK348 := n1_; have HB := n2_; clear n0_ n1_ n2_; (try clear hb); (try clear hb2); (try clear hk); (try clear hi)))
             go_roundg k2
             case measure => have := HJ2.out; have := HK2.out; omega
             case rel => exact ⟨(x5_2), (wrap64 (x20_2 + 1)), (by first | rfl | (simp; done) | (simp [*]; done)), H', ⟨by have := HJ2.out; have := HK2.out; omega⟩, ⟨by (with_reducible repeat (first | apply Kd.R_alloc | apply Kd.R_drewN | apply Kd.R_drew)); exact HO_5.out⟩, ⟨by repeat (first | (with_reducible first | exact HB.out | apply below_alloc | apply pw_below_drewN | apply below_drew1 | refine below_set ?_ GE348.out) | exact HB.out)⟩⟩
           ·
            rw [if_neg c18] at H; exact absurd H (by simp)
          ·
           rw [if_neg c17] at H; exact absurd H (by simp)
         ·
          rw [if_neg c16] at H; have c16b0 : decide ((l1.length : Int) ≤ (((rd_T26 l0 x20_2).f2).length : Int)) = false := decide_eq_false c16; have c16b1 : decide (l1.length ≤ ((rd_T26 l0 x20_2).f2).length) = false := decide_eq_false (fun h => c16 (Int.ofNat_le.mpr h)); clear c16; have H' := Aside0.mk H; clear H; have p347 : 0 ≤ (x20_2 : Int) := of_decide_eq_true (by first | (with_reducible assumption) | assumption); have q347 : x20_2 < (l0.length : Int) := of_decide_eq_true (by first | (with_reducible assumption) | assumption); obtain ⟨ad347, A347_2, c347_2, e347, hx347_0, hx347_1, hx347_2, hl347_2, hi347_2⟩ := at_T26 HR0.out x20_2 p347 q347; cases e347; replace hx347_0 := (HB.out.cell (World.block_lt_of_cell? w _ hx347_0)).trans hx347_0; replace hx347_1 := (HB.out.cell (World.block_lt_of_cell? w _ hx347_1)).trans hx347_1; replace hx347_2 := (HB.out.cell (World.block_lt_of_cell? w _ hx347_2)).trans hx347_2; have HR347_2 := Aside0.mk hi347_2; have HC347_2 := Aside0.mk hl347_2; clear hi347_2 hl347_2; replace p347 := eq_true p347; replace q347 := eq_true q347; go_wp2_with (first | ((with_reducible refine gate_dst (N := 7) rfl ?_); (try (refine gate_guard (by rfl) ?_; dsimp only)); refine box_event ?hg (N := 7) ?hd (cs := #[.string (⟨#[]⟩ : ByteArray), .int .i64 0, .slice none 0 0]) (t := 26) ?hr ?_; (case hd => rfl); (case hg => rfl); (case hr => first | (go_simp; done) | (go_simp; rfl)); intro gb348 hg w35 hbox hb; have n0_ := Aside0.mk (Kd.R_below (by (with_reducible repeat (first | apply Kd.R_alloc | apply Kd.R_drewN | apply Kd.R_drew)); exact HO_5.out) hb); have n1_ := Aside0.mk (below_step (by repeat (first | (with_reducible first | exact HB.out | apply below_alloc | apply pw_below_drewN | apply below_drew1) | exact HB.out)) hb); have n2_ := Aside0.mk (hbox); have n3_ := Aside0.mk ((by rw [hg]; exact (below_size (by repeat (first | (with_reducible first | exact HB.out | apply below_alloc | apply pw_below_drewN | apply below_drew1) | exact HB.out))) : w.heap.size ≤ gb348)); have n4_ := Aside0.mk ((by rw [hg]; exact (below_size (by repeat (first | (with_reducible first | exact HB.out | apply below_alloc | apply pw_below_drewN | apply below_drew1) | exact HB.out))) : w.heap.size ≤ gb348)); clear HO_5; clear HB; have HO_5 := n0_; have HB := n1_; have BK348 := n2_; have GW348 := n3_; have GE348 := n4_; clear n0_ n1_ n2_ n3_ n4_; clear hb hbox hg; have hcz36_0 : w35.cell? ⟨gb348, 0, none⟩ = some (.string (⟨#[]⟩ : ByteArray)) := (blk_cell BK348.out 0).trans rfl; have hcz36_1 : w35.cell? ⟨gb348, 1, none⟩ = some (.int .i64 0) := (blk_cell BK348.out 1).trans rfl; have hcz36_2 : w35.cell? ⟨gb348, 2, none⟩ = some (.slice none 0 0) := (blk_cell BK348.out 2).trans rfl; have hfz36_0 := blk_frozen BK348.out 0; have hfz36_1 := blk_frozen BK348.out 1; have hfz36_2 := blk_frozen BK348.out 2))
          go_roundg k2
          case measure => have := HJ2.out; have := HK2.out; omega
          case rel => exact ⟨(x5_2), (wrap64 (x20_2 + 1)), (by first | rfl | (simp; done) | (simp [*]; done)), H', ⟨by have := HJ2.out; have := HK2.out; omega⟩, ⟨by (with_reducible repeat (first | apply Kd.R_alloc | apply Kd.R_drewN | apply Kd.R_drew)); exact Kd.R_mono (Kd.R_far (p := ⟨gb348, 2, none⟩) (Kd.R_far (p := ⟨gb348, 1, none⟩) (Kd.R_far (p := ⟨gb348, 0, none⟩) (Kd.R_types HO_5.out BK348.out (by decide)) (fun _ hk => hk.2) (.string ((rd_T26 l0 x20_2).f0))) (fun _ hk => hk.2) (.int .i64 ((rd_T26 l0 x20_2).f1))) (fun _ hk => hk.2) (.slice A347_2 ((rd_T26 l0 x20_2).f2).length c347_2)) (fun _ hk => trivial)⟩, ⟨by repeat (first | (with_reducible first | exact HB.out | apply below_alloc | apply pw_below_drewN | apply below_drew1 | refine below_set ?_ GE348.out) | exact HB.out)⟩⟩
        ·
         rw [if_neg c15] at H; exact absurd H (by simp)
       ·
        rw [if_neg c14] at H; exact absurd H (by simp)
      ·
       rw [if_neg c13] at H; have c13b0 : decide (x20_2 < (l0.length : Int)) = false := decide_eq_false c13; clear c13; obtain rfl := Option.some.inj H; go_wp2; go_ret
       exact ⟨_, by first | rfl | (simp [errW_none, errW_some] <;> rfl) | (simp [*, errW_none, errW_some] <;> rfl), by (with_reducible repeat (first | apply Kd.R_alloc | apply Kd.R_drewN | apply Kd.R_drew)); exact HO_5.out, by repeat (first | (with_reducible first | exact HB.out | apply below_alloc | apply pw_below_drewN | apply below_drew1) | exact HB.out)⟩

end Go.Proofs.YtknfnmdfdkdipaaDoor.PFnTonaryAdd
namespace Go.Proofs.YtknfnmdfdkdipaaDoor.PFnTonaryAdd
open Go.RowKit Go.Proofs.YtknfnmdfdkdipaaDoorW.PrintWords Go.Proofs.YtknfnmdfdkdipaaDoorW.PrintLast Go.Proofs.YtknfnmdfdkdipaaDoorW.PrintMore Go.Proofs.YtknfnmdfdkdipaaDoor.Pure
attribute [local go_sem] max2_int min2_int max_two min_two max_three min_three max_four min_four   -- for this text's walks alone
set_option linter.unusedVariables false
set_option linter.unusedSimpArgs false

mutual
def laws_FnTonaryAdd.j0 : Nat → List (S26) → List (S26) → Bool → List (S26) → Bool → Bool → ByteArray → Int → List (S74) → Option (Bool)
 | 0, _, _, _, _, _, _, _, _, _ => none
 | k + 1, x3, x5, x6, x7, x8, x48, x366000, x366001, x366002 => if x48 = true then (if (x6 == x8) = true then ((laws_sameEntries.f k x5 x7).bind fun t375 => (some t375)) else (some false)) else ((impl_TonaryDrop.f x5 x366001 x366000).bind fun bt376 => ((impl_TonaryAdd.f x5 x366000 x366001 x366002).bind fun bt380 => ((impl_TonaryFind.f k x5 x366002).bind fun t384 => (laws_FnTonaryAdd.l0 k x3 x5 bt376.1 bt376.2 bt380.2 t384 false 0 x366000 x366001 x366002))))
def laws_FnTonaryAdd.l0 : Nat → List (S26) → List (S26) → List (S26) → Bool → Bool → List Int → Bool → Int → ByteArray → Int → List (S74) → Option (Bool)
 | 0, _, _, _, _, _, _, _, _, _, _, _ => none
 | k + 1, x3, x5, x9, x10, x12, x13, x14, x15, x366000, x366001, x366002 => if x15 < (x13.length : Int) then (if x14 = true then (laws_FnTonaryAdd.l0 k x3 x5 x9 x10 x12 x13 true (wrap64 (x15 + 1)) x366000 x366001 x366002) else (if 0 ≤ x15 then (if 0 ≤ (rd x13 x15) then (if (rd x13 x15) < (x5.length : Int) then ((laws_sameEntry.f k ((rd_T26 x5 (rd x13 x15)).f0) ((rd_T26 x5 (rd x13 x15)).f1) ((rd_T26 x5 (rd x13 x15)).f2) x366000 x366001 x366002).bind fun t389 => (laws_FnTonaryAdd.l0 k x3 x5 x9 x10 x12 x13 t389 (wrap64 (x15 + 1)) x366000 x366001 x366002)) else (none)) else (none)) else (none))) else (if x10 = true then (if x12 = true then (some false) else (if x14 = true then ((laws_sameEntries.f k x9 x3).bind fun t390 => (if t390 = true then ((impl_TonaryValid.f x5).bind fun t391 => (if t391 = true then (some ((x5.length : Int) == (wrap64 ((x3.length : Int) + 1)))) else (some false))) else (some false))) else (some false))) else (some false))
end
def laws_FnTonaryAdd.f (k : Nat) (l0 : List Int) : Option (Bool) := if (l0.length : Int) > 1048576 then (some true) else ((spec_DrawTonaryAdd.f k l0).bind fun bt357 => ((impl_TonaryAdd.f bt357.1 bt357.2.1 bt357.2.2.1 bt357.2.2.2).bind fun bt366 => ((spec_TonaryAdd.f k bt357.1 bt357.2.1 bt357.2.2.1 bt357.2.2.2).bind fun bt370 => (if (bt366.2 != bt370.2) = true then (laws_FnTonaryAdd.j0 k bt357.1 bt366.1 bt366.2 bt370.1 bt370.2 true bt357.2.1 bt357.2.2.1 bt357.2.2.2) else ((laws_sameEntries.f k bt366.1 bt370.1).bind fun t374 => (if t374 = true then (laws_FnTonaryAdd.j0 k bt357.1 bt366.1 bt366.2 bt370.1 bt370.2 (!bt366.2) bt357.2.1 bt357.2.2.1 bt357.2.2.2) else (laws_FnTonaryAdd.j0 k bt357.1 bt366.1 bt366.2 bt370.1 bt370.2 true bt357.2.1 bt357.2.2.1 bt357.2.2.2)))))))
def laws_FnTonaryAdd.T15 : Bool × List (List Nat × List Nat) := (true, [([], []), ([0], [0]), ([1], [1]), ([1], [1]), ([1], [1]), ([3, 4, 1], [1, 3, 4]), ([5, 1], [1, 5]), ([2, 6, 1], [1, 2, 6]), ([7, 1], [1, 7]), ([1], [1]), ([8, 9, 1, 1], [1, 8, 9]), ([1, 10], [1, 10]), ([11, 10, 0, 1, 2, 3, 4, 5, 6, 7, 8, 9, 10, 11], [0, 11])])
def laws_FnTonaryAdd.B15 : List Nat := [0, 1, 3, 3, 3, 27, 59, 127, 255, 3, 1023, 2047, 4095]
theorem laws_FnTonaryAdd.tab15 : rtab .any (opsOf Tryd.f3 15) = laws_FnTonaryAdd.T15 := by kernel_rfl
theorem laws_FnTonaryAdd.bits15 : waitsOk laws_FnTonaryAdd.T15.2 laws_FnTonaryAdd.B15 = true := by kernel_rfl
set_option maxHeartbeats 8000000 in
set_option maxRecDepth 100000 in
theorem laws_FnTonaryAdd.calls (k : Nat) (A0 : Option Addr) (c0 : Nat) (l0 : List Int) (r : Bool) (w : World) (ht : DTab w) (hr0 : Kd.C (Kd.int .u8) w A0 l0.length l0) (hc0 : l0.length ≤ c0) (hr : r = true) (h : laws_FnTonaryAdd.f k l0 = some r) :
 Calls Tryd.prog 3 #[.slice A0 l0.length c0] w fun e w' => e = .returned (.bool r) ∧ Below w.heap.size w w' := by
 have HRR := Aside0.mk hr; clear hr; have HT := Aside0.mk ht; clear ht; have hu26 := Tryd.underlying26; have HR0 := Aside0.mk hr0; have HC0 := Aside0.mk hc0; clear hr0 hc0; have HB := Aside0.mk (Below.refl w.heap.size w); have H : (if (l0.length : Int) > 1048576 then (some true) else ((spec_DrawTonaryAdd.f k l0).bind fun bt357 => ((impl_TonaryAdd.f bt357.1 bt357.2.1 bt357.2.2.1 bt357.2.2.2).bind fun bt366 => ((spec_TonaryAdd.f k bt357.1 bt357.2.1 bt357.2.2.1 bt357.2.2.2).bind fun bt370 => (if (bt366.2 != bt370.2) = true then (laws_FnTonaryAdd.j0 k bt357.1 bt366.1 bt366.2 bt370.1 bt370.2 true bt357.2.1 bt357.2.2.1 bt357.2.2.2) else ((laws_sameEntries.f k bt366.1 bt370.1).bind fun t374 => (if t374 = true then (laws_FnTonaryAdd.j0 k bt357.1 bt366.1 bt366.2 bt370.1 bt370.2 (!bt366.2) bt357.2.1 bt357.2.2.1 bt357.2.2.2) else (laws_FnTonaryAdd.j0 k bt357.1 bt366.1 bt366.2 bt370.1 bt370.2 true bt357.2.1 bt357.2.2.1 bt357.2.2.2)))))))) = some r := h; clear h; by_cases c2 : (l0.length : Int) > 1048576
 ·
  rw [if_pos c2] at H; have c2b0 : decide (1048576 < (l0.length : Int)) = true := decide_eq_true c2; have c2b1 : decide (1048576 < l0.length) = true := decide_eq_true (by omega); clear c2; obtain rfl := Option.some.inj H; go_enter Tryd.func3, Tryd.ntmps3
  go_wp2; go_ret
  exact ⟨by first | rfl | (simp [errW_none, errW_some] <;> rfl) | (simp [*, errW_none, errW_some] <;> rfl), by repeat (first | (with_reducible first | exact HB.out | apply below_alloc | apply pw_below_drewN | apply below_drew1) | exact HB.out)⟩
 ·
  rw [if_neg c2] at H; have c2b0 : decide (1048576 < (l0.length : Int)) = false := decide_eq_false c2; have c2b1 : decide (1048576 < l0.length) = false := decide_eq_false (by omega); clear c2; replace H := Option.bind_eq_some_iff.mp H; obtain ⟨⟨t357, t360, t361, t362⟩, A30, H⟩ := H; replace H : ((impl_TonaryAdd.f t357 t360 t361 t362).bind fun bt366 => ((spec_TonaryAdd.f k t357 t360 t361 t362).bind fun bt370 => (if (bt366.2 != bt370.2) = true then (laws_FnTonaryAdd.j0 k t357 bt366.1 bt366.2 bt370.1 bt370.2 true t360 t361 t362) else ((laws_sameEntries.f k bt366.1 bt370.1).bind fun t374 => (if t374 = true then (laws_FnTonaryAdd.j0 k t357 bt366.1 bt366.2 bt370.1 bt370.2 (!bt366.2) t360 t361 t362) else (laws_FnTonaryAdd.j0 k t357 bt366.1 bt366.2 bt370.1 bt370.2 true t360 t361 t362)))))) = some r := H; have A3 := Aside0.mk A30; clear A30; replace H := Option.bind_eq_some_iff.mp H; obtain ⟨⟨t366, t369⟩, A40, H⟩ := H; replace H : ((spec_TonaryAdd.f k t357 t360 t361 t362).bind fun bt370 => (if (t369 != bt370.2) = true then (laws_FnTonaryAdd.j0 k t357 t366 t369 bt370.1 bt370.2 true t360 t361 t362) else ((laws_sameEntries.f k t366 bt370.1).bind fun t374 => (if t374 = true then (laws_FnTonaryAdd.j0 k t357 t366 t369 bt370.1 bt370.2 (!t369) t360 t361 t362) else (laws_FnTonaryAdd.j0 k t357 t366 t369 bt370.1 bt370.2 true t360 t361 t362))))) = some r := H; have A4 := Aside0.mk A40; clear A40; replace H := Option.bind_eq_some_iff.mp H; obtain ⟨⟨t370, t373⟩, A50, H⟩ := H; replace H : (if (t369 != t373) = true then (laws_FnTonaryAdd.j0 k t357 t366 t369 t370 t373 true t360 t361 t362) else ((laws_sameEntries.f k t366 t370).bind fun t374 => (if t374 = true then (laws_FnTonaryAdd.j0 k t357 t366 t369 t370 t373 (!t369) t360 t361 t362) else (laws_FnTonaryAdd.j0 k t357 t366 t369 t370 t373 true t360 t361 t362)))) = some r := H; have A5 := Aside0.mk A50; clear A50; have HC6 := Aside0.mk H; clear H; go_enter Tryd.func3, Tryd.ntmps3
  go_upto_region 6 with (first | ((with_reducible refine gate_callee (f := 4) rfl ?_); refine goesL_ (some 21) rfl rfl Tryd.func4 (by kernel_rfl) rfl #[.slice A0 l0.length c0] rfl (by (try simp only [List.map_toArray, List.map_cons, List.map_nil]); first | done | rfl | (simp only [List.length_drop, List.length_take]; rfl)) ?_; (with_reducible refine (spec_DrawTonaryAdd.calls k _ _ l0 t357 t360 t361 t362 _ ?side1 ?side2 A3.out).mono ?_); (case side1 => repeat (first | exact HR0.out | (with_reducible refine Kd.C_alloc ?_ _) | (with_reducible refine Kd.C_drewN ?_ _) | (with_reducible refine Kd.C_drew ?_))); (case side2 => exact HC0.out); rintro e w7 ⟨v358, v363, rfl, ho0, ho1, hb⟩; refine ⟨_, rfl, ?_⟩; have n0_ := Aside0.mk (Kd.N_lower (Kd.N_mono (ok' := fun k_ => some k_ ≠ (v363 : Value).ownBlock) ho0 (fun k_ hk_ => hk_.2)) (below_size (by repeat (first | (with_reducible first | exact HB.out | apply below_alloc | apply pw_below_drewN | apply below_drew1) | exact HB.out)))); have n1_ := Aside0.mk (Kd.R_lower (Kd.R_mono (ok' := fun k_ => True) ho1 (fun _ hk_ => trivial)) (below_size (by repeat (first | (with_reducible first | exact HB.out | apply below_alloc | apply pw_below_drewN | apply below_drew1) | exact HB.out)))); have n2_ := Aside0.mk (below_step (by repeat (first | (with_reducible first | exact HB.out | apply below_alloc | apply pw_below_drewN | apply below_drew1) | exact HB.out)) hb); clear HB; have HO359 := n0_; have HO364 := n1_; have HB := n2_; clear n0_ n1_ n2_; (try clear hb); (try clear hb2); (try clear hk); (try clear hi); (try clear ho0); (try clear ho1)) | ((with_reducible refine gate_dst (N := 4) rfl ?_); (try (refine gate_guard (by rfl) ?_; dsimp only)); refine box_event ?hg (N := 4) ?hd (cs := #[.string (⟨#[]⟩ : ByteArray), .int .i64 0, .slice none 0 0]) (t := 26) ?hr ?_; (case hd => rfl); (case hg => rfl); (case hr => first | (go_simp; done) | (go_simp; rfl)); intro gb365 hg w8 hbox hb; have n0_ := Aside0.mk (Kd.N_below (Kd.N_elderB (by (with_reducible repeat (first | apply Kd.N_alloc | apply Kd.N_drewN | apply Kd.N_drew)); exact HO359.out) gb365 (Nat.le_of_eq hg.symm)) hb); have n1_ := Aside0.mk (Kd.R_below (by (with_reducible repeat (first | apply Kd.R_alloc | apply Kd.R_drewN | apply Kd.R_drew)); exact HO364.out) hb); have n2_ := Aside0.mk (below_step (by repeat (first | (with_reducible first | exact HB.out | apply below_alloc | apply pw_below_drewN | apply below_drew1) | exact HB.out)) hb); have n3_ := Aside0.mk (hbox); have n4_ := Aside0.mk ((by rw [hg]; exact (below_size (by repeat (first | (with_reducible first | exact HB.out | apply below_alloc | apply pw_below_drewN | apply below_drew1) | exact HB.out))) : w.heap.size ≤ gb365)); have n5_ := Aside0.mk ((by rw [hg]; exact (below_size (by repeat (first | (with_reducible first | exact HB.out | apply below_alloc | apply pw_below_drewN | apply below_drew1) | exact HB.out))) : w.heap.size ≤ gb365)); clear HO359; clear HO364; clear HB; have HO359 := n0_; have HO364 := n1_; have HB := n2_; have BK365 := n3_; have GW365 := n4_; have GE365 := n5_; clear n0_ n1_ n2_ n3_ n4_ n5_; clear hb hbox hg; have hcz9_0 : w8.cell? ⟨gb365, 0, none⟩ = some (.string (⟨#[]⟩ : ByteArray)) := (blk_cell BK365.out 0).trans rfl; have hcz9_1 : w8.cell? ⟨gb365, 1, none⟩ = some (.int .i64 0) := (blk_cell BK365.out 1).trans rfl; have hcz9_2 : w8.cell? ⟨gb365, 2, none⟩ = some (.slice none 0 0) := (blk_cell BK365.out 2).trans rfl; have hfz9_0 := blk_frozen BK365.out 0; have hfz9_1 := blk_frozen BK365.out 1; have hfz9_2 := blk_frozen BK365.out 2; obtain ⟨Ao10, co10, eo10⟩ := Kd.R_slice HO364.out; subst eo10; obtain ⟨Ao11, co11, eo11⟩ := Kd.N_slice HO359.out; subst eo11) | ((with_reducible refine gate_callee (f := 5) rfl ?_); refine goesL_ (some 27) rfl rfl Tryd.func5 (by kernel_rfl) rfl #[.slice Ao11 t357.length co11, .agg #[.string t360, .int .i64 t361, .slice Ao10 t362.length co10]] rfl (by (try simp only [List.map_toArray, List.map_cons, List.map_nil]); first | done | rfl | (simp only [List.length_drop, List.length_take]; rfl)) ?_; (with_reducible refine (impl_TonaryAdd.calls _ _ t357 t360 t361 _ _ t362 t366 t369 _ ?side1 ?side2 ?side3 ?side4 A4.out (ht := HT.out.below (by repeat (first | (with_reducible first | exact HB.out | apply below_alloc | apply pw_below_drewN | apply below_drew1 | refine below_set ?_ GE365.out) | exact HB.out)))).mono ?_); (case side1 => refine (Kd.N_reads' (e := 26) (base := w.heap.size) (ok := fun k_ => (some k_ ≠ (.slice Ao10 t362.length co10 : Value).ownBlock ∧ k_ ≠ gb365)) (n := t357.length) (c := co11) ?_).2.2; exact (by (with_reducible repeat (first | apply Kd.N_alloc | apply Kd.N_drewN | apply Kd.N_drew)); exact (Kd.N_mono (Kd.N_far (p := ⟨gb365, 2, none⟩) (Kd.N_far (p := ⟨gb365, 1, none⟩) (Kd.N_far (p := ⟨gb365, 0, none⟩) (Kd.N_mono HO359.out (fun k_ hk => (⟨hk, hk.2⟩ : _ ∧ k_ ≠ gb365))) (fun _ hk => hk.2) (.string t360)) (fun _ hk => hk.2) (.int .i64 t361)) (fun _ hk => hk.2) (.slice Ao10 t362.length co10)) (fun _ h_ => h_.1)))); (case side2 => exact (Kd.N_reads' HO359.out).2.1); (case side3 => refine (Kd.R_reads' (e := 74) (base := w.heap.size) (ok := fun k_ => True) (n := t362.length) (c := co10) ?_).2.2; exact (by (with_reducible repeat (first | apply Kd.R_alloc | apply Kd.R_drewN | apply Kd.R_drew)); exact (Kd.R_mono (Kd.R_far (p := ⟨gb365, 2, none⟩) (Kd.R_far (p := ⟨gb365, 1, none⟩) (Kd.R_far (p := ⟨gb365, 0, none⟩) (Kd.R_types HO364.out BK365.out (by decide)) (fun _ hk => hk.2) (.string t360)) (fun _ hk => hk.2) (.int .i64 t361)) (fun _ hk => hk.2) (.slice Ao10 t362.length co10)) (fun _ h_ => h_.1)))); (case side4 => exact (Kd.R_reads' HO364.out).2.1); rintro e w12 ⟨v367, rfl, ho0, hb⟩; refine ⟨_, rfl, ?_⟩; have n0_ := Aside0.mk (Kd.N_elder' (by (with_reducible repeat (first | apply Kd.N_alloc | apply Kd.N_drewN | apply Kd.N_drew)); exact (Kd.N_mono (Kd.N_far (p := ⟨gb365, 2, none⟩) (Kd.N_far (p := ⟨gb365, 1, none⟩) (Kd.N_far (p := ⟨gb365, 0, none⟩) (Kd.N_mono HO359.out (fun k_ hk => (⟨hk, hk.2⟩ : _ ∧ k_ ≠ gb365))) (fun _ hk => hk.2) (.string t360)) (fun _ hk => hk.2) (.int .i64 t361)) (fun _ hk => hk.2) (.slice Ao10 t362.length co10)) (fun _ h_ => h_.1))) (by first | exact Kd.N_base ho0 | exact Kd.N_base (Kd.S_N ho0) | exact Kd.N_base (Kd.S_N (Kd.S_bound ho0))) hb); have n1_ := Aside0.mk (Kd.R_below (by (with_reducible repeat (first | apply Kd.R_alloc | apply Kd.R_drewN | apply Kd.R_drew)); exact (Kd.R_mono (Kd.R_far (p := ⟨gb365, 2, none⟩) (Kd.R_far (p := ⟨gb365, 1, none⟩) (Kd.R_far (p := ⟨gb365, 0, none⟩) (Kd.R_types HO364.out BK365.out (by decide)) (fun _ hk => hk.2) (.string t360)) (fun _ hk => hk.2) (.int .i64 t361)) (fun _ hk => hk.2) (.slice Ao10 t362.length co10)) (fun _ h_ => h_.1))) hb); have n2_ := Aside0.mk (Kd.N_lower (Kd.N_mono (ok' := fun k_ => some k_ ≠ (.slice Ao11 t357.length co11 : Value).ownBlock ∧ some k_ ≠ (.slice Ao10 t362.length co10 : Value).ownBlock ∧ k_ ≠ gb365) (Kd.S_N (Kd.S_bound ho0)) (fun k_ hk_ => ⟨(Kd.fresh' (Kd.N_lt (by (with_reducible repeat (first | apply Kd.N_alloc | apply Kd.N_drewN | apply Kd.N_drew)); exact (Kd.N_mono (Kd.N_far (p := ⟨gb365, 2, none⟩) (Kd.N_far (p := ⟨gb365, 1, none⟩) (Kd.N_far (p := ⟨gb365, 0, none⟩) (Kd.N_mono HO359.out (fun k_ hk => (⟨hk, hk.2⟩ : _ ∧ k_ ≠ gb365))) (fun _ hk => hk.2) (.string t360)) (fun _ hk => hk.2) (.int .i64 t361)) (fun _ hk => hk.2) (.slice Ao10 t362.length co10)) (fun _ h_ => h_.1)))) k_ hk_.2.1), (Kd.fresh' (Kd.R_lt (by (with_reducible repeat (first | apply Kd.R_alloc | apply Kd.R_drewN | apply Kd.R_drew)); exact (Kd.R_mono (Kd.R_far (p := ⟨gb365, 2, none⟩) (Kd.R_far (p := ⟨gb365, 1, none⟩) (Kd.R_far (p := ⟨gb365, 0, none⟩) (Kd.R_types HO364.out BK365.out (by decide)) (fun _ hk => hk.2) (.string t360)) (fun _ hk => hk.2) (.int .i64 t361)) (fun _ hk => hk.2) (.slice Ao10 t362.length co10)) (fun _ h_ => h_.1)))) k_ hk_.2.1), (Kd.freshB (g := gb365) (o := .cells #[.string t360, .int .i64 t361, .slice Ao10 t362.length co10] 26 (0, 0)) (by (with_reducible repeat (first | refine blk_drewN ?_ _ | refine blk_drew ?_ | refine blk_alloc ?_ _)); refine blk_put (cs := #[.string t360, .int .i64 t361, .slice none 0 0]) ?_ 2 _ rfl; (with_reducible repeat (first | refine blk_drewN ?_ _ | refine blk_drew ?_ | refine blk_alloc ?_ _)); refine blk_put (cs := #[.string t360, .int .i64 0, .slice none 0 0]) ?_ 1 _ rfl; (with_reducible repeat (first | refine blk_drewN ?_ _ | refine blk_drew ?_ | refine blk_alloc ?_ _)); refine blk_put (cs := #[.string (⟨#[]⟩ : ByteArray), .int .i64 0, .slice none 0 0]) ?_ 0 _ rfl; (with_reducible repeat (first | refine blk_drewN ?_ _ | refine blk_drew ?_ | refine blk_alloc ?_ _)); exact BK365.out) k_ hk_.2.1)⟩)) (below_size (by repeat (first | (with_reducible first | exact HB.out | apply below_alloc | apply pw_below_drewN | apply below_drew1 | refine below_set ?_ GE365.out) | exact HB.out)))); have n3_ := Aside0.mk (blk_below (g := gb365) (o := .cells #[.string t360, .int .i64 t361, .slice Ao10 t362.length co10] 26 (0, 0)) (by (with_reducible repeat (first | refine blk_drewN ?_ _ | refine blk_drew ?_ | refine blk_alloc ?_ _)); refine blk_put (cs := #[.string t360, .int .i64 t361, .slice none 0 0]) ?_ 2 _ rfl; (with_reducible repeat (first | refine blk_drewN ?_ _ | refine blk_drew ?_ | refine blk_alloc ?_ _)); refine blk_put (cs := #[.string t360, .int .i64 0, .slice none 0 0]) ?_ 1 _ rfl; (with_reducible repeat (first | refine blk_drewN ?_ _ | refine blk_drew ?_ | refine blk_alloc ?_ _)); refine blk_put (cs := #[.string (⟨#[]⟩ : ByteArray), .int .i64 0, .slice none 0 0]) ?_ 0 _ rfl; (with_reducible repeat (first | refine blk_drewN ?_ _ | refine blk_drew ?_ | refine blk_alloc ?_ _)); exact BK365.out) hb); have n4_ := Aside0.mk (below_step (by repeat (first | (with_reducible first | exact HB.out | apply below_alloc | apply pw_below_drewN | apply below_drew1 | refine below_set ?_ GE365.out) | exact HB.out)) hb); clear HO359; clear HO364; clear BK365; clear HB; have HO359 := n0_; have HO364 := n1_; have HO368 := n2_; have BK365 := n3_; have HB := n4_; clear n0_ n1_ n2_ n3_ n4_; (try clear hb); (try clear hb2); (try clear hk); (try clear hi); (try clear ho0); have hcz13_0 : w12.cell? ⟨gb365, 0, none⟩ = some (.string t360) := (blk_cell BK365.out 0).trans rfl; have hcz13_1 : w12.cell? ⟨gb365, 1, none⟩ = some (.int .i64 t361) := (blk_cell BK365.out 1).trans rfl; have hcz13_2 : w12.cell? ⟨gb365, 2, none⟩ = some (.slice Ao10 t362.length co10) := (blk_cell BK365.out 2).trans rfl; have hfz13_0 := blk_frozen BK365.out 0; have hfz13_1 := blk_frozen BK365.out 1; have hfz13_2 := blk_frozen BK365.out 2) | ((with_reducible refine gate_callee (f := 6) rfl ?_); refine goesL_ (some 33) rfl rfl Tryd.func6 (by kernel_rfl) rfl #[.slice Ao11 t357.length co11, .agg #[.string t360, .int .i64 t361, .slice Ao10 t362.length co10]] rfl (by (try simp only [List.map_toArray, List.map_cons, List.map_nil]); first | done | rfl | (simp only [List.length_drop, List.length_take]; rfl)) ?_; (with_reducible refine (spec_TonaryAdd.calls k _ _ t357 t360 t361 _ _ t362 t370 t373 _ ?side1 ?side2 ?side3 ?side4 A5.out).mono ?_); (case side1 => repeat (first | exact (Kd.N_reads' HO359.out).2.2 | (with_reducible refine Kd.C_alloc ?_ _) | (with_reducible refine Kd.C_drewN ?_ _) | (with_reducible refine Kd.C_drew ?_))); (case side2 => exact (Kd.N_reads' HO359.out).2.1); (case side3 => repeat (first | exact (Kd.R_reads' HO364.out).2.2 | (with_reducible refine Kd.C_alloc ?_ _) | (with_reducible refine Kd.C_drewN ?_ _) | (with_reducible refine Kd.C_drew ?_))); (case side4 => exact (Kd.R_reads' HO364.out).2.1); rintro e w14 ⟨v371, rfl, ho0, hb⟩; refine ⟨_, rfl, ?_⟩; have n0_ := Aside0.mk (Kd.N_elder' (by (with_reducible repeat (first | apply Kd.N_alloc | apply Kd.N_drewN | apply Kd.N_drew)); exact HO359.out) (by first | exact Kd.N_base ho0 | exact Kd.N_base (Kd.S_N ho0) | exact Kd.N_base (Kd.S_N (Kd.S_bound ho0))) hb); have n1_ := Aside0.mk (Kd.R_below (by (with_reducible repeat (first | apply Kd.R_alloc | apply Kd.R_drewN | apply Kd.R_drew)); exact HO364.out) hb); have n2_ := Aside0.mk (Kd.N_elder' (by (with_reducible repeat (first | apply Kd.N_alloc | apply Kd.N_drewN | apply Kd.N_drew)); exact HO368.out) (by first | exact Kd.N_base ho0 | exact Kd.N_base (Kd.S_N ho0) | exact Kd.N_base (Kd.S_N (Kd.S_bound ho0))) hb); have n3_ := Aside0.mk (Kd.N_lower (Kd.N_mono (ok' := fun k_ => some k_ ≠ (.slice Ao11 t357.length co11 : Value).ownBlock ∧ some k_ ≠ (.slice Ao10 t362.length co10 : Value).ownBlock ∧ some k_ ≠ (v367 : Value).ownBlock ∧ k_ ≠ gb365) (Kd.S_N (Kd.S_bound ho0)) (fun k_ hk_ => ⟨(Kd.fresh' (Kd.N_lt (by (with_reducible repeat (first | apply Kd.N_alloc | apply Kd.N_drewN | apply Kd.N_drew)); exact HO359.out)) k_ hk_.2.1), (Kd.fresh' (Kd.R_lt (by (with_reducible repeat (first | apply Kd.R_alloc | apply Kd.R_drewN | apply Kd.R_drew)); exact HO364.out)) k_ hk_.2.1), (Kd.fresh' (Kd.N_lt (by (with_reducible repeat (first | apply Kd.N_alloc | apply Kd.N_drewN | apply Kd.N_drew)); exact HO368.out)) k_ hk_.2.1), (Kd.freshB (g := gb365) (o := .cells #[.string t360, .int .i64 t361, .slice Ao10 t362.length co10] 26 (0, 0)) (by (with_reducible repeat (first | refine blk_drewN ?_ _ | refine blk_drew ?_ | refine blk_alloc ?_ _)); exact BK365.out) k_ hk_.2.1)⟩)) (below_size (by repeat (first | (with_reducible first | exact HB.out | apply below_alloc | apply pw_below_drewN | apply below_drew1 | refine below_set ?_ GE365.out) | exact HB.out)))); have n4_ := Aside0.mk (blk_below (g := gb365) (o := .cells #[.string t360, .int .i64 t361, .slice Ao10 t362.length co10] 26 (0, 0)) (by (with_reducible repeat (first | refine blk_drewN ?_ _ | refine blk_drew ?_ | refine blk_alloc ?_ _)); exact BK365.out) hb); have n5_ := Aside0.mk (below_step (by repeat (first | (with_reducible first | exact HB.out | apply below_alloc | apply pw_below_drewN | apply below_drew1 | refine below_set ?_ GE365.out) | exact HB.out)) hb); clear HO359; clear HO364; clear HO368; clear BK365; clear HB; have HO359 := n0_; have HO364 := n1_; have HO368 := n2_; have HO372 := n3_; have BK365 := n4_; have HB := n5_; clear n0_ n1_ n2_ n3_ n4_ n5_; (try clear hb); (try clear hb2); (try clear hk); (try clear hi); (try clear ho0)))
  (try simp only [Act.put, List.setIfInBounds_toArray, List.set_cons_zero, List.set_cons_succ])
  go_cut [48] (fun v48 wc => ∃ (kq : Nat) (x48_5 : Bool), v48 = .bool x48_5 ∧ Aside0 (laws_FnTonaryAdd.j0 kq t357 t366 t369 t370 t373 x48_5 t360 t361 t362 = some r) ∧ Aside0 (kq ≤ k) ∧ Aside0 (Kd.N k26 26 wc w.heap.size (fun k_ => some k_ ≠ (v367 : Value).ownBlock ∧ some k_ ≠ (v371 : Value).ownBlock ∧ some k_ ≠ ((.slice Ao10 t362.length co10) : Value).ownBlock ∧ k_ ≠ gb365) (.slice Ao11 t357.length co11) t357) ∧ Aside0 (Kd.N k26 26 wc w.heap.size (fun k_ => some k_ ≠ ((.slice Ao11 t357.length co11) : Value).ownBlock ∧ some k_ ≠ (v371 : Value).ownBlock ∧ some k_ ≠ ((.slice Ao10 t362.length co10) : Value).ownBlock ∧ k_ ≠ gb365) v367 t366) ∧ Aside0 (Kd.N k26 26 wc w.heap.size (fun k_ => some k_ ≠ ((.slice Ao11 t357.length co11) : Value).ownBlock ∧ some k_ ≠ (v367 : Value).ownBlock ∧ some k_ ≠ ((.slice Ao10 t362.length co10) : Value).ownBlock ∧ k_ ≠ gb365) v371 t370) ∧ Aside0 (Kd.R k74 74 wc w.heap.size (fun _ => True) (.slice Ao10 t362.length co10) t362) ∧ Aside0 (wc.heap[gb365]? = some (.cells #[.string t360, .int .i64 t361, (.slice Ao10 t362.length co10)] 26 (0, 0))) ∧ Aside0 (Below w.heap.size w wc))
  case first =>
   have H := HC6.out; clear HC6; by_cases c15 : (t369 != t373) = true
   ·
    rw [if_pos c15] at H; have c15b0 : (t369 != t373) = true := c15; (try (have c15b1 : decide (t369 = t373) = false := by simpa using c15))
    (try (have c15b2 : (t369 == t373) = false := by simpa using c15))
    (try (have c15b3 : ¬ (t369 = t373) := by simpa using c15))
    clear c15; (first | rw [c15b0] | (simp only [i64_w, i32_w]; rw [c15b0]) | skip)
    have H' := Aside0.mk H; clear H; go_wp2; go_meet
    case rel => exact ⟨_, (true), (by first | rfl | (simp; done) | (simp [*]; done)), H', ⟨by first | omega | exact Nat.le_refl _⟩, ⟨by (with_reducible repeat (first | apply Kd.N_alloc | apply Kd.N_drewN | apply Kd.N_drew)); exact Kd.N_mono HO359.out (fun _ hk => ⟨hk.1.2, ⟨hk.2, ⟨hk.1.1.1, hk.1.1.2⟩⟩⟩)⟩, ⟨by (with_reducible repeat (first | apply Kd.N_alloc | apply Kd.N_drewN | apply Kd.N_drew)); exact Kd.N_mono HO368.out (fun _ hk => ⟨hk.1.1, ⟨hk.2, ⟨hk.1.2.1, hk.1.2.2⟩⟩⟩)⟩, ⟨by (with_reducible repeat (first | apply Kd.N_alloc | apply Kd.N_drewN | apply Kd.N_drew)); exact Kd.N_mono HO372.out (fun _ hk => ⟨hk.1, ⟨hk.2.2.1, ⟨hk.2.1, hk.2.2.2⟩⟩⟩)⟩, ⟨by (with_reducible repeat (first | apply Kd.R_alloc | apply Kd.R_drewN | apply Kd.R_drew)); exact HO364.out⟩, ⟨by (with_reducible repeat (first | refine blk_drewN ?_ _ | refine blk_drew ?_ | refine blk_alloc ?_ _)); exact BK365.out⟩, ⟨by repeat (first | (with_reducible first | exact HB.out | apply below_alloc | apply pw_below_drewN | apply below_drew1 | refine below_set ?_ GE365.out) | exact HB.out)⟩⟩
   ·
    rw [if_neg c15] at H; have c15b0 : (t369 != t373) = false := by simpa using c15
    (try (have c15b1 : decide (t369 = t373) = true := by simpa using c15))
    (try (have c15b2 : (t369 == t373) = true := by simpa using c15))
    clear c15; (first | rw [c15b0] | (simp only [i64_w, i32_w]; rw [c15b0]) | skip)
    replace H := Option.bind_eq_some_iff.mp H; obtain ⟨t374, A160, H⟩ := H; replace H : (if t374 = true then (laws_FnTonaryAdd.j0 k t357 t366 t369 t370 t373 (!t369) t360 t361 t362) else (laws_FnTonaryAdd.j0 k t357 t366 t369 t370 t373 true t360 t361 t362)) = some r := H; have A16 := Aside0.mk A160; clear A160; by_cases c17 : t374 = true
    ·
     subst c17; have H1 : (laws_FnTonaryAdd.j0 k t357 t366 t369 t370 t373 (!t369) t360 t361 t362) = some r := by rw [if_pos rfl] at H; exact H
     clear H; have H := H1; clear H1; have H' := Aside0.mk H; clear H; obtain ⟨Ao18, co18, eo18⟩ := Kd.N_slice HO368.out; subst eo18; obtain ⟨Ao19, co19, eo19⟩ := Kd.N_slice HO372.out; subst eo19; go_wp2_with (first | (go_at_call 7; (with_reducible refine (laws_sameEntries.calls k _ _ t366 _ _ t370 true _ ?side1 ?side2 ?side3 ?side4 A16.out).mono ?_); (case side1 => repeat (first | exact (Kd.N_reads' HO368.out).2.2 | (with_reducible refine Kd.C_alloc ?_ _) | (with_reducible refine Kd.C_drewN ?_ _) | (with_reducible refine Kd.C_drew ?_))); (case side2 => exact (Kd.N_reads' HO368.out).2.1); (case side3 => repeat (first | exact (Kd.N_reads' HO372.out).2.2 | (with_reducible refine Kd.C_alloc ?_ _) | (with_reducible refine Kd.C_drewN ?_ _) | (with_reducible refine Kd.C_drew ?_))); (case side4 => exact (Kd.N_reads' HO372.out).2.1); rintro e w20 ⟨rfl, hb⟩; have n0_ := Aside0.mk (Kd.N_below (by (with_reducible repeat (first | apply Kd.N_alloc | apply Kd.N_drewN | apply Kd.N_drew)); exact HO359.out) hb); have n1_ := Aside0.mk (Kd.R_below (by (with_reducible repeat (first | apply Kd.R_alloc | apply Kd.R_drewN | apply Kd.R_drew)); exact HO364.out) hb); have n2_ := Aside0.mk (Kd.N_below (by (with_reducible repeat (first | apply Kd.N_alloc | apply Kd.N_drewN | apply Kd.N_drew)); exact HO368.out) hb); have n3_ := Aside0.mk (Kd.N_below (by (with_reducible repeat (first | apply Kd.N_alloc | apply Kd.N_drewN | apply Kd.N_drew)); exact HO372.out) hb); have n4_ := Aside0.mk (blk_below (g := gb365) (o := .cells #[.string t360, .int .i64 t361, .slice Ao10 t362.length co10] 26 (0, 0)) (by (with_reducible repeat (first | refine blk_drewN ?_ _ | refine blk_drew ?_ | refine blk_alloc ?_ _)); exact BK365.out) hb); have n5_ := Aside0.mk (below_step (by repeat (first | (with_reducible first | exact HB.out | apply below_alloc | apply pw_below_drewN | apply below_drew1 | refine below_set ?_ GE365.out) | exact HB.out)) hb); clear HO359; clear HO364; clear HO368; clear HO372; clear BK365; clear HB; have HO359 := n0_; have HO364 := n1_; have HO368 := n2_; have HO372 := n3_; have BK365 := n4_; have HB := n5_; clear n0_ n1_ n2_ n3_ n4_ n5_; (try clear hb); (try clear hb2); (try clear hk); (try clear hi)))
     go_meet
     case rel => exact ⟨_, (!t369), (by first | rfl | (simp; done) | (simp [*]; done)), H', ⟨by first | omega | exact Nat.le_refl _⟩, ⟨by (with_reducible repeat (first | apply Kd.N_alloc | apply Kd.N_drewN | apply Kd.N_drew)); exact Kd.N_mono HO359.out (fun _ hk => ⟨hk.1.2, ⟨hk.2, ⟨hk.1.1.1, hk.1.1.2⟩⟩⟩)⟩, ⟨by (with_reducible repeat (first | apply Kd.N_alloc | apply Kd.N_drewN | apply Kd.N_drew)); exact Kd.N_mono HO368.out (fun _ hk => ⟨hk.1.1, ⟨hk.2, ⟨hk.1.2.1, hk.1.2.2⟩⟩⟩)⟩, ⟨by (with_reducible repeat (first | apply Kd.N_alloc | apply Kd.N_drewN | apply Kd.N_drew)); exact Kd.N_mono HO372.out (fun _ hk => ⟨hk.1, ⟨hk.2.2.1, ⟨hk.2.1, hk.2.2.2⟩⟩⟩)⟩, ⟨by (with_reducible repeat (first | apply Kd.R_alloc | apply Kd.R_drewN | apply Kd.R_drew)); exact HO364.out⟩, ⟨by (with_reducible repeat (first | refine blk_drewN ?_ _ | refine blk_drew ?_ | refine blk_alloc ?_ _)); exact BK365.out⟩, ⟨by repeat (first | (with_reducible first | exact HB.out | apply below_alloc | apply pw_below_drewN | apply below_drew1 | refine below_set ?_ GE365.out) | exact HB.out)⟩⟩
    ·
     replace c17 := Bool.eq_false_iff.mpr c17; subst c17; have H1 : (laws_FnTonaryAdd.j0 k t357 t366 t369 t370 t373 true t360 t361 t362) = some r := by rw [if_neg (show ¬ (false = true) by decide)] at H; exact H
     clear H; have H := H1; clear H1; have H' := Aside0.mk H; clear H; obtain ⟨Ao21, co21, eo21⟩ := Kd.N_slice HO368.out; subst eo21; obtain ⟨Ao22, co22, eo22⟩ := Kd.N_slice HO372.out; subst eo22; go_wp2_with (first | (go_at_call 7; (with_reducible refine (laws_sameEntries.calls k _ _ t366 _ _ t370 false _ ?side1 ?side2 ?side3 ?side4 A16.out).mono ?_); (case side1 => repeat (first | exact (Kd.N_reads' HO368.out).2.2 | (with_reducible refine Kd.C_alloc ?_ _) | (with_reducible refine Kd.C_drewN ?_ _) | (with_reducible refine Kd.C_drew ?_))); (case side2 => exact (Kd.N_reads' HO368.out).2.1); (case side3 => repeat (first | exact (Kd.N_reads' HO372.out).2.2 | (with_reducible refine Kd.C_alloc ?_ _) | (with_reducible refine Kd.C_drewN ?_ _) | (with_reducible refine Kd.C_drew ?_))); (case side4 => exact (Kd.N_reads' HO372.out).2.1); rintro e w23 ⟨rfl, hb⟩; have n0_ := Aside0.mk (Kd.N_below (by (with_reducible repeat (first | apply Kd.N_alloc | apply Kd.N_drewN | apply Kd.N_drew)); exact HO359.out) hb); have n1_ := Aside0.mk (Kd.R_below (by (with_reducible repeat (first | apply Kd.R_alloc | apply Kd.R_drewN | apply Kd.R_drew)); exact HO364.out) hb); have n2_ := Aside0.mk (Kd.N_below (by (with_reducible repeat (first | apply Kd.N_alloc | apply Kd.N_drewN | apply Kd.N_drew)); exact HO368.out) hb); have n3_ := Aside0.mk (Kd.N_below (by (with_reducible repeat (first | apply Kd.N_alloc | apply Kd.N_drewN | apply Kd.N_drew)); exact HO372.out) hb); have n4_ := Aside0.mk (blk_below (g := gb365) (o := .cells #[.string t360, .int .i64 t361, .slice Ao10 t362.length co10] 26 (0, 0)) (by (with_reducible repeat (first | refine blk_drewN ?_ _ | refine blk_drew ?_ | refine blk_alloc ?_ _)); exact BK365.out) hb); have n5_ := Aside0.mk (below_step (by repeat (first | (with_reducible first | exact HB.out | apply below_alloc | apply pw_below_drewN | apply below_drew1 | refine below_set ?_ GE365.out) | exact HB.out)) hb); clear HO359; clear HO364; clear HO368; clear HO372; clear BK365; clear HB; have HO359 := n0_; have HO364 := n1_; have HO368 := n2_; have HO372 := n3_; have BK365 := n4_; have HB := n5_; clear n0_ n1_ n2_ n3_ n4_ n5_; (try clear hb); (try clear hb2); (try clear hk); (try clear hi)))
     go_meet
     case rel => exact ⟨_, (true), (by first | rfl | (simp; done) | (simp [*]; done)), H', ⟨by first | omega | exact Nat.le_refl _⟩, ⟨by (with_reducible repeat (first | apply Kd.N_alloc | apply Kd.N_drewN | apply Kd.N_drew)); exact Kd.N_mono HO359.out (fun _ hk => ⟨hk.1.2, ⟨hk.2, ⟨hk.1.1.1, hk.1.1.2⟩⟩⟩)⟩, ⟨by (with_reducible repeat (first | apply Kd.N_alloc | apply Kd.N_drewN | apply Kd.N_drew)); exact Kd.N_mono HO368.out (fun _ hk => ⟨hk.1.1, ⟨hk.2, ⟨hk.1.2.1, hk.1.2.2⟩⟩⟩)⟩, ⟨by (with_reducible repeat (first | apply Kd.N_alloc | apply Kd.N_drewN | apply Kd.N_drew)); exact Kd.N_mono HO372.out (fun _ hk => ⟨hk.1, ⟨hk.2.2.1, ⟨hk.2.1, hk.2.2.2⟩⟩⟩)⟩, ⟨by (with_reducible repeat (first | apply Kd.R_alloc | apply Kd.R_drewN | apply Kd.R_drew)); exact HO364.out⟩, ⟨by (with_reducible repeat (first | refine blk_drewN ?_ _ | refine blk_drew ?_ | refine blk_alloc ?_ _)); exact BK365.out⟩, ⟨by repeat (first | (with_reducible first | exact HB.out | apply below_alloc | apply pw_below_drewN | apply below_drew1 | refine below_set ?_ GE365.out) | exact HB.out)⟩⟩
  case rest =>
   clear HC6; try clear c1
   try clear c2
   try clear c2b0
   try clear c2b1
   try clear p2
   try clear c3
   try clear c4
   try clear c5
   try clear c6
   try clear c15
   try clear c15b0
   try clear c15b1
   try clear c15b2
   try clear c17
   try clear hcz13_0
   try clear hcz13_1
   try clear hcz13_2
   try clear hcz9_0
   try clear hcz9_1
   try clear hcz9_2
   try clear hfz13_0
   try clear hfz13_1
   try clear hfz13_2
   try clear hfz9_0
   try clear hfz9_1
   try clear hfz9_2
   obtain ⟨kq, x48_5, rfl, HA, HJ5, HO_3, HO_5, HO_7, HO_366002, BK365, HB⟩ := hcut; cases kq with
   | zero => exact absurd HA.out (by simp [laws_FnTonaryAdd.j0])
   | succ kj5 =>
    have H := HA.out; clear HA; simp only [laws_FnTonaryAdd.j0] at H; by_cases c24 : x48_5 = true
    ·
     subst c24; have H1 : (if (t369 == t373) = true then ((laws_sameEntries.f kj5 t366 t370).bind fun t375 => (some t375)) else (some false)) = some r := by rw [if_pos rfl] at H; exact H
     clear H; have H := H1; clear H1; by_cases c25 : (t369 == t373) = true
     ·
      rw [if_pos c25] at H; have c25b0 : (t369 == t373) = true := c25; (try (have c25b1 : decide (t369 = t373) = true := by simpa using c25))
      (try (have c25b2 : (t369 == t373) = true := by simpa using c25))
      clear c25; replace H := Option.bind_eq_some_iff.mp H; obtain ⟨t375, A260, H⟩ := H; replace H : (some t375) = some r := H; have A26 := Aside0.mk A260; clear A260; obtain rfl := Option.some.inj H; obtain ⟨Ao27, co27, eo27⟩ := Kd.N_slice HO_5.out; subst eo27; obtain ⟨Ao28, co28, eo28⟩ := Kd.N_slice HO_7.out; subst eo28; go_wp2_with (first | (go_at_call 7; (with_reducible refine (laws_sameEntries.calls kj5 _ _ t366 _ _ t370 t375 _ ?side1 ?side2 ?side3 ?side4 A26.out).mono ?_); (case side1 => repeat (first | exact (Kd.N_reads' HO_5.out).2.2 | (with_reducible refine Kd.C_alloc ?_ _) | (with_reducible refine Kd.C_drewN ?_ _) | (with_reducible refine Kd.C_drew ?_))); (case side2 => exact (Kd.N_reads' HO_5.out).2.1); (case side3 => repeat (first | exact (Kd.N_reads' HO_7.out).2.2 | (with_reducible refine Kd.C_alloc ?_ _) | (with_reducible refine Kd.C_drewN ?_ _) | (with_reducible refine Kd.C_drew ?_))); (case side4 => exact (Kd.N_reads' HO_7.out).2.1); rintro e w29 ⟨rfl, hb⟩; have n0_ := Aside0.mk (Kd.N_below (by (with_reducible repeat (first | apply Kd.N_alloc | apply Kd.N_drewN | apply Kd.N_drew)); exact HO_3.out) hb); have n1_ := Aside0.mk (Kd.N_below (by (with_reducible repeat (first | apply Kd.N_alloc | apply Kd.N_drewN | apply Kd.N_drew)); exact HO_5.out) hb); have n2_ := Aside0.mk (Kd.N_below (by (with_reducible repeat (first | apply Kd.N_alloc | apply Kd.N_drewN | apply Kd.N_drew)); exact HO_7.out) hb); have n3_ := Aside0.mk (Kd.R_below (by (with_reducible repeat (first | apply Kd.R_alloc | apply Kd.R_drewN | apply Kd.R_drew)); exact HO_366002.out) hb); have n4_ := Aside0.mk (blk_below (g := gb365) (o := .cells #[.string t360, .int .i64 t361, .slice Ao10 t362.length co10] 26 (0, 0)) (by (with_reducible repeat (first | refine blk_drewN ?_ _ | refine blk_drew ?_ | refine blk_alloc ?_ _)); exact BK365.out) hb); have n5_ := Aside0.mk (below_step (by repeat (first | (with_reducible first | exact HB.out | apply below_alloc | apply pw_below_drewN | apply below_drew1 | refine below_set ?_ GE365.out) | exact HB.out)) hb); clear HO_3; clear HO_5; clear HO_7; clear HO_366002; clear BK365; clear HB; have HO_3 := n0_; have HO_5 := n1_; have HO_7 := n2_; have HO_366002 := n3_; have BK365 := n4_; have HB := n5_; clear n0_ n1_ n2_ n3_ n4_ n5_; (try clear hb); (try clear hb2); (try clear hk); (try clear hi)))
      go_ret
      exact ⟨by first | rfl | (simp [errW_none, errW_some] <;> rfl) | (simp [*, errW_none, errW_some] <;> rfl), by repeat (first | (with_reducible first | exact HB.out | apply below_alloc | apply pw_below_drewN | apply below_drew1 | refine below_set ?_ GE365.out) | exact HB.out)⟩
     ·
      rw [if_neg c25] at H; exact absurd (H.trans (congrArg some HRR.out)) (by simp)
    ·
     replace c24 := Bool.eq_false_iff.mpr c24; subst c24; have H1 : ((impl_TonaryDrop.f t366 t361 t360).bind fun bt376 => ((impl_TonaryAdd.f t366 t360 t361 t362).bind fun bt380 => ((impl_TonaryFind.f kj5 t366 t362).bind fun t384 => (laws_FnTonaryAdd.l0 kj5 t357 t366 bt376.1 bt376.2 bt380.2 t384 false 0 t360 t361 t362)))) = some r := by rw [if_neg (show ¬ (false = true) by decide)] at H; exact H
     clear H; have H := H1; clear H1; replace H := Option.bind_eq_some_iff.mp H; obtain ⟨⟨t376, t377⟩, A300, H⟩ := H; replace H : ((impl_TonaryAdd.f t366 t360 t361 t362).bind fun bt380 => ((impl_TonaryFind.f kj5 t366 t362).bind fun t384 => (laws_FnTonaryAdd.l0 kj5 t357 t366 t376 t377 bt380.2 t384 false 0 t360 t361 t362))) = some r := H; have A30 := Aside0.mk A300; clear A300; replace H := Option.bind_eq_some_iff.mp H; obtain ⟨⟨t380, t383⟩, A310, H⟩ := H; replace H : ((impl_TonaryFind.f kj5 t366 t362).bind fun t384 => (laws_FnTonaryAdd.l0 kj5 t357 t366 t376 t377 t383 t384 false 0 t360 t361 t362)) = some r := H; have A31 := Aside0.mk A310; clear A310; replace H := Option.bind_eq_some_iff.mp H; obtain ⟨t384, A320, H⟩ := H; replace H : (laws_FnTonaryAdd.l0 kj5 t357 t366 t376 t377 t383 t384 false 0 t360 t361 t362) = some r := H; have A32 := Aside0.mk A320; clear A320; have H' := Aside0.mk H; clear H; have hcz33_0 : wc.cell? ⟨gb365, 0, none⟩ = some (.string t360) := (blk_cell BK365.out 0).trans rfl; have hcz33_1 : wc.cell? ⟨gb365, 1, none⟩ = some (.int .i64 t361) := (blk_cell BK365.out 1).trans rfl; have hcz33_2 : wc.cell? ⟨gb365, 2, none⟩ = some (.slice Ao10 t362.length co10) := (blk_cell BK365.out 2).trans rfl; have hfz33_0 := blk_frozen BK365.out 0; have hfz33_1 := blk_frozen BK365.out 1; have hfz33_2 := blk_frozen BK365.out 2; obtain ⟨Ao34, co34, eo34⟩ := Kd.N_slice HO_5.out; subst eo34; go_wp2_with (first | ((with_reducible refine gate_callee (f := 8) rfl ?_); refine goesL_ (some 63) rfl rfl Tryd.func8 (by kernel_rfl) rfl #[.slice Ao34 t366.length co34, .int .i64 t361, .string t360] rfl (by (try simp only [List.map_toArray, List.map_cons, List.map_nil]); first | done | rfl | (simp only [List.length_drop, List.length_take]; rfl)) ?_; (with_reducible refine (impl_TonaryDrop.calls _ _ t366 t361 t360 t376 t377 _ ?side1 ?side2 A30.out (ht := HT.out.below (by repeat (first | (with_reducible first | exact HB.out | apply below_alloc | apply pw_below_drewN | apply below_drew1 | refine below_set ?_ GE365.out) | exact HB.out)))).mono ?_); (case side1 => repeat (first | exact (Kd.N_reads' HO_5.out).2.2 | (with_reducible refine Kd.C_alloc ?_ _) | (with_reducible refine Kd.C_drewN ?_ _) | (with_reducible refine Kd.C_drew ?_))); (case side2 => exact (Kd.N_reads' HO_5.out).2.1); rintro e w35 ⟨v378, rfl, ho0, hb⟩; refine ⟨_, rfl, ?_⟩; have n0_ := Aside0.mk (Kd.N_elder' (by (with_reducible repeat (first | apply Kd.N_alloc | apply Kd.N_drewN | apply Kd.N_drew)); exact HO_3.out) (by first | exact Kd.N_base ho0 | exact Kd.N_base (Kd.S_N ho0) | exact Kd.N_base (Kd.S_N (Kd.S_bound ho0))) hb); have n1_ := Aside0.mk (Kd.N_elder' (by (with_reducible repeat (first | apply Kd.N_alloc | apply Kd.N_drewN | apply Kd.N_drew)); exact HO_5.out) (by first | exact Kd.N_base ho0 | exact Kd.N_base (Kd.S_N ho0) | exact Kd.N_base (Kd.S_N (Kd.S_bound ho0))) hb); have n2_ := Aside0.mk (Kd.N_elder' (by (with_reducible repeat (first | apply Kd.N_alloc | apply Kd.N_drewN | apply Kd.N_drew)); exact HO_7.out) (by first | exact Kd.N_base ho0 | exact Kd.N_base (Kd.S_N ho0) | exact Kd.N_base (Kd.S_N (Kd.S_bound ho0))) hb); have n3_ := Aside0.mk (Kd.R_below (by (with_reducible repeat (first | apply Kd.R_alloc | apply Kd.R_drewN | apply Kd.R_drew)); exact HO_366002.out) hb); have n4_ := Aside0.mk (Kd.N_lower (Kd.N_mono (ok' := fun k_ => some k_ ≠ (.slice Ao11 t357.length co11 : Value).ownBlock ∧ some k_ ≠ (.slice Ao34 t366.length co34 : Value).ownBlock ∧ some k_ ≠ (v371 : Value).ownBlock ∧ some k_ ≠ (.slice Ao10 t362.length co10 : Value).ownBlock ∧ k_ ≠ gb365) (Kd.S_N (Kd.S_bound ho0)) (fun k_ hk_ => ⟨(Kd.fresh' (Kd.N_lt (by (with_reducible repeat (first | apply Kd.N_alloc | apply Kd.N_drewN | apply Kd.N_drew)); exact HO_3.out)) k_ hk_.2.1), (Kd.fresh' (Kd.N_lt (by (with_reducible repeat (first | apply Kd.N_alloc | apply Kd.N_drewN | apply Kd.N_drew)); exact HO_5.out)) k_ hk_.2.1), (Kd.fresh' (Kd.N_lt (by (with_reducible repeat (first | apply Kd.N_alloc | apply Kd.N_drewN | apply Kd.N_drew)); exact HO_7.out)) k_ hk_.2.1), (Kd.fresh' (Kd.R_lt (by (with_reducible repeat (first | apply Kd.R_alloc | apply Kd.R_drewN | apply Kd.R_drew)); exact HO_366002.out)) k_ hk_.2.1), (Kd.freshB (g := gb365) (o := .cells #[.string t360, .int .i64 t361, .slice Ao10 t362.length co10] 26 (0, 0)) (by (with_reducible repeat (first | refine blk_drewN ?_ _ | refine blk_drew ?_ | refine blk_alloc ?_ _)); exact BK365.out) k_ hk_.2.1)⟩)) (below_size (by repeat (first | (with_reducible first | exact HB.out | apply below_alloc | apply pw_below_drewN | apply below_drew1 | refine below_set ?_ GE365.out) | exact HB.out)))); have n5_ := Aside0.mk (blk_below (g := gb365) (o := .cells #[.string t360, .int .i64 t361, .slice Ao10 t362.length co10] 26 (0, 0)) (by (with_reducible repeat (first | refine blk_drewN ?_ _ | refine blk_drew ?_ | refine blk_alloc ?_ _)); exact BK365.out) hb); have n6_ := Aside0.mk (below_step (by repeat (first | (with_reducible first | exact HB.out | apply below_alloc | apply pw_below_drewN | apply below_drew1 | refine below_set ?_ GE365.out) | exact HB.out)) hb); clear HO_3; clear HO_5; clear HO_7; clear HO_366002; clear BK365; clear HB; have HO_3 := n0_; have HO_5 := n1_; have HO_7 := n2_; have HO_366002 := n3_; have HO379 := n4_; have BK365 := n5_; have HB := n6_; clear n0_ n1_ n2_ n3_ n4_ n5_ n6_; (try clear hb); (try clear hb2); (try clear hk); (try clear hi); (try clear ho0); have hcz36_0 : w35.cell? ⟨gb365, 0, none⟩ = some (.string t360) := (blk_cell BK365.out 0).trans rfl; have hcz36_1 : w35.cell? ⟨gb365, 1, none⟩ = some (.int .i64 t361) := (blk_cell BK365.out 1).trans rfl; have hcz36_2 : w35.cell? ⟨gb365, 2, none⟩ = some (.slice Ao10 t362.length co10) := (blk_cell BK365.out 2).trans rfl; have hfz36_0 := blk_frozen BK365.out 0; have hfz36_1 := blk_frozen BK365.out 1; have hfz36_2 := blk_frozen BK365.out 2) | ((with_reducible refine gate_callee (f := 5) rfl ?_); refine goesL_ (some 69) rfl rfl Tryd.func5 (by kernel_rfl) rfl #[.slice Ao34 t366.length co34, .agg #[.string t360, .int .i64 t361, .slice Ao10 t362.length co10]] rfl (by (try simp only [List.map_toArray, List.map_cons, List.map_nil]); first | done | rfl | (simp only [List.length_drop, List.length_take]; rfl)) ?_; (with_reducible refine (impl_TonaryAdd.calls _ _ t366 t360 t361 _ _ t362 t380 t383 _ ?side1 ?side2 ?side3 ?side4 A31.out (ht := HT.out.below (by repeat (first | (with_reducible first | exact HB.out | apply below_alloc | apply pw_below_drewN | apply below_drew1 | refine below_set ?_ GE365.out) | exact HB.out)))).mono ?_); (case side1 => repeat (first | exact (Kd.N_reads' HO_5.out).2.2 | (with_reducible refine Kd.C_alloc ?_ _) | (with_reducible refine Kd.C_drewN ?_ _) | (with_reducible refine Kd.C_drew ?_))); (case side2 => exact (Kd.N_reads' HO_5.out).2.1); (case side3 => repeat (first | exact (Kd.R_reads' HO_366002.out).2.2 | (with_reducible refine Kd.C_alloc ?_ _) | (with_reducible refine Kd.C_drewN ?_ _) | (with_reducible refine Kd.C_drew ?_))); (case side4 => exact (Kd.R_reads' HO_366002.out).2.1); rintro e w37 ⟨v381, rfl, ho0, hb⟩; refine ⟨_, rfl, ?_⟩; have n0_ := Aside0.mk (Kd.N_elder' (by (with_reducible repeat (first | apply Kd.N_alloc | apply Kd.N_drewN | apply Kd.N_drew)); exact HO_3.out) (by first | exact Kd.N_base ho0 | exact Kd.N_base (Kd.S_N ho0) | exact Kd.N_base (Kd.S_N (Kd.S_bound ho0))) hb); have n1_ := Aside0.mk (Kd.N_elder' (by (with_reducible repeat (first | apply Kd.N_alloc | apply Kd.N_drewN | apply Kd.N_drew)); exact HO_5.out) (by first | exact Kd.N_base ho0 | exact Kd.N_base (Kd.S_N ho0) | exact Kd.N_base (Kd.S_N (Kd.S_bound ho0))) hb); have n2_ := Aside0.mk (Kd.N_elder' (by (with_reducible repeat (first | apply Kd.N_alloc | apply Kd.N_drewN | apply Kd.N_drew)); exact HO_7.out) (by first | exact Kd.N_base ho0 | exact Kd.N_base (Kd.S_N ho0) | exact Kd.N_base (Kd.S_N (Kd.S_bound ho0))) hb); have n3_ := Aside0.mk (Kd.R_below (by (with_reducible repeat (first | apply Kd.R_alloc | apply Kd.R_drewN | apply Kd.R_drew)); exact HO_366002.out) hb); have n4_ := Aside0.mk (Kd.N_elder' (by (with_reducible repeat (first | apply Kd.N_alloc | apply Kd.N_drewN | apply Kd.N_drew)); exact HO379.out) (by first | exact Kd.N_base ho0 | exact Kd.N_base (Kd.S_N ho0) | exact Kd.N_base (Kd.S_N (Kd.S_bound ho0))) hb); have n5_ := Aside0.mk (Kd.N_lower (Kd.N_mono (ok' := fun k_ => some k_ ≠ (.slice Ao11 t357.length co11 : Value).ownBlock ∧ some k_ ≠ (.slice Ao34 t366.length co34 : Value).ownBlock ∧ some k_ ≠ (v371 : Value).ownBlock ∧ some k_ ≠ (.slice Ao10 t362.length co10 : Value).ownBlock ∧ some k_ ≠ (v378 : Value).ownBlock ∧ k_ ≠ gb365) (Kd.S_N (Kd.S_bound ho0)) (fun k_ hk_ => ⟨(Kd.fresh' (Kd.N_lt (by (with_reducible repeat (first | apply Kd.N_alloc | apply Kd.N_drewN | apply Kd.N_drew)); exact HO_3.out)) k_ hk_.2.1), (Kd.fresh' (Kd.N_lt (by (with_reducible repeat (first | apply Kd.N_alloc | apply Kd.N_drewN | apply Kd.N_drew)); exact HO_5.out)) k_ hk_.2.1), (Kd.fresh' (Kd.N_lt (by (with_reducible repeat (first | apply Kd.N_alloc | apply Kd.N_drewN | apply Kd.N_drew)); exact HO_7.out)) k_ hk_.2.1), (Kd.fresh' (Kd.R_lt (by (with_reducible repeat (first | apply Kd.R_alloc | apply Kd.R_drewN | apply Kd.R_drew)); exact HO_366002.out)) k_ hk_.2.1), (Kd.fresh' (Kd.N_lt (by (with_reducible repeat (first | apply Kd.N_alloc | apply Kd.N_drewN | apply Kd.N_drew)); exact HO379.out)) k_ hk_.2.1), (Kd.freshB (g := gb365) (o := .cells #[.string t360, .int .i64 t361, .slice Ao10 t362.length co10] 26 (0, 0)) (by (with_reducible repeat (first | refine blk_drewN ?_ _ | refine blk_drew ?_ | refine blk_alloc ?_ _)); exact BK365.out) k_ hk_.2.1)⟩)) (below_size (by repeat (first | (with_reducible first | exact HB.out | apply below_alloc | apply pw_below_drewN | apply below_drew1 | refine below_set ?_ GE365.out) | exact HB.out)))); have n6_ := Aside0.mk (blk_below (g := gb365) (o := .cells #[.string t360, .int .i64 t361, .slice Ao10 t362.length co10] 26 (0, 0)) (by (with_reducible repeat (first | refine blk_drewN ?_ _ | refine blk_drew ?_ | refine blk_alloc ?_ _)); exact BK365.out) hb); have n7_ := Aside0.mk (below_step (by repeat (first | (with_reducible first | exact HB.out | apply below_alloc | apply pw_below_drewN | apply below_drew1 | refine below_set ?_ GE365.out) | exact HB.out)) hb); clear HO_3; clear HO_5; clear HO_7; clear HO_366002; clear HO379; clear BK365; clear HB; have HO_3 := n0_; have HO_5 := n1_; have HO_7 := n2_; have HO_366002 := n3_; have HO379 := n4_; have HO382 := n5_; have BK365 := n6_; have HB := n7_; clear n0_ n1_ n2_ n3_ n4_ n5_ n6_ n7_; (try clear hb); (try clear hb2); (try clear hk); (try clear hi); (try clear ho0); have hcz38_0 : w37.cell? ⟨gb365, 0, none⟩ = some (.string t360) := (blk_cell BK365.out 0).trans rfl; have hcz38_1 : w37.cell? ⟨gb365, 1, none⟩ = some (.int .i64 t361) := (blk_cell BK365.out 1).trans rfl; have hcz38_2 : w37.cell? ⟨gb365, 2, none⟩ = some (.slice Ao10 t362.length co10) := (blk_cell BK365.out 2).trans rfl; have hfz38_0 := blk_frozen BK365.out 0; have hfz38_1 := blk_frozen BK365.out 1; have hfz38_2 := blk_frozen BK365.out 2) | ((with_reducible refine gate_callee (f := 9) rfl ?_); refine goesL_ (some 75) rfl rfl Tryd.func9 (by kernel_rfl) rfl #[.slice Ao34 t366.length co34, .slice Ao10 t362.length co10] rfl (by (try simp only [List.map_toArray, List.map_cons, List.map_nil]); first | done | rfl | (simp only [List.length_drop, List.length_take]; rfl)) ?_; (with_reducible refine (impl_TonaryFind.calls kj5 _ _ t366 _ _ t362 t384 _ ?side1 ?side2 ?side3 ?side4 A32.out (ht := HT.out.below (by repeat (first | (with_reducible first | exact HB.out | apply below_alloc | apply pw_below_drewN | apply below_drew1 | refine below_set ?_ GE365.out) | exact HB.out)))).mono ?_); (case side1 => repeat (first | exact (Kd.N_reads' HO_5.out).2.2 | (with_reducible refine Kd.C_alloc ?_ _) | (with_reducible refine Kd.C_drewN ?_ _) | (with_reducible refine Kd.C_drew ?_))); (case side2 => exact (Kd.N_reads' HO_5.out).2.1); (case side3 => repeat (first | exact (Kd.R_reads' HO_366002.out).2.2 | (with_reducible refine Kd.C_alloc ?_ _) | (with_reducible refine Kd.C_drewN ?_ _) | (with_reducible refine Kd.C_drew ?_))); (case side4 => exact (Kd.R_reads' HO_366002.out).2.1); rintro e w39 ⟨v385, rfl, ho0, hb⟩; refine ⟨_, rfl, ?_⟩; have n0_ := Aside0.mk (Kd.N_elder' (by (with_reducible repeat (first | apply Kd.N_alloc | apply Kd.N_drewN | apply Kd.N_drew)); exact HO_3.out) (Kd.R_base ho0) hb); have n1_ := Aside0.mk (Kd.N_elder' (by (with_reducible repeat (first | apply Kd.N_alloc | apply Kd.N_drewN | apply Kd.N_drew)); exact HO_5.out) (Kd.R_base ho0) hb); have n2_ := Aside0.mk (Kd.N_elder' (by (with_reducible repeat (first | apply Kd.N_alloc | apply Kd.N_drewN | apply Kd.N_drew)); exact HO_7.out) (Kd.R_base ho0) hb); have n3_ := Aside0.mk (Kd.R_below (by (with_reducible repeat (first | apply Kd.R_alloc | apply Kd.R_drewN | apply Kd.R_drew)); exact HO_366002.out) hb); have n4_ := Aside0.mk (Kd.N_elder' (by (with_reducible repeat (first | apply Kd.N_alloc | apply Kd.N_drewN | apply Kd.N_drew)); exact HO379.out) (Kd.R_base ho0) hb); have n5_ := Aside0.mk (Kd.N_elder' (by (with_reducible repeat (first | apply Kd.N_alloc | apply Kd.N_drewN | apply Kd.N_drew)); exact HO382.out) (Kd.R_base ho0) hb); have n6_ := Aside0.mk (Kd.R_lower ho0 (below_size (by repeat (first | (with_reducible first | exact HB.out | apply below_alloc | apply pw_below_drewN | apply below_drew1 | refine below_set ?_ GE365.out) | exact HB.out)))); have n7_ := Aside0.mk (blk_below (g := gb365) (o := .cells #[.string t360, .int .i64 t361, .slice Ao10 t362.length co10] 26 (0, 0)) (by (with_reducible repeat (first | refine blk_drewN ?_ _ | refine blk_drew ?_ | refine blk_alloc ?_ _)); exact BK365.out) hb); have n8_ := Aside0.mk (below_step (by repeat (first | (with_reducible first | exact HB.out | apply below_alloc | apply pw_below_drewN | apply below_drew1 | refine below_set ?_ GE365.out) | exact HB.out)) hb); clear HO_3; clear HO_5; clear HO_7; clear HO_366002; clear HO379; clear HO382; clear BK365; clear HB; have HO_3 := n0_; have HO_5 := n1_; have HO_7 := n2_; have HO_366002 := n3_; have HO379 := n4_; have HO382 := n5_; have HO386 := n6_; have BK365 := n7_; have HB := n8_; clear n0_ n1_ n2_ n3_ n4_ n5_ n6_ n7_ n8_; (try clear hb); (try clear hb2); (try clear hk); (try clear hi); (try clear ho0)))
     go_loopg [14, 15] kj5 (fun kq v14 v15 w' => ∃ (x14_2 : Bool) (x15_2 : Int), v14 = .bool x14_2 ∧ v15 = .int .i64 x15_2 ∧ Aside0 (laws_FnTonaryAdd.l0 kq t357 t366 t376 t377 t383 t384 x14_2 x15_2 t360 t361 t362 = some r) ∧ Aside0 (kq ≤ kj5) ∧ Aside0 (Kd.N k26 26 w' w.heap.size (fun k_ => some k_ ≠ ((.slice Ao34 t366.length co34) : Value).ownBlock ∧ some k_ ≠ (v378 : Value).ownBlock ∧ some k_ ≠ (v385 : Value).ownBlock ∧ some k_ ≠ ((.slice Ao10 t362.length co10) : Value).ownBlock ∧ k_ ≠ gb365) (.slice Ao11 t357.length co11) t357) ∧ Aside0 (Kd.N k26 26 w' w.heap.size (fun k_ => some k_ ≠ ((.slice Ao11 t357.length co11) : Value).ownBlock ∧ some k_ ≠ (v378 : Value).ownBlock ∧ some k_ ≠ (v385 : Value).ownBlock ∧ some k_ ≠ ((.slice Ao10 t362.length co10) : Value).ownBlock ∧ k_ ≠ gb365) (.slice Ao34 t366.length co34) t366) ∧ Aside0 (Kd.N k26 26 w' w.heap.size (fun k_ => some k_ ≠ ((.slice Ao11 t357.length co11) : Value).ownBlock ∧ some k_ ≠ ((.slice Ao34 t366.length co34) : Value).ownBlock ∧ some k_ ≠ (v385 : Value).ownBlock ∧ some k_ ≠ ((.slice Ao10 t362.length co10) : Value).ownBlock ∧ k_ ≠ gb365) v378 t376) ∧ Aside0 (Kd.R (Kd.int .i64) 3 w' w.heap.size (fun _ => True) v385 t384) ∧ Aside0 (Kd.R k74 74 w' w.heap.size (fun _ => True) (.slice Ao10 t362.length co10) t362) ∧ Aside0 (w'.heap[gb365]? = some (.cells #[.string t360, .int .i64 t361, (.slice Ao10 t362.length co10)] 26 (0, 0))) ∧ Aside0 (Below w.heap.size w w'))
     case atStart => exact ⟨(false), (0), (by first | rfl | (simp; done) | (simp [*]; done)), (by first | rfl | (simp; done) | (simp [*]; done)), H', ⟨Nat.le_refl _⟩, ⟨by (with_reducible repeat (first | apply Kd.N_alloc | apply Kd.N_drewN | apply Kd.N_drew)); exact Kd.N_mono HO_3.out (fun _ hk => ⟨hk.1.1.1.1, ⟨hk.1.1.2, ⟨hk.2, ⟨hk.1.1.1.2.2.1, hk.1.1.1.2.2.2⟩⟩⟩⟩)⟩, ⟨by (with_reducible repeat (first | apply Kd.N_alloc | apply Kd.N_drewN | apply Kd.N_drew)); exact Kd.N_mono HO_5.out (fun _ hk => ⟨hk.1.1.1.1, ⟨hk.1.1.2, ⟨hk.2, ⟨hk.1.1.1.2.2.1, hk.1.1.1.2.2.2⟩⟩⟩⟩)⟩, ⟨by (with_reducible repeat (first | apply Kd.N_alloc | apply Kd.N_drewN | apply Kd.N_drew)); exact Kd.N_mono HO379.out (fun _ hk => ⟨hk.1.1.1, ⟨hk.1.1.2.1, ⟨hk.2, ⟨hk.1.1.2.2.2.1, hk.1.1.2.2.2.2⟩⟩⟩⟩)⟩, ⟨by (with_reducible repeat (first | apply Kd.R_alloc | apply Kd.R_drewN | apply Kd.R_drew)); exact HO386.out⟩, ⟨by (with_reducible repeat (first | apply Kd.R_alloc | apply Kd.R_drewN | apply Kd.R_drew)); exact HO_366002.out⟩, ⟨by (with_reducible repeat (first | refine blk_drewN ?_ _ | refine blk_drew ?_ | refine blk_alloc ?_ _)); exact BK365.out⟩, ⟨by repeat (first | (with_reducible first | exact HB.out | apply below_alloc | apply pw_below_drewN | apply below_drew1 | refine below_set ?_ GE365.out) | exact HB.out)⟩⟩
     case round =>
      clear H'; try clear c1
      try clear c2
      try clear c2b0
      try clear c2b1
      try clear p2
      try clear c3
      try clear c4
      try clear c5
      try clear c6
      try clear c8
      try clear c9
      try clear c15
      try clear c15b0
      try clear c15b1
      try clear c15b2
      try clear c17
      try clear c24
      try clear c25
      try clear c25b0
      try clear c25b1
      try clear c25b2
      try clear hcz13_0
      try clear hcz13_1
      try clear hcz13_2
      try clear hcz33_0
      try clear hcz33_1
      try clear hcz33_2
      try clear hcz36_0
      try clear hcz36_1
      try clear hcz36_2
      try clear hcz38_0
      try clear hcz38_1
      try clear hcz38_2
      try clear hcz9_0
      try clear hcz9_1
      try clear hcz9_2
      try clear hfz13_0
      try clear hfz13_1
      try clear hfz13_2
      try clear hfz33_0
      try clear hfz33_1
      try clear hfz33_2
      try clear hfz36_0
      try clear hfz36_1
      try clear hfz36_2
      try clear hfz38_0
      try clear hfz38_1
      try clear hfz38_2
      try clear hfz9_0
      try clear hfz9_1
      try clear hfz9_2
      try clear p2
      obtain ⟨x14_2, x15_2, rfl, rfl, HA, HK2, HO_3, HO_5, HO_9, HO_13, HO_366002, BK365, HB⟩ := hrel; cases gk with
      | zero => exact absurd HA.out (by simp [laws_FnTonaryAdd.l0])
      | succ k2 =>
       have H := HA.out; clear HA; simp only [laws_FnTonaryAdd.l0] at H; by_cases c40 : x15_2 < (t384.length : Int)
       ·
        rw [if_pos c40] at H; have c40b0 : decide (x15_2 < (t384.length : Int)) = true := decide_eq_true c40; clear c40; by_cases c41 : x14_2 = true
        ·
         subst c41; have H1 : (laws_FnTonaryAdd.l0 k2 t357 t366 t376 t377 t383 t384 true (wrap64 (x15_2 + 1)) t360 t361 t362) = some r := by rw [if_pos rfl] at H; exact H
         clear H; have H := H1; clear H1; have H' := Aside0.mk H; clear H; obtain ⟨Ao42, co42, eo42⟩ := Kd.R_slice HO_13.out; subst eo42; try go_wp2
         have n0_ := Aside0.mk (Kd.N_drew HO_3.out); have n1_ := Aside0.mk (Kd.N_drew HO_5.out); have n2_ := Aside0.mk (Kd.N_drew HO_9.out); have n3_ := Aside0.mk (Kd.R_drew HO_13.out); have n4_ := Aside0.mk (Kd.R_drew HO_366002.out); have n5_ := Aside0.mk (blk_drew BK365.out); have n6_ := Aside0.mk (below_drew1 HB.out); clear HO_3; clear HO_5; clear HO_9; clear HO_13; clear HO_366002; clear BK365; clear HB; have HO_3 := n0_; have HO_5 := n1_; have HO_9 := n2_; have HO_13 := n3_; have HO_366002 := n4_; have BK365 := n5_; have HB := n6_; clear n0_ n1_ n2_ n3_ n4_ n5_ n6_; refine start_ (n := 13) (S := fun w' => True) (ds := []) (rowB 13 0) (by kernel_rfl) rfl rfl trivial (fun hHeld => ?_); refine with_tabW laws_FnTonaryAdd.tab15 laws_FnTonaryAdd.bits15 (fun HT_ HW_ => ?_); generalize wr.drew = w43 at HO_3 HO_5 HO_9 HO_13 HO_366002 BK365 HB hHeld ⊢; refine pure_ (i := 0) (N := some 82) (v := ?_) (a' := ?_) (rowB 13 1) rfl rfl (any_of HT_.out (by kernel_rfl)) (fun _ _ _ h => h) (Or.inl ⟨by rfl, ?_⟩) ?_ ?_; rotate_left; (· intro w'; go_simp; with_reducible rfl); rotate_left; (· simp only [Act.put, List.setIfInBounds_toArray, List.set_cons_zero, List.set_cons_succ, i64_w, i32_w]; rfl); refine pure_ (i := 1) (N := some 83) (v := ?_) (a' := ?_) (rowB 13 3) rfl rfl (any_of HT_.out (by kernel_rfl)) (fun _ _ _ h => h) (Or.inl ⟨by rfl, ?_⟩) ?_ ?_; rotate_left; (· intro w'; go_simp; with_reducible rfl); rotate_left; (· simp only [Act.put, List.setIfInBounds_toArray, List.set_cons_zero, List.set_cons_succ, i64_w, i32_w]; rfl); refine pure_ (i := 2) (N := some 84) (v := undef) (a' := ?_) (rowB 13 7) rfl rfl (any_of HT_.out (by kernel_rfl)) (fun _ _ _ h => h) (Or.inr ⟨by rfl, rfl⟩) ?_ ?_; rotate_left; (· simp only [Act.put, List.setIfInBounds_toArray, List.set_cons_zero, List.set_cons_succ, i64_w, i32_w]; rfl); refine pure_ (i := 3) (N := some 85) (v := undef) (a' := ?_) (rowB 13 15) rfl rfl (any_of HT_.out (by kernel_rfl)) (fun _ _ _ h => h) (Or.inr ⟨by rfl, rfl⟩) ?_ ?_; rotate_left; (· simp only [Act.put, List.setIfInBounds_toArray, List.set_cons_zero, List.set_cons_succ, i64_w, i32_w]; rfl); refine pure_ (i := 4) (N := some 86) (v := undef) (a' := ?_) (rowB 13 31) rfl rfl (any_of HT_.out (by kernel_rfl)) (fun _ _ _ h => h) (Or.inr ⟨by rfl, rfl⟩) ?_ ?_; rotate_left; (· simp only [Act.put, List.setIfInBounds_toArray, List.set_cons_zero, List.set_cons_succ, i64_w, i32_w]; rfl); refine pure_ (i := 5) (N := some 87) (v := undef) (a' := ?_) (rowB 13 63) rfl rfl (any_of HT_.out (by kernel_rfl)) (fun _ _ _ h => h) (Or.inr ⟨by rfl, rfl⟩) ?_ ?_; rotate_left; (· simp only [Act.put, List.setIfInBounds_toArray, List.set_cons_zero, List.set_cons_succ, i64_w, i32_w]; rfl); refine pure_ (i := 6) (N := some 88) (v := undef) (a' := ?_) (rowB 13 127) rfl rfl (any_of HT_.out (by kernel_rfl)) (fun _ _ _ h => h) (Or.inr ⟨by rfl, rfl⟩) ?_ ?_; rotate_left; (· simp only [Act.put, List.setIfInBounds_toArray, List.set_cons_zero, List.set_cons_succ, i64_w, i32_w]; rfl); refine pure_ (i := 7) (N := some 89) (v := undef) (a' := ?_) (rowB 13 255) rfl rfl (any_of HT_.out (by kernel_rfl)) (fun _ _ _ h => h) (Or.inr ⟨by rfl, rfl⟩) ?_ ?_; rotate_left; (· simp only [Act.put, List.setIfInBounds_toArray, List.set_cons_zero, List.set_cons_succ, i64_w, i32_w]; rfl); refine pure_ (i := 8) (N := some 90) (v := undef) (a' := ?_) (rowB 13 511) rfl rfl (any_of HT_.out (by kernel_rfl)) (fun _ _ _ h => h) (Or.inr ⟨by rfl, rfl⟩) ?_ ?_; rotate_left; (· simp only [Act.put, List.setIfInBounds_toArray, List.set_cons_zero, List.set_cons_succ, i64_w, i32_w]; rfl); refine pure_ (i := 9) (N := some 91) (v := undef) (a' := ?_) (rowB 13 1023) rfl rfl (any_of HT_.out (by kernel_rfl)) (fun _ _ _ h => h) (Or.inr ⟨by rfl, rfl⟩) ?_ ?_; rotate_left; (· simp only [Act.put, List.setIfInBounds_toArray, List.set_cons_zero, List.set_cons_succ, i64_w, i32_w]; rfl); refine pure_ (i := 10) (N := some 92) (v := undef) (a' := ?_) (rowB 13 2047) rfl rfl (any_of HT_.out (by kernel_rfl)) (fun _ _ _ h => h) (Or.inr ⟨by rfl, rfl⟩) ?_ ?_; rotate_left; (· simp only [Act.put, List.setIfInBounds_toArray, List.set_cons_zero, List.set_cons_succ, i64_w, i32_w]; rfl); refine pure_ (i := 11) (N := some 93) (v := ?_) (a' := ?_) (rowB 13 4095) rfl rfl (any_of HT_.out (by kernel_rfl)) (fun _ _ _ h => h) (Or.inl ⟨by rfl, ?_⟩) ?_ ?_; rotate_left; (· intro w'; go_simp; with_reducible rfl); rotate_left; (· simp only [Act.put, List.setIfInBounds_toArray, List.set_cons_zero, List.set_cons_succ, i64_w, i32_w]; rfl); refine pure_ (i := 12) (N := some 14) (v := ?_) (a' := ?_) (rowB 13 8191) rfl rfl (any_of HT_.out (by kernel_rfl)) (fun _ _ _ h => h) (Or.inl ⟨by rfl, ?_⟩) ?_ ?_; rotate_left; (· intro w'; go_simp; with_reducible rfl); rotate_left; (· simp only [Act.put, List.setIfInBounds_toArray, List.set_cons_zero, List.set_cons_succ, i64_w, i32_w]; rfl); refine done_ (done_of HT_.out (by kernel_rfl)) ?_; try go_wp2
         go_roundg k2
         case measure => have := HJ5.out; have := HK2.out; omega
         case rel => exact ⟨(true), (wrap64 (x15_2 + 1)), (by first | rfl | (simp; done) | (simp [*]; done)), (by first | rfl | (simp; done) | (simp [*]; done)), H', ⟨by have := HJ5.out; have := HK2.out; omega⟩, ⟨by (with_reducible repeat (first | apply Kd.N_alloc | apply Kd.N_drewN | apply Kd.N_drew)); exact HO_3.out⟩, ⟨by (with_reducible repeat (first | apply Kd.N_alloc | apply Kd.N_drewN | apply Kd.N_drew)); exact HO_5.out⟩, ⟨by (with_reducible repeat (first | apply Kd.N_alloc | apply Kd.N_drewN | apply Kd.N_drew)); exact HO_9.out⟩, ⟨by (with_reducible repeat (first | apply Kd.R_alloc | apply Kd.R_drewN | apply Kd.R_drew)); exact HO_13.out⟩, ⟨by (with_reducible repeat (first | apply Kd.R_alloc | apply Kd.R_drewN | apply Kd.R_drew)); exact HO_366002.out⟩, ⟨by (with_reducible repeat (first | refine blk_drewN ?_ _ | refine blk_drew ?_ | refine blk_alloc ?_ _)); exact BK365.out⟩, ⟨by repeat (first | (with_reducible first | exact HB.out | apply below_alloc | apply pw_below_drewN | apply below_drew1 | refine below_set ?_ GE365.out) | exact HB.out)⟩⟩
        ·
         replace c41 := Bool.eq_false_iff.mpr c41; subst c41; have H1 : (if 0 ≤ x15_2 then (if 0 ≤ (rd t384 x15_2) then (if (rd t384 x15_2) < (t366.length : Int) then ((laws_sameEntry.f k2 ((rd_T26 t366 (rd t384 x15_2)).f0) ((rd_T26 t366 (rd t384 x15_2)).f1) ((rd_T26 t366 (rd t384 x15_2)).f2) t360 t361 t362).bind fun t389 => (laws_FnTonaryAdd.l0 k2 t357 t366 t376 t377 t383 t384 t389 (wrap64 (x15_2 + 1)) t360 t361 t362)) else (none)) else (none)) else (none)) = some r := by rw [if_neg (show ¬ (false = true) by decide)] at H; exact H
         clear H; have H := H1; clear H1; by_cases c44 : 0 ≤ x15_2
         ·
          rw [if_pos c44] at H; have c44b0 : decide (0 ≤ x15_2) = true := decide_eq_true c44; clear c44; by_cases c45 : 0 ≤ (rd t384 x15_2)
          ·
           rw [if_pos c45] at H; have c45b0 : decide (0 ≤ (rd t384 x15_2)) = true := decide_eq_true c45; clear c45; by_cases c46 : (rd t384 x15_2) < (t366.length : Int)
           ·
            rw [if_pos c46] at H; have c46b0 : decide ((rd t384 x15_2) < (t366.length : Int)) = true := decide_eq_true c46; clear c46; replace H := Option.bind_eq_some_iff.mp H; obtain ⟨t389, A470, H⟩ := H; replace H : (laws_FnTonaryAdd.l0 k2 t357 t366 t376 t377 t383 t384 t389 (wrap64 (x15_2 + 1)) t360 t361 t362) = some r := H; have A47 := Aside0.mk A470; clear A470; have H' := Aside0.mk H; clear H; obtain ⟨Ao48, co48, eo48⟩ := Kd.R_slice HO_13.out; subst eo48; try go_wp2
            have n0_ := Aside0.mk (Kd.N_drew HO_3.out); have n1_ := Aside0.mk (Kd.N_drew HO_5.out); have n2_ := Aside0.mk (Kd.N_drew HO_9.out); have n3_ := Aside0.mk (Kd.R_drew HO_13.out); have n4_ := Aside0.mk (Kd.R_drew HO_366002.out); have n5_ := Aside0.mk (blk_drew BK365.out); have n6_ := Aside0.mk (below_drew1 HB.out); clear HO_3; clear HO_5; clear HO_9; clear HO_13; clear HO_366002; clear BK365; clear HB; have HO_3 := n0_; have HO_5 := n1_; have HO_9 := n2_; have HO_13 := n3_; have HO_366002 := n4_; have BK365 := n5_; have HB := n6_; clear n0_ n1_ n2_ n3_ n4_ n5_ n6_; have p387 : 0 ≤ (x15_2 : Int) := of_decide_eq_true (by first | (with_reducible assumption) | assumption); have q387 : x15_2 < (t384.length : Int) := of_decide_eq_true (by first | (with_reducible assumption) | assumption); obtain ⟨ad387, e387, hx387_0⟩ := Kd.at_int (Kd.R_reads' HO_13.out).2.2 x15_2 p387 q387; cases e387; replace p387 := eq_true p387; replace q387 := eq_true q387; have p388 : 0 ≤ ((rd t384 x15_2) : Int) := of_decide_eq_true (by first | (with_reducible assumption) | assumption); have q388 : (rd t384 x15_2) < (t366.length : Int) := of_decide_eq_true (by first | (with_reducible assumption) | assumption); obtain ⟨ad388, A388_2, c388_2, e388, hx388_0, hx388_1, hx388_2, hl388_2, hi388_2⟩ := at_T26 (Kd.N_reads' HO_5.out).2.2 (rd t384 x15_2) p388 q388; cases e388; obtain ⟨ce388, hce388, hMe388, hcc388⟩ := Kd.N_get HO_5.out z26 (rd t384 x15_2) p388 (by first | exact q388 | exact of_decide_eq_true (by first | (with_reducible assumption) | assumption) | (have e_ := (Kd.N_reads' HO_5.out).1; omega)); obtain ⟨ua388_2, uc388_2, rfl, ul388_2, ge388_2⟩ := k26_openF hMe388; have hv388_2 := hcc388 2 _ rfl; rw [add_field _ _ 2 (by omega)] at hv388_2; replace hv388_2 := Option.some.inj (hv388_2.symm.trans hx388_2); injection hv388_2 with hva_ hvn_ hvc_
            rw [hva_] at ge388_2; rw [hvc_] at ul388_2; have HL388_2 := Aside0.mk (show Kd.V k74 74 _ w.heap.size _ _ ((rd_T26 t366 (rd t384 x15_2)).f2) from Kd.V_mk ul388_2 ge388_2); clear hva_ hvn_ hvc_ ge388_2 ul388_2; clear hcc388 hce388; have HR388_2 := Aside0.mk hi388_2; have HC388_2 := Aside0.mk hl388_2; clear hi388_2 hl388_2; replace p388 := eq_true p388; replace q388 := eq_true q388; refine start_ (n := 13) (S := fun w' => w'.cell? ⟨gb365, 0, none⟩ = some (.string t360) ∧ w'.cell? ⟨gb365, 1, none⟩ = some (.int .i64 t361) ∧ w'.cell? ⟨gb365, 2, none⟩ = some (.slice Ao10 t362.length co10) ∧ w'.cell? (ad387.add (x15_2).toNat) = some (.int .i64 (rd t384 x15_2)) ∧ w'.cell? (ad388.add (((rd t384 x15_2)).toNat * 3)) = some (.string ((rd_T26 t366 (rd t384 x15_2)).f0)) ∧ w'.cell? ⟨(ad388.add (((rd t384 x15_2)).toNat * 3)).block, (ad388.add (((rd t384 x15_2)).toNat * 3)).off + 1, none⟩ = some (.int .i64 ((rd_T26 t366 (rd t384 x15_2)).f1)) ∧ w'.cell? ⟨(ad388.add (((rd t384 x15_2)).toNat * 3)).block, (ad388.add (((rd t384 x15_2)).toNat * 3)).off + 2, none⟩ = some (.slice A388_2 ((rd_T26 t366 (rd t384 x15_2)).f2).length c388_2)) (ds := []) (rowB 13 0) (by kernel_rfl) rfl rfl ⟨(blk_cell BK365.out 0).trans rfl, (blk_cell BK365.out 1).trans rfl, (blk_cell BK365.out 2).trans rfl, hx387_0, hx388_0, hx388_1, hx388_2⟩ (fun hHeld => ?_); refine with_tabW laws_FnTonaryAdd.tab15 laws_FnTonaryAdd.bits15 (fun HT_ HW_ => ?_); generalize wr.drew = w49 at HO_3 HO_5 HO_9 HO_13 HO_366002 BK365 HB HL388_2 HR388_2 hx387_0 hx388_0 hx388_1 hx388_2 hHeld ⊢; refine pure_ (i := 0) (N := some 82) (v := ?_) (a' := ?_) (rowB 13 1) rfl rfl (any_of HT_.out (by kernel_rfl)) (fun _ _ _ h => h) (Or.inl ⟨by rfl, ?_⟩) ?_ ?_; rotate_left; (· intro w'; go_simp; with_reducible rfl); rotate_left; (· simp only [Act.put, List.setIfInBounds_toArray, List.set_cons_zero, List.set_cons_succ, i64_w, i32_w]; rfl); refine pure_ (i := 1) (N := some 83) (v := ?_) (a' := ?_) (rowB 13 3) rfl rfl (any_of HT_.out (by kernel_rfl)) (fun _ _ _ h => h) (Or.inl ⟨by rfl, ?_⟩) ?_ ?_; rotate_left; (· intro w'; go_simp; with_reducible rfl); rotate_left; (· simp only [Act.put, List.setIfInBounds_toArray, List.set_cons_zero, List.set_cons_succ, i64_w, i32_w]; rfl); refine pure_ (i := 2) (N := some 84) (v := ?_) (a' := ?_) (rowB 13 7) rfl rfl (any_of HT_.out (by kernel_rfl)) (fun _ _ _ h => h) (Or.inl ⟨by rfl, ?_⟩) ?_ ?_; rotate_left; (· intro w'; go_simp; with_reducible rfl); rotate_left; (· simp only [Act.put, List.setIfInBounds_toArray, List.set_cons_zero, List.set_cons_succ, i64_w, i32_w]; rfl); refine pure_ (i := 3) (N := some 85) (v := ?_) (a' := ?_) (rowB 13 15) rfl rfl (any_of HT_.out (by kernel_rfl)) (fun _ _ _ h => h) (Or.inl ⟨by rfl, ?_⟩) ?_ ?_; rotate_left; (· intro w'; go_simp; with_reducible rfl); rotate_left; (· simp only [Act.put, List.setIfInBounds_toArray, List.set_cons_zero, List.set_cons_succ, i64_w, i32_w]; rfl); refine pure_ (i := 4) (N := some 86) (v := ?_) (a' := ?_) (rowB 13 31) rfl rfl (any_of HT_.out (by kernel_rfl)) (fun _ _ _ h => h) (Or.inl ⟨by rfl, ?_⟩) ?_ ?_; rotate_left; (· intro w'; go_simp; with_reducible rfl); rotate_left; (· simp only [Act.put, List.setIfInBounds_toArray, List.set_cons_zero, List.set_cons_succ, i64_w, i32_w]; rfl); refine pure_ (i := 5) (N := some 87) (v := ?_) (a' := ?_) (rowB 13 63) rfl rfl (any_of HT_.out (by kernel_rfl)) (fun _ _ _ h => h) (Or.inl ⟨by rfl, ?_⟩) ?_ ?_; rotate_left; (· intro w'; go_simp; with_reducible rfl); rotate_left; (· simp only [Act.put, List.setIfInBounds_toArray, List.set_cons_zero, List.set_cons_succ, i64_w, i32_w]; rfl); refine take_ (i := 6) (N := some 88) (v := ?_) (a' := ?_) (rowB 13 127) rfl rfl (take_ofW HT_.out HW_.out (by kernel_rfl)) (fun _ _ _ h => h) (Or.inl ⟨by rfl, ?_⟩) hHeld ?_ ?_; rotate_left; (· rintro w' ⟨s0, s1, s2, s3, s4, s5, s6⟩; go_simp; with_reducible rfl); rotate_left; (· simp only [Act.put, List.setIfInBounds_toArray, List.set_cons_zero, List.set_cons_succ, i64_w, i32_w]; rfl); refine pure_ (i := 7) (N := some 89) (v := ?_) (a' := ?_) (rowB 13 255) rfl rfl (any_of HT_.out (by kernel_rfl)) (fun _ _ _ h => h) (Or.inl ⟨by rfl, ?_⟩) ?_ ?_; rotate_left; (· intro w'; go_simp; with_reducible rfl); rotate_left; (· simp only [Act.put, List.setIfInBounds_toArray, List.set_cons_zero, List.set_cons_succ, i64_w, i32_w]; rfl); refine take_ (i := 8) (N := some 90) (v := ?_) (a' := ?_) (rowB 13 511) rfl rfl (take_ofW HT_.out HW_.out (by kernel_rfl)) (fun _ _ _ h => h) (Or.inl ⟨by rfl, ?_⟩) hHeld ?_ ?_; rotate_left; (· rintro w' ⟨s0, s1, s2, s3, s4, s5, s6⟩; go_simp; with_reducible rfl); rotate_left; (· simp only [Act.put, List.setIfInBounds_toArray, List.set_cons_zero, List.set_cons_succ, i64_w, i32_w]; rfl); refine take_ (i := 9) (N := some 91) (v := ?_) (a' := ?_) (rowB 13 1023) rfl rfl (take_ofW HT_.out HW_.out (by kernel_rfl)) (fun _ _ _ h => h) (Or.inl ⟨by rfl, ?_⟩) hHeld ?_ ?_; rotate_left; (· rintro w' ⟨s0, s1, s2, s3, s4, s5, s6⟩; go_simp; with_reducible rfl); rotate_left; (· simp only [Act.put, List.setIfInBounds_toArray, List.set_cons_zero, List.set_cons_succ, i64_w, i32_w]; rfl); refine one_ (i := 10) (N := some 92) (rowB 13 2047) rfl rfl (one_of HT_.out (by kernel_rfl)) (by decide) (fun K hK => ?_); refine goes_ Tryd.func10 (by kernel_rfl) rfl #[.agg #[.string ((rd_T26 t366 (rd t384 x15_2)).f0), .int .i64 ((rd_T26 t366 (rd t384 x15_2)).f1), .slice A388_2 ((rd_T26 t366 (rd t384 x15_2)).f2).length c388_2], .agg #[.string t360, .int .i64 t361, .slice Ao10 t362.length co10]] (by rfl) rfl rfl (by (try simp only [List.map_toArray, List.map_cons, List.map_nil]); first | done | rfl | (simp only [List.length_drop, List.length_take]; rfl)) ?_; with_reducible refine (laws_sameEntry.calls k2 ((rd_T26 t366 (rd t384 x15_2)).f0) ((rd_T26 t366 (rd t384 x15_2)).f1) _ _ ((rd_T26 t366 (rd t384 x15_2)).f2) t360 t361 _ _ t362 t389 _ ?side1 ?side2 ?side3 ?side4 A47.out).mono ?_
            (case side1 => repeat (first | exact (by repeat (first | (with_reducible exact HR388_2.out) | (with_reducible refine Kd.C_alloc ?_ _) | (with_reducible refine Kd.C_drewN ?_ _) | (with_reducible refine Kd.C_drew ?_) | exact HR388_2.out)) | (with_reducible refine Kd.C_alloc ?_ _) | (with_reducible refine Kd.C_drewN ?_ _) | (with_reducible refine Kd.C_drew ?_)))
            (case side2 => exact HC388_2.out)
            (case side3 => repeat (first | exact (Kd.R_reads' HO_366002.out).2.2 | (with_reducible refine Kd.C_alloc ?_ _) | (with_reducible refine Kd.C_drewN ?_ _) | (with_reducible refine Kd.C_drew ?_)))
            (case side4 => exact (Kd.R_reads' HO_366002.out).2.1)
            rintro e w50 ⟨rfl, hb⟩; have HS3_ := (hb.cell (World.block_lt_of_cell? _ _ (hHeld.2.2.2.1))).trans (hHeld.2.2.2.1); have HS4_ := (hb.cell (World.block_lt_of_cell? _ _ (hHeld.2.2.2.2.1))).trans (hHeld.2.2.2.2.1); have HS5_ := (hb.cell (World.block_lt_of_cell? _ _ (hHeld.2.2.2.2.2.1))).trans (hHeld.2.2.2.2.2.1); have HS6_ := (hb.cell (World.block_lt_of_cell? _ _ (hHeld.2.2.2.2.2.2))).trans (hHeld.2.2.2.2.2.2); refine ⟨_, rfl, ?_⟩; have n0_ := Aside0.mk (Kd.N_below (by (with_reducible repeat (first | apply Kd.N_alloc | apply Kd.N_drewN | apply Kd.N_drew)); exact HO_3.out) hb); have n1_ := Aside0.mk (Kd.N_below (by (with_reducible repeat (first | apply Kd.N_alloc | apply Kd.N_drewN | apply Kd.N_drew)); exact HO_5.out) hb); have n2_ := Aside0.mk (Kd.N_below (by (with_reducible repeat (first | apply Kd.N_alloc | apply Kd.N_drewN | apply Kd.N_drew)); exact HO_9.out) hb); have n3_ := Aside0.mk (Kd.R_below (by (with_reducible repeat (first | apply Kd.R_alloc | apply Kd.R_drewN | apply Kd.R_drew)); exact HO_13.out) hb); have n4_ := Aside0.mk (Kd.R_below (by (with_reducible repeat (first | apply Kd.R_alloc | apply Kd.R_drewN | apply Kd.R_drew)); exact HO_366002.out) hb); have n5_ := Aside0.mk (Kd.V_below (by (with_reducible repeat (first | apply Kd.V_alloc | apply Kd.V_drewN | apply Kd.V_drew)); exact HL388_2.out) hb); have n6_ := Aside0.mk (blk_below (g := gb365) (o := .cells #[.string t360, .int .i64 t361, .slice Ao10 t362.length co10] 26 (0, 0)) (by (with_reducible repeat (first | refine blk_drewN ?_ _ | refine blk_drew ?_ | refine blk_alloc ?_ _)); exact BK365.out) hb); have n7_ := Aside0.mk (Kd.C_below (by repeat (first | (with_reducible exact HR388_2.out) | (with_reducible refine Kd.C_alloc ?_ _) | (with_reducible refine Kd.C_drewN ?_ _) | (with_reducible refine Kd.C_drew ?_) | exact HR388_2.out)) hb); have n8_ := Aside0.mk (below_step (by repeat (first | (with_reducible first | exact HB.out | apply below_alloc | apply pw_below_drewN | apply below_drew1 | refine below_set ?_ GE365.out) | exact HB.out)) hb); clear HO_3; clear HO_5; clear HO_9; clear HO_13; clear HO_366002; clear HL388_2; clear BK365; clear HR388_2; clear HB; have HO_3 := n0_; have HO_5 := n1_; have HO_9 := n2_; have HO_13 := n3_; have HO_366002 := n4_; have HL388_2 := n5_; have BK365 := n6_; have HR388_2 := n7_; have HB := n8_; clear n0_ n1_ n2_ n3_ n4_ n5_ n6_ n7_ n8_; (try clear hb)
            (try clear hb2)
            (try clear hk)
            (try clear hi)
            refine hK.out _ _ ⟨(blk_cell BK365.out 0).trans rfl, (blk_cell BK365.out 1).trans rfl, (blk_cell BK365.out 2).trans rfl, HS3_, HS4_, HS5_, HS6_⟩ (fun hHeld => ?_); clear hK K; refine norm_ (a' := ?_) ?_ ?_; rotate_left; (· show Act.put _ (some 92) _ = _; simp only [Act.put, List.setIfInBounds_toArray, List.set_cons_zero, List.set_cons_succ, i64_w, i32_w]; rfl); refine pure_ (i := 11) (N := some 93) (v := ?_) (a' := ?_) (rowB 13 4095) rfl rfl (any_of HT_.out (by kernel_rfl)) (fun _ _ _ h => h) (Or.inl ⟨by rfl, ?_⟩) ?_ ?_; rotate_left; (· intro w'; go_simp; with_reducible rfl); rotate_left; (· simp only [Act.put, List.setIfInBounds_toArray, List.set_cons_zero, List.set_cons_succ, i64_w, i32_w]; rfl); refine pure_ (i := 12) (N := some 14) (v := ?_) (a' := ?_) (rowB 13 8191) rfl rfl (any_of HT_.out (by kernel_rfl)) (fun _ _ _ h => h) (Or.inl ⟨by rfl, ?_⟩) ?_ ?_; rotate_left; (· intro w'; go_simp; with_reducible rfl); rotate_left; (· simp only [Act.put, List.setIfInBounds_toArray, List.set_cons_zero, List.set_cons_succ, i64_w, i32_w]; rfl); refine done_ (done_of HT_.out (by kernel_rfl)) ?_; try go_wp2
            go_roundg k2
            case measure => have := HJ5.out; have := HK2.out; omega
            case rel => exact ⟨(t389), (wrap64 (x15_2 + 1)), (by first | rfl | (simp; done) | (simp [*]; done)), (by first | rfl | (simp; done) | (simp [*]; done)), H', ⟨by have := HJ5.out; have := HK2.out; omega⟩, ⟨by (with_reducible repeat (first | apply Kd.N_alloc | apply Kd.N_drewN | apply Kd.N_drew)); exact HO_3.out⟩, ⟨by (with_reducible repeat (first | apply Kd.N_alloc | apply Kd.N_drewN | apply Kd.N_drew)); exact HO_5.out⟩, ⟨by (with_reducible repeat (first | apply Kd.N_alloc | apply Kd.N_drewN | apply Kd.N_drew)); exact HO_9.out⟩, ⟨by (with_reducible repeat (first | apply Kd.R_alloc | apply Kd.R_drewN | apply Kd.R_drew)); exact HO_13.out⟩, ⟨by (with_reducible repeat (first | apply Kd.R_alloc | apply Kd.R_drewN | apply Kd.R_drew)); exact HO_366002.out⟩, ⟨by (with_reducible repeat (first | refine blk_drewN ?_ _ | refine blk_drew ?_ | refine blk_alloc ?_ _)); exact BK365.out⟩, ⟨by repeat (first | (with_reducible first | exact HB.out | apply below_alloc | apply pw_below_drewN | apply below_drew1 | refine below_set ?_ GE365.out) | exact HB.out)⟩⟩
           ·
            rw [if_neg c46] at H; exact absurd H (by simp)
          ·
           rw [if_neg c45] at H; exact absurd H (by simp)
         ·
          rw [if_neg c44] at H; exact absurd H (by simp)
       ·
        rw [if_neg c40] at H; have c40b0 : decide (x15_2 < (t384.length : Int)) = false := decide_eq_false c40; clear c40; by_cases c51 : t377 = true
        ·
         subst c51; have H1 : (if t383 = true then (some false) else (if x14_2 = true then ((laws_sameEntries.f k2 t376 t357).bind fun t390 => (if t390 = true then ((impl_TonaryValid.f t366).bind fun t391 => (if t391 = true then (some ((t366.length : Int) == (wrap64 ((t357.length : Int) + 1)))) else (some false))) else (some false))) else (some false))) = some r := by rw [if_pos rfl] at H; exact H
         clear H; have H := H1; clear H1; by_cases c52 : t383 = true
         ·
          subst c52; have H1 : (some false) = some r := by rw [if_pos rfl] at H; exact H
          exact absurd (H1.trans (congrArg some HRR.out)) (by simp)
         ·
          replace c52 := Bool.eq_false_iff.mpr c52; subst c52; have H1 : (if x14_2 = true then ((laws_sameEntries.f k2 t376 t357).bind fun t390 => (if t390 = true then ((impl_TonaryValid.f t366).bind fun t391 => (if t391 = true then (some ((t366.length : Int) == (wrap64 ((t357.length : Int) + 1)))) else (some false))) else (some false))) else (some false)) = some r := by rw [if_neg (show ¬ (false = true) by decide)] at H; exact H
          clear H; have H := H1; clear H1; by_cases c54 : x14_2 = true
          ·
           subst c54; have H1 : ((laws_sameEntries.f k2 t376 t357).bind fun t390 => (if t390 = true then ((impl_TonaryValid.f t366).bind fun t391 => (if t391 = true then (some ((t366.length : Int) == (wrap64 ((t357.length : Int) + 1)))) else (some false))) else (some false))) = some r := by rw [if_pos rfl] at H; exact H
           clear H; have H := H1; clear H1; replace H := Option.bind_eq_some_iff.mp H; obtain ⟨t390, A550, H⟩ := H; replace H : (if t390 = true then ((impl_TonaryValid.f t366).bind fun t391 => (if t391 = true then (some ((t366.length : Int) == (wrap64 ((t357.length : Int) + 1)))) else (some false))) else (some false)) = some r := H; have A55 := Aside0.mk A550; clear A550; by_cases c56 : t390 = true
           ·
            subst c56; have H1 : ((impl_TonaryValid.f t366).bind fun t391 => (if t391 = true then (some ((t366.length : Int) == (wrap64 ((t357.length : Int) + 1)))) else (some false))) = some r := by rw [if_pos rfl] at H; exact H
            clear H; have H := H1; clear H1; replace H := Option.bind_eq_some_iff.mp H; obtain ⟨t391, A570, H⟩ := H; replace H : (if t391 = true then (some ((t366.length : Int) == (wrap64 ((t357.length : Int) + 1)))) else (some false)) = some r := H; have A57 := Aside0.mk A570; clear A570; by_cases c58 : t391 = true
            ·
             subst c58; have H1 : (some ((t366.length : Int) == (wrap64 ((t357.length : Int) + 1)))) = some r := by rw [if_pos rfl] at H; exact H
             clear H; have H := H1; clear H1; obtain rfl := Option.some.inj H; obtain ⟨Ao59, co59, eo59⟩ := Kd.R_slice HO_13.out; subst eo59; obtain ⟨Ao60, co60, eo60⟩ := Kd.N_slice HO_9.out; subst eo60; go_wp2_with (first | (go_at_call 7; (with_reducible refine (laws_sameEntries.calls k2 _ _ t376 _ _ t357 true _ ?side1 ?side2 ?side3 ?side4 A55.out).mono ?_); (case side1 => repeat (first | exact (Kd.N_reads' HO_9.out).2.2 | (with_reducible refine Kd.C_alloc ?_ _) | (with_reducible refine Kd.C_drewN ?_ _) | (with_reducible refine Kd.C_drew ?_))); (case side2 => exact (Kd.N_reads' HO_9.out).2.1); (case side3 => repeat (first | exact (Kd.N_reads' HO_3.out).2.2 | (with_reducible refine Kd.C_alloc ?_ _) | (with_reducible refine Kd.C_drewN ?_ _) | (with_reducible refine Kd.C_drew ?_))); (case side4 => exact (Kd.N_reads' HO_3.out).2.1); rintro e w61 ⟨rfl, hb⟩; have n0_ := Aside0.mk (Kd.N_below (by (with_reducible repeat (first | apply Kd.N_alloc | apply Kd.N_drewN | apply Kd.N_drew)); exact HO_3.out) hb); have n1_ := Aside0.mk (Kd.N_below (by (with_reducible repeat (first | apply Kd.N_alloc | apply Kd.N_drewN | apply Kd.N_drew)); exact HO_5.out) hb); have n2_ := Aside0.mk (Kd.N_below (by (with_reducible repeat (first | apply Kd.N_alloc | apply Kd.N_drewN | apply Kd.N_drew)); exact HO_9.out) hb); have n3_ := Aside0.mk (Kd.R_below (by (with_reducible repeat (first | apply Kd.R_alloc | apply Kd.R_drewN | apply Kd.R_drew)); exact HO_13.out) hb); have n4_ := Aside0.mk (Kd.R_below (by (with_reducible repeat (first | apply Kd.R_alloc | apply Kd.R_drewN | apply Kd.R_drew)); exact HO_366002.out) hb); have n5_ := Aside0.mk (blk_below (g := gb365) (o := .cells #[.string t360, .int .i64 t361, .slice Ao10 t362.length co10] 26 (0, 0)) (by (with_reducible repeat (first | refine blk_drewN ?_ _ | refine blk_drew ?_ | refine blk_alloc ?_ _)); exact BK365.out) hb); have n6_ := Aside0.mk (below_step (by repeat (first | (with_reducible first | exact HB.out | apply below_alloc | apply pw_below_drewN | apply below_drew1 | refine below_set ?_ GE365.out) | exact HB.out)) hb); clear HO_3; clear HO_5; clear HO_9; clear HO_13; clear HO_366002; clear BK365; clear HB; have HO_3 := n0_; have HO_5 := n1_; have HO_9 := n2_; have HO_13 := n3_; have HO_366002 := n4_; have BK365 := n5_; have HB := n6_; clear n0_ n1_ n2_ n3_ n4_ n5_ n6_; (try clear hb); (try clear hb2); (try clear hk); (try clear hi)) | (go_at_call 11; (with_reducible refine (impl_TonaryValid.calls _ _ t366 true _ ?side1 ?side2 A57.out (ht := HT.out.below (by repeat (first | (with_reducible first | exact HB.out | apply below_alloc | apply pw_below_drewN | apply below_drew1 | refine below_set ?_ GE365.out) | exact HB.out)))).mono ?_); (case side1 => repeat (first | exact (Kd.N_reads' HO_5.out).2.2 | (with_reducible refine Kd.C_alloc ?_ _) | (with_reducible refine Kd.C_drewN ?_ _) | (with_reducible refine Kd.C_drew ?_))); (case side2 => exact (Kd.N_reads' HO_5.out).2.1); rintro e w62 ⟨rfl, hb⟩; have n0_ := Aside0.mk (Kd.N_below (by (with_reducible repeat (first | apply Kd.N_alloc | apply Kd.N_drewN | apply Kd.N_drew)); exact HO_3.out) hb); have n1_ := Aside0.mk (Kd.N_below (by (with_reducible repeat (first | apply Kd.N_alloc | apply Kd.N_drewN | apply Kd.N_drew)); exact HO_5.out) hb); have n2_ := Aside0.mk (Kd.N_below (by (with_reducible repeat (first | apply Kd.N_alloc | apply Kd.N_drewN | apply Kd.N_drew)); exact HO_9.out) hb); have n3_ := Aside0.mk (Kd.R_below (by (with_reducible repeat (first | apply Kd.R_alloc | apply Kd.R_drewN | apply Kd.R_drew)); exact HO_13.out) hb); have n4_ := Aside0.mk (Kd.R_below (by (with_reducible repeat (first | apply Kd.R_alloc | apply Kd.R_drewN | apply Kd.R_drew)); exact HO_366002.out) hb); have n5_ := Aside0.mk (blk_below (g := gb365) (o := .cells #[.string t360, .int .i64 t361, .slice Ao10 t362.length co10] 26 (0, 0)) (by (with_reducible repeat (first | refine blk_drewN ?_ _ | refine blk_drew ?_ | refine blk_alloc ?_ _)); exact BK365.out) hb); have n6_ := Aside0.mk (below_step (by repeat (first | (with_reducible first | exact HB.out | apply below_alloc | apply pw_below_drewN | apply below_drew1 | refine below_set ?_ GE365.out) | exact HB.out)) hb); clear HO_3; clear HO_5; clear HO_9; clear HO_13; clear HO_366002; clear BK365; clear HB; have HO_3 := n0_; have HO_5 := n1_; have HO_9 := n2_; have HO_13 := n3_; have HO_366002 := n4_; have BK365 := n5_; have HB := n6_; clear n0_ n1_ n2_ n3_ n4_ n5_ n6_; (try clear hb); (try clear hb2); (try clear hk); (try clear hi)))
             go_ret
             exact ⟨by first | rfl | (simp [errW_none, errW_some] <;> rfl) | (simp [*, errW_none, errW_some] <;> rfl), by repeat (first | (with_reducible first | exact HB.out | apply below_alloc | apply pw_below_drewN | apply below_drew1 | refine below_set ?_ GE365.out) | exact HB.out)⟩
            ·
             replace c58 := Bool.eq_false_iff.mpr c58; subst c58; have H1 : (some false) = some r := by rw [if_neg (show ¬ (false = true) by decide)] at H; exact H
             exact absurd (H1.trans (congrArg some HRR.out)) (by simp)
           ·
            replace c56 := Bool.eq_false_iff.mpr c56; subst c56; have H1 : (some false) = some r := by rw [if_neg (show ¬ (false = true) by decide)] at H; exact H
            exact absurd (H1.trans (congrArg some HRR.out)) (by simp)
          ·
           replace c54 := Bool.eq_false_iff.mpr c54; subst c54; have H1 : (some false) = some r := by rw [if_neg (show ¬ (false = true) by decide)] at H; exact H
           exact absurd (H1.trans (congrArg some HRR.out)) (by simp)
        ·
         replace c51 := Bool.eq_false_iff.mpr c51; subst c51; have H1 : (some false) = some r := by rw [if_neg (show ¬ (false = true) by decide)] at H; exact H
         exact absurd (H1.trans (congrArg some HRR.out)) (by simp)
end Go.Proofs.YtknfnmdfdkdipaaDoor.PFnTonaryAdd
namespace Go.Proofs.YtknfnmdfdkdipaaDoor.Pure
set_option linter.unusedVariables false
set_option linter.unusedSimpArgs false
open Go Go.RowKit Go.Proofs.YtknfnmdfdkdipaaDoor.PFnTonaryAdd Go.Proofs.YtknfnmdfdkdipaaDoorW.PrintWords Go.Proofs.YtknfnmdfdkdipaaDoorW.PrintLast Go.Proofs.YtknfnmdfdkdipaaDoorW.PrintMore

theorem spec_l6In_eq (a b c : Int) : spec_l6In.f a b c = some (decide (b ≤ a ∧ a ≤ c)) := by
 unfold spec_l6In.f
 by_cases h : a ≥ b
 ·
  rw [if_pos h]; simp [show b ≤ a from h]
 ·
  rw [if_neg h]; simp [show ¬ b ≤ a from h]
theorem spec_ToneValid_eq (a : Int) (b : Bool) : spec_ToneValid.f a b = some (toneOk ⟨a, b⟩) := by
 unfold spec_ToneValid.f toneOk
 rw [spec_l6In_eq]
 by_cases h : 0 ≤ a ∧ a ≤ 20
 ·
  cases b <;> simp [h, spec_l1Letter.f]
 ·
  simp [h]
theorem spec_MelodyValid_ev (m : List S74) (hm : m.length ≤ 1000000000000) : Ev (fun k => spec_MelodyValid.f k m) (melOk m) := by
 unfold spec_MelodyValid.f
 have := Ev.over z74 m (fun k (_ : Unit) i => spec_MelodyValid.l0 k m i) (fun _ l => l.all toneOk && decide (m.length ≤ 24)) (fun _ _ => True) (by
  intro s _
  refine Ev.succ ?_
  simp only [spec_MelodyValid.l0]
  refine Ev.eqr (Ev.neg (by omega) (Ev.now _)) ?_
  simp; omega) (by
  intro s i rest _ hi _ ih
  refine Ev.succ ?_
  simp only [spec_MelodyValid.l0]
  refine Ev.pos (by omega) (Ev.pos (by omega) (Ev.conb (spec_ToneValid_eq _ _) ?_))
  show Ev _ (toneOk (rd_T74 m i) && _ && _)
  cases ht : toneOk (rd_T74 m i)
  ·
   exact Ev.neg (by simp [ht]) (Ev.now _)
  ·
   refine Ev.pos (by simp [ht]) ?_
   rw [w64 (by omega) (by omega)]
   simpa using ih () trivial) 0 () (Nat.zero_le _) trivial
 refine Ev.eqr (by simpa using this) ?_
 unfold melOk
 rw [Bool.and_comm]

theorem spec_l5Mode_eq (mode : Int) : spec_l5Mode.f mode = some (mOk mode) := by
 unfold spec_l5Mode.f
 rw [spec_l6In_eq]; rfl
theorem spec_l5Entry_ev (e : S26) (hs : e.f0.size ≤ 9000000000000000) (hl : e.f2.length ≤ 1000000000000) : Ev (fun n => spec_l5Entry.f n e.f0 e.f1 e.f2) (entOk e) := by
 unfold spec_l5Entry.f
 have key : ∀ d i : Nat, i + d = e.f0.size → Ev (fun n => spec_l5Entry.l0 n (i : Int) e.f0 e.f1 e.f2) (lowB (e.f0.data.toList.drop i) && (decide (1 ≤ e.f0.size ∧ e.f0.size ≤ 10) && (mOk e.f1 && (melOk e.f2 && decide (1 ≤ e.f2.length ∧ e.f2.length ≤ 8))))) := by
  intro d
  induction d with
  | zero =>
   intro i hi
   refine Ev.succ ?_
   simp only [spec_l5Entry.l0]
   rw [List.drop_of_length_le (by simp; omega)]
   refine Ev.neg (by omega) (Ev.conb (spec_l6In_eq _ _ _) ?_)
   rw [show (decide ((1 : Int) ≤ (e.f0.size : Int) ∧ (e.f0.size : Int) ≤ 10)) = decide (1 ≤ e.f0.size ∧ e.f0.size ≤ 10) from decide_eq_decide.2 (by omega)]
   show Ev _ (true && _)
   rw [Bool.true_and]
   cases decide (1 ≤ e.f0.size ∧ e.f0.size ≤ 10)
   ·
    exact Ev.neg (by simp) (Ev.now _)
   refine Ev.pos rfl (Ev.conb (spec_l5Mode_eq _) ?_)
   rw [Bool.true_and]
   cases mOk e.f1
   ·
    exact Ev.neg (by simp) (Ev.now _)
   refine Ev.pos rfl (Ev.bind (spec_MelodyValid_ev e.f2 hl) ?_)
   rw [Bool.true_and]
   cases melOk e.f2
   ·
    exact Ev.neg (by simp) (Ev.now _)
   refine Ev.pos rfl (Ev.conb (spec_l6In_eq _ _ _) (Ev.eqr (Ev.now _) ?_))
   rw [Bool.true_and]
   exact decide_eq_decide.2 (by omega)
  | succ d ih =>
   intro i hi
   obtain ⟨c, hc, hdr⟩ := bt_get e.f0 i (by omega)
   refine Ev.succ ?_
   simp only [spec_l5Entry.l0]
   rw [hc, hdr, w64 (x := (i : Int) + 1) (by omega) (by omega)]
   have e2 : lowB (c :: e.f0.data.toList.drop (i + 1)) = (decide (97 ≤ c.toNat ∧ c.toNat ≤ 122) && lowB (e.f0.data.toList.drop (i + 1))) := rfl
   rw [e2]
   refine Ev.pos (by omega) (Ev.pos (by omega) ?_)
   by_cases h97 : (c.toNat : Int) < 97
   ·
    refine Ev.pos h97 (Ev.eqr (Ev.now _) ?_)
    rw [decide_eq_false (by omega)]; rfl
   refine Ev.neg h97 ?_
   by_cases h122 : (c.toNat : Int) > 122
   ·
    refine Ev.pos h122 (Ev.eqr (Ev.now _) ?_)
    rw [decide_eq_false (by omega)]; rfl
   refine Ev.neg h122 ?_
   rw [decide_eq_true (show 97 ≤ c.toNat ∧ c.toNat ≤ 122 by omega), Bool.true_and]
   exact ih (i + 1) (by omega)
 refine Ev.eqr (key e.f0.size 0 (by omega)) ?_
 unfold entOk
 rw [List.drop_zero]
 cases lowB e.f0.data.toList <;> cases mOk e.f1 <;> cases melOk e.f2 <;> cases decide (1 ≤ e.f0.size ∧ e.f0.size ≤ 10) <;> cases decide (1 ≤ e.f2.length ∧ e.f2.length ≤ 8) <;> rfl
theorem spec_l5Before_eq (p e : S26) : spec_l5Before.f p.f0 p.f1 p.f2 e.f0 e.f1 e.f2 = some (befE p e) := by
 unfold spec_l5Before.f befE nmLt
 by_cases h1 : p.f1 < e.f1
 ·
  rw [if_pos h1, if_pos h1]
 rw [if_neg h1, if_neg h1]
 by_cases h2 : p.f1 = e.f1
 ·
  rw [if_pos h2, if_pos h2]
 ·
  rw [if_neg h2, if_neg h2]
theorem spec_TonaryValid_ev (L : List S26) (hl : L.length ≤ 1000000000000) (hz : entSz L = true) : Ev (fun n => spec_TonaryValid.f n L) (tonOk L) := by
 have HZ := entSz_all hz
 unfold spec_TonaryValid.f
 have key : ∀ d i : Nat, i + d = L.length → Ev (fun n => spec_TonaryValid.l0 n L (i : Int)) (tOkFrom (prevOf L i) (L.drop i) && decide (L.length ≤ 20)) := by
  intro d
  induction d with
  | zero =>
   intro i hi
   refine Ev.succ ?_
   simp only [spec_TonaryValid.l0]
   rw [List.drop_of_length_le (by omega)]
   refine Ev.neg (by omega) (Ev.eqr (Ev.now _) ?_)
   have : tOkFrom (prevOf L i) [] = true := by cases prevOf L i <;> rfl
   rw [this, Bool.true_and]
   exact decide_eq_decide.2 (by omega)
  | succ d ih =>
   intro i hi
   have hlt : i < L.length := by omega
   have hzi := HZ _ (rd_ent L i hlt)
   have ih := ih (i + 1) (by omega)
   rw [prev_next] at ih
   refine Ev.succ ?_
   simp only [spec_TonaryValid.l0]
   rw [rd_drop L i hlt, w64 (x := (i : Int) + 1) (by omega) (by omega)]
   refine Ev.pos (by omega) (Ev.pos (by omega) (Ev.bind (spec_l5Entry_ev (rd_T26 L (i : Int)) hzi.1 hzi.2) ?_))
   cases hve : entOk (rd_T26 L (i : Int))
   ·
    refine Ev.neg (by simp) (Ev.eqr (Ev.now _) ?_)
    cases prevOf L i <;> (simp only [tOkFrom]; rw [hve]; rfl)
   refine Ev.pos rfl ?_
   by_cases h0 : (i : Int) > 0
   ·
    refine Ev.pos h0 ?_
    rw [w64 (x := (i : Int) - 1) (by omega) (by omega)]
    have hp : prevOf L i = some (rd_T26 L ((i : Int) - 1)) := by unfold prevOf; rw [if_neg (by omega)]
    refine Ev.pos (by omega) (Ev.pos (by omega) (Ev.conb (spec_l5Before_eq _ _) ?_))
    rw [hp]
    simp only [tOkFrom]
    rw [hve, Bool.true_and]
    cases befE (rd_T26 L ((i : Int) - 1)) (rd_T26 L (i : Int))
    ·
     exact Ev.neg (by simp) (Ev.now _)
    ·
     refine Ev.pos rfl ?_
     rw [Bool.true_and]
     exact ih
   ·
    refine Ev.neg h0 ?_
    have hp : prevOf L i = none := by unfold prevOf; rw [if_pos (by omega)]
    rw [hp]
    simp only [tOkFrom]
    rw [hve, Bool.true_and]
    exact ih
 refine Ev.eqr (key L.length 0 (by omega)) ?_
 unfold tonOk
 rw [Bool.and_comm, List.drop_zero]; rfl

theorem spec_l5Copy_eq (e : S26) (h : e.f2.length ≤ 1000000000000) : spec_l5Copy.f e.f0 e.f1 e.f2 = some (e.f0, e.f1, e.f2) := by
 unfold spec_l5Copy.f
 simp only [Option.bind_some, List.nil_append, List.length_nil]
 rw [if_pos (by omega)]

def insR (L : List S26) (e : S26) (at_ i : Nat) : List S26 := if i ≤ at_ then (L.drop i).take (at_ - i) ++ e :: L.drop at_ else L.drop i
theorem insR_zero (L : List S26) (e : S26) (a : Nat) : insR L e a 0 = insAt L a e := by
 unfold insR insAt
 rw [if_pos (Nat.zero_le _), List.drop_zero, Nat.sub_zero]
theorem insR_lt (L : List S26) (e : S26) (a i : Nat) (hi : i < L.length) (ha : i < a) : insR L e a i = rd_T26 L (i : Int) :: insR L e a (i + 1) := by
 unfold insR
 rw [if_pos (by omega), if_pos (by omega), rd_drop L i hi, show a - i = (a - (i + 1)) + 1 by omega, List.take_succ_cons]; rfl
theorem insR_eq (L : List S26) (e : S26) (i : Nat) (hi : i < L.length) : insR L e i i = e :: rd_T26 L (i : Int) :: insR L e i (i + 1) := by
 unfold insR
 rw [if_pos (Nat.le_refl _), if_neg (by omega), Nat.sub_self, List.take_zero, rd_drop L i hi]; rfl
theorem insR_gt (L : List S26) (e : S26) (a i : Nat) (hi : i < L.length) (ha : a < i) : insR L e a i = rd_T26 L (i : Int) :: insR L e a (i + 1) := by
 unfold insR
 rw [if_neg (by omega), if_neg (by omega), rd_drop L i hi]
theorem insR_end (L : List S26) (e : S26) (a : Nat) (ha : a ≤ L.length) : insR L e a L.length = if a = L.length then [e] else [] := by
 unfold insR
 by_cases h : a = L.length
 ·
  subst h
  rw [if_pos (Nat.le_refl _), if_pos rfl, Nat.sub_self, List.take_zero, List.drop_length]; rfl
 ·
  rw [if_neg (by omega), if_neg h, List.drop_length]
theorem entSz_ins {L : List S26} {e : S26} (n : Nat) (hz : entSz L = true) (he : e.f0.size ≤ 9000000000000000 ∧ e.f2.length ≤ 1000000000000) : entSz (insAt L n e) = true := by
 unfold insAt
 refine List.all_eq_true.2 fun x hx => decide_eq_true ?_
 rcases List.mem_append.1 hx with h | h
 ·
  exact entSz_all hz x (List.mem_of_mem_take h)
 ·
  rcases List.mem_cons.1 h with rfl | h
  ·
   exact he
  ·
   exact entSz_all hz x (List.mem_of_mem_drop h)
theorem spec_TonaryAdd_ev (L : List S26) (e : S26) (hl : L.length ≤ 1000000000) (hz : entSz L = true) (he : e.f0.size ≤ 9000000000000000 ∧ e.f2.length ≤ 1000000000000) :
 Ev (fun n => spec_TonaryAdd.f n L e.f0 e.f1 e.f2) (tonAdd L e) := by
 have HZ := entSz_all hz
 have hv := spec_TonaryValid_ev L (by omega) hz
 unfold spec_TonaryAdd.f tonAdd
 refine Ev.conb rfl (Ev.bind hv ?_)
 cases hk : tonOk L
 ·
  rw [if_neg (by simp)]
  exact Ev.neg (by simp) (Ev.now _)
 rw [if_pos rfl]
 refine Ev.pos rfl ?_
 have hec := spec_l5Copy_eq e he.2
 have key1 : ∀ (a : Nat), a ≤ L.length → ∀ (d i : Nat) (X : List S26), i + d = L.length → X.length ≤ 2 * i → X ++ insR L e a i = insAt L a e → Ev (fun n => spec_TonaryAdd.l1 n L X (a : Int) (i : Int) e.f0 e.f1 e.f2) (tonRes (insAt L a e)) := by
  intro a ha d
  have hvz := spec_TonaryValid_ev (insAt L a e) (by rw [insAt_len]; omega) (entSz_ins a hz he)
  induction d with
  | zero =>
   intro i X hi hX hin
   obtain rfl : i = L.length := by omega
   rw [insR_end L e a ha] at hin
   refine Ev.succ ?_
   simp only [spec_TonaryAdd.l1]
   refine Ev.neg (by omega) ?_
   unfold tonRes
   by_cases h : a = L.length
   ·
    rw [if_pos h] at hin
    refine Ev.pos (by omega) (Ev.conb hec (Ev.pos (by omega) (Ev.conb rfl ?_)))
    rw [show (⟨e.f0, e.f1, e.f2⟩ : S26) = e from rfl, hin]
    refine Ev.bind hvz ?_
    cases tonOk (insAt L a e)
    ·
     exact Ev.neg (by simp) (Ev.now _)
    ·
     exact Ev.pos rfl (Ev.now _)
   ·
    rw [if_neg h, List.append_nil] at hin
    refine Ev.neg (by omega) ?_
    rw [hin]
    refine Ev.bind hvz ?_
    cases tonOk (insAt L a e)
    ·
     exact Ev.neg (by simp) (Ev.now _)
    ·
     exact Ev.pos rfl (Ev.now _)
  | succ d ih =>
   intro i X hi hX hin
   have hlt : i < L.length := by omega
   have hzi := HZ _ (rd_ent L i hlt)
   have hrc := spec_l5Copy_eq (rd_T26 L (i : Int)) hzi.2
   have ih1 := fun X hX hin => ih (i + 1) X (by omega) hX hin
   rw [show ((i + 1 : Nat) : Int) = (i : Int) + 1 by omega] at ih1
   refine Ev.succ ?_
   simp only [spec_TonaryAdd.l1]
   rw [w64 (x := (i : Int) + 1) (by omega) (by omega)]
   refine Ev.pos (by omega) ?_
   by_cases hia : i = a
   ·
    subst hia
    rw [insR_eq L e i hlt] at hin
    refine Ev.pos rfl (Ev.conb hec (Ev.pos (by omega) (Ev.conb rfl (Ev.pos (by omega) (Ev.conb hrc (Ev.pos (by rw [List.length_append, List.length_singleton]; omega) ?_))))))
    refine ih1 _ (by rw [List.length_append, List.length_append, List.length_singleton, List.length_singleton]; omega) ?_
    rw [← hin]; simp
   ·
    refine Ev.neg (by omega) (Ev.pos (by omega) (Ev.conb hrc (Ev.pos (by omega) ?_)))
    refine ih1 _ (by rw [List.length_append, List.length_singleton]; omega) ?_
    rw [← hin]
    by_cases hlt2 : i < a
    ·
     rw [insR_lt L e a i hlt hlt2]; simp
    ·
     rw [insR_gt L e a i hlt (by omega)]; simp
 have key0 : ∀ (d i : Nat), i + d = L.length → Ev (fun n => spec_TonaryAdd.l0 n L [] (i : Int) e.f0 e.f1 e.f2) (tonRes (insAt L (i + befN (L.drop i) e) e)) := by
  intro d
  have fin : ∀ i : Nat, i ≤ L.length → Ev (fun n => spec_TonaryAdd.j1 n L [] (i : Int) e.f0 e.f1 e.f2) (tonRes (insAt L i e)) := by
   intro i hi
   refine Ev.succ ?_
   simp only [spec_TonaryAdd.j1]
   exact key1 i hi L.length 0 [] (by omega) (by simp) (by rw [insR_zero]; rfl)
  induction d with
  | zero =>
   intro i hi
   refine Ev.succ ?_
   simp only [spec_TonaryAdd.l0]
   refine Ev.neg (by omega) ?_
   rw [List.drop_of_length_le (by omega), show befN [] e = 0 from rfl, Nat.add_zero]
   exact fin i (by omega)
  | succ d ih =>
   intro i hi
   have hlt : i < L.length := by omega
   have ih1 := ih (i + 1) (by omega)
   rw [show ((i + 1 : Nat) : Int) = (i : Int) + 1 by omega] at ih1
   refine Ev.succ ?_
   simp only [spec_TonaryAdd.l0]
   rw [w64 (x := (i : Int) + 1) (by omega) (by omega)]
   refine Ev.pos (by omega) (Ev.pos (by omega) (Ev.conb (spec_l5Before_eq _ _) ?_))
   rw [rd_drop L i hlt]
   cases hb : befE (rd_T26 L (i : Int)) e
   ·
    refine Ev.neg (by simp) ?_
    rw [show befN (rd_T26 L (i : Int) :: L.drop (i + 1)) e = 0 by unfold befN; rw [List.takeWhile_cons, hb]; rfl, Nat.add_zero]
    exact fin i (by omega)
   ·
    refine Ev.pos rfl ?_
    rw [show i + befN (rd_T26 L (i : Int) :: L.drop (i + 1)) e = i + 1 + befN (L.drop (i + 1)) e by unfold befN; rw [List.takeWhile_cons, hb]; simp only [if_true, List.length_cons]; omega]
    exact ih1
 have := key0 L.length 0 (by omega)
 simpa using this

def tfHit (m : List S74) (e : S26) : Bool := decide (m.length ≤ e.f2.length) && msame (e.f2.take m.length) m
def tfFrom (m : List S74) : Int → List S26 → List Int
 | _, [] => []
 | i, e :: es => if tfHit m e = true then i :: tfFrom m (i + 1) es else tfFrom m (i + 1) es
def tonFind (L : List S26) (m : List S74) : List Int := if (tonOk L && melOk m) = true then tfFrom m 0 L else []
theorem tfFrom_len (m : List S74) : ∀ (L : List S26) i, (tfFrom m i L).length ≤ L.length
 | [], _ => by simp [tfFrom]
 | e :: es, i => by
  have := tfFrom_len m es (i + 1)
  unfold tfFrom; split
  ·
   simp only [List.length_cons]; omega
  ·
   simp only [List.length_cons]; omega
theorem tonFind_len (L : List S26) (m : List S74) : (tonFind L m).length ≤ L.length := by
 unfold tonFind; split
 ·
  exact tfFrom_len m L 0
 ·
  simp

theorem impl_TonaryFind_ev (L : List S26) (m : List S74) (hll : L.length ≤ 1000000000) (hz : entSz L = true) (hm : m.length ≤ 1000000000000) : Ev (fun n => impl_TonaryFind.f n L m) (tonFind L m) := by
 have hv : impl_TonaryValid.f L = some (tonOk L) := if_pos hz
 have hmv := impl_MelodyValid_ev m
 unfold impl_TonaryFind.f tonFind
 refine Ev.conb rfl (Ev.conb hv ?_)
 have none : Ev (fun k => impl_TonaryFind.j0 k L m [] true) [] := by
  refine Ev.succ ?_
  simp only [impl_TonaryFind.j0]
  exact Ev.pos (by simp) (Ev.now _)
 cases h1 : tonOk L
 ·
  rw [if_neg (by simp)]
  exact Ev.neg (by simp) none
 refine Ev.pos rfl (Ev.bind hmv ?_)
 cases h2 : melOk m
 ·
  rw [if_neg (by simp)]
  exact none
 rw [if_pos (show (true && true) = true from rfl)]
 refine Ev.succ ?_
 simp only [impl_TonaryFind.j0]
 refine Ev.neg (by simp) ?_
 have key : ∀ (d i : Nat) (X : List Int), i + d = L.length → X.length ≤ i → Ev (fun n => impl_TonaryFind.l0 n m X L (L.length : Int) (i : Int)) (X ++ tfFrom m (i : Int) (L.drop i)) := by
  intro d
  induction d with
  | zero =>
   intro i X hi hX
   refine Ev.succ ?_
   simp only [impl_TonaryFind.l0]
   rw [List.drop_of_length_le (by omega)]
   refine Ev.neg (by omega) (Ev.eqr (Ev.now _) ?_)
   simp [tfFrom]
  | succ d ih =>
   intro i X hi hX
   have hlt : i < L.length := by omega
   have hm' := rd_ent L i hlt
   have hg := entSz_all hz _ hm'
   refine Ev.succ ?_
   simp only [impl_TonaryFind.l0]
   rw [rd_drop L i hlt, w64 (x := (i : Int) + 1) (by omega) (by omega)]
   have ih1 := fun X hX => ih (i + 1) X (by omega) hX
   rw [show ((i + 1 : Nat) : Int) = (i : Int) + 1 by omega] at ih1
   generalize rd_T26 L (i : Int) = e at hg
   unfold tfFrom tfHit
   refine Ev.pos (by omega) (Ev.pos (by omega) (Ev.pos (by omega) ?_))
   by_cases hle : m.length ≤ e.f2.length
   ·
    rw [decide_eq_true hle, Bool.true_and]
    refine Ev.pos (by omega) (Ev.pos (by omega) (Ev.pos (by omega) ?_))
    rw [Int.toNat_natCast]
    have hms : impl_MelodySame.f (e.f2.take m.length) m = some (msame (e.f2.take m.length) m) := if_pos ⟨by rw [List.length_take]; omega, hm⟩
    refine Ev.conb hms ?_
    cases hs : msame (e.f2.take m.length) m
    ·
     refine Ev.neg (by simp) ?_
     rw [if_neg (by simp)]
     exact ih1 X (by omega)
    ·
     refine Ev.pos rfl (Ev.pos (by omega) ?_)
     rw [if_pos rfl]
     refine Ev.eqr (ih1 _ (by rw [List.length_append, List.length_singleton]; omega)) ?_
     simp
   ·
    rw [decide_eq_false hle, Bool.false_and, if_neg (by simp)]
    refine Ev.neg (by omega) ?_
    exact ih1 X (by omega)
 have := key L.length 0 [] (by omega) (by simp)
 simpa using this

theorem msame_refl {m : List S74} (h : melOk m = true) : msame m m = true := by
 unfold msame; rw [h]; simp
theorem tfHit_self {e : S26} (h : entOk e = true) : tfHit e.f2 e = true := by
 unfold tfHit
 rw [List.take_length, msame_refl (by unfold entOk at h; simp only [Bool.and_eq_true] at h; exact h.2.2.2.2)]
 simp
theorem tfFrom_has {m : List S74} : ∀ (L : List S26) (i : Int) (e : S26), e ∈ L → tfHit m e = true → ∃ j : Nat, (i + (j : Int)) ∈ tfFrom m i L ∧ j < L.length ∧ rd_T26 L (j : Int) = e
 | [], _, _, h, _ => by cases h
 | x :: xs, i, e, he, hh => by
  unfold tfFrom
  by_cases hx : x = e
  ·
   subst hx
   rw [if_pos hh]
   exact ⟨0, by simp, by simp, rfl⟩
  ·
   have he2 : e ∈ xs := (List.mem_cons.1 he).resolve_left (fun h => hx h.symm)
   obtain ⟨j, h1, h2, h3⟩ := tfFrom_has xs (i + 1) e he2 hh
   refine ⟨j + 1, ?_, by simp only [List.length_cons]; omega, by rw [← h3]; rfl⟩
   rw [show i + ((j + 1 : Nat) : Int) = i + 1 + (j : Int) by omega]
   split
   ·
    exact List.mem_cons_of_mem _ h1
   ·
    exact h1
theorem tfFrom_lt {m : List S74} : ∀ (L : List S26) (i x : Int), x ∈ tfFrom m i L → i ≤ x ∧ x < i + L.length
 | [], _, x, h => by cases h
 | e :: es, i, x, h => by
  unfold tfFrom at h
  have rec_ : x ∈ tfFrom m (i + 1) es → i ≤ x ∧ x < i + (e :: es).length := by
   intro h
   have := tfFrom_lt es (i + 1) x h
   simp only [List.length_cons]; omega
  split at h
  ·
   rcases List.mem_cons.1 h with rfl | h
   ·
    simp only [List.length_cons]; omega
   ·
    exact rec_ h
  ·
   exact rec_ h

end Go.Proofs.YtknfnmdfdkdipaaDoor.Pure
namespace Go.Proofs.YtknfnmdfdkdipaaDoor.Pure
set_option linter.unusedVariables false
set_option linter.unusedSimpArgs false
open Go Go.RowKit Go.Proofs.YtknfnmdfdkdipaaDoor.PFnTonaryAdd Go.Proofs.YtknfnmdfdkdipaaDoorW.PrintWords Go.Proofs.YtknfnmdfdkdipaaDoorW.PrintLast Go.Proofs.YtknfnmdfdkdipaaDoorW.PrintMore

structure Code (s : List Int) : Prop where
 b : ∀ x ∈ s, 0 ≤ x ∧ x ≤ 255
 l : s.length ≤ 2000
theorem open_ev (l0 : List Int) (hw : ∀ x ∈ l0, (Lit.int .u8 x).wf = true) : ∃ s, spec_l6Open.f l0 = some (s, 0) ∧ Code s := by
 have hb : ∀ x ∈ l0, 0 ≤ x ∧ x ≤ 255 := by
  intro x hx
  have := hw x hx
  have e1 : IntKind.u8.min = 0 := by decide
  have e2 : IntKind.u8.max = 255 := by decide
  simp only [Lit.wf, e1, e2] at this
  simpa using this
 unfold spec_l6Open.f
 by_cases h : (l0.length : Int) > 2000
 ·
  refine ⟨l0.take 2000, by rw [if_pos h, if_pos (by omega)], ⟨fun x hx => hb x (List.mem_of_mem_take hx), by rw [List.length_take]; omega⟩⟩
 ·
  exact ⟨l0, by rw [if_neg h], ⟨hb, by omega⟩⟩
theorem pick_ev {s : List Int} (hc : Code s) (p n : Int) (hp : 0 ≤ p) (hp' : p ≤ 1000000000) :
 Evx (fun k => spec_l6Rd_pick.f k s p n) (fun r => 0 ≤ r.1 ∧ (r.1 < n ∨ r.1 = 0) ∧ r.2 = p + 1) := by
 have hw : wrap64 (p + 1) = p + 1 := w64 (by omega) (by omega)
 have hw' : wrap64 (p + 1 - 1) = p := by rw [w64 (by omega) (by omega)]; omega
 have hl := hc.l
 unfold spec_l6Rd_pick.f
 rw [hw]
 by_cases hn : n < 1
 ·
  refine Evx.pos hn (Evx.succ ?_)
  simp only [spec_l6Rd_pick.j0, if_true]
  exact Evx.now ⟨by simp, by simp, rfl⟩
 ·
  refine Evx.neg hn (Evx.succ ?_)
  have tm : ∀ x : Int, 0 ≤ x → 0 ≤ Int.tmod x n ∧ Int.tmod x n < n := fun x hx => ⟨Int.tmod_nonneg n hx, Int.tmod_lt_of_pos x (by omega)⟩
  by_cases h0 : s.length = 0
  ·
   have e : ((s.length : Int) == 0) = true := by simp [h0]
   simp only [spec_l6Rd_pick.j0, e, if_true]
   exact Evx.now ⟨by simp, by simp, rfl⟩
  ·
   have e : ((s.length : Int) == 0) = false := by rw [beq_eq_false_iff_ne]; omega
   simp only [spec_l6Rd_pick.j0, e, hw']
   refine Evx.neg (by simp) ?_
   by_cases hlt : p < (s.length : Int)
   ·
    refine Evx.pos hlt (Evx.pos hp (Evx.neg (by omega) (Evx.now ?_)))
    have hb := rd_bd hc.b p
    rw [w64 (x := rd s p) (by omega) (by omega)]
    have := tm (rd s p) hb.1
    exact ⟨this.1, .inl this.2, rfl⟩
   ·
    refine Evx.neg hlt (Evx.neg (by omega) ?_)
    have t1 : 0 ≤ Int.tmod p s.length := Int.tmod_nonneg _ hp
    have t1' : Int.tmod p s.length < s.length := Int.tmod_lt_of_pos p (by omega)
    rw [w64 (x := p * 7) (by omega) (by omega), w64 (x := p * 7 + 3) (by omega) (by omega)]
    have t2 : 0 ≤ Int.tmod (p * 7 + 3) s.length := Int.tmod_nonneg _ (by omega)
    have t2' : Int.tmod (p * 7 + 3) s.length < s.length := Int.tmod_lt_of_pos _ (by omega)
    refine Evx.pos t1 (Evx.pos t1' (Evx.pos t2 (Evx.pos t2' (Evx.neg (by omega) (Evx.now ?_)))))
    have hb1 := rd_bd hc.b (Int.tmod p s.length)
    have hb2 := rd_bd hc.b (Int.tmod (p * 7 + 3) s.length)
    have hd : 0 ≤ Int.tdiv p s.length ∧ Int.tdiv p s.length ≤ p := by
     rw [Int.tdiv_eq_ediv_of_nonneg hp]
     exact ⟨Int.ediv_nonneg hp (by omega), Int.ediv_le_self _ hp⟩
    generalize rd s (Int.tmod p s.length) = a at *
    generalize rd s (Int.tmod (p * 7 + 3) s.length) = b at *
    generalize Int.tdiv p s.length = c at *
    obtain ⟨X, hX, hX0, hX1⟩ : ∃ X : Int, wrap64 (wrap64 (wrap64 (wrap64 (wrap64 a * 131) + wrap64 (wrap64 b * 1117)) + wrap64 (p * 29)) + wrap64 (wrap64 c * 53)) = X ∧ 0 ≤ X ∧ X < 1000000000000 := by
     refine ⟨a * 131 + b * 1117 + p * 29 + c * 53, ?_, by omega, by omega⟩
     rw [w64 (x := a) (by omega) (by omega), w64 (x := b) (by omega) (by omega), w64 (x := c) (by omega) (by omega), w64 (x := a * 131) (by omega) (by omega), w64 (x := b * 1117) (by omega) (by omega), w64 (x := p * 29) (by omega) (by omega), w64 (x := c * 53) (by omega) (by omega), w64 (x := a * 131 + b * 1117) (by omega) (by omega), w64 (x := a * 131 + b * 1117 + p * 29) (by omega) (by omega), w64 (by omega) (by omega)]
    rw [hX]
    have hq : 0 ≤ Int.tdiv X 64 ∧ Int.tdiv X 64 ≤ X := by
     rw [Int.tdiv_eq_ediv_of_nonneg hX0]; omega
    rw [w64 (x := Int.tdiv X 64) (by omega) (by omega)]
    have := tm _ (xor_bd X (Int.tdiv X 64) hX0 (by omega) hq.1 (by omega))
    exact ⟨this.1, .inl this.2, rfl⟩

theorem of_ev {s : List Int} (hc : Code s) (p : Int) (hp : 0 ≤ p) (hp' : p ≤ 100000000) (xs : List ByteArray) (hx : 0 < xs.length) (hx' : xs.length ≤ 1000) :
 Evx (fun k => spec_l6Rd_of.f k s p xs) (fun r => r.1 ∈ xs ∧ r.2 = p + 1) := by
 unfold spec_l6Rd_of.f
 refine Evx.bind (pick_ev hc p _ hp (by omega)) ?_
 rintro ⟨r, q⟩ ⟨hr0, hr1, rfl⟩
 have hr0 : 0 ≤ r := hr0
 have hr1 : r < (xs.length : Int) ∨ r = 0 := hr1
 refine Evx.pos hr0 (Evx.pos (by omega) (Evx.now ⟨?_, rfl⟩))
 have hlt : r.toNat < xs.length := by omega
 show rdOf ByteArray.empty xs r ∈ xs
 unfold rdOf
 rw [List.getD_eq_getElem?_getD, List.getElem?_eq_getElem hlt]
 exact List.getElem_mem hlt
theorem some_ev {s : List Int} (hc : Code s) (n p : Int) (hn : n ≤ 1000) (hp : 0 ≤ p) (hp' : p ≤ 10000000) :
 Evx (fun k => spec_l91Some.f k s p n) (fun r => (r.1.length : Int) ≤ mx 0 n ∧ p ≤ r.2 ∧ r.2 ≤ p + 2 * mx 0 n) := by
 unfold spec_l91Some.f
 have key : ∀ (d i : Nat) (X : List S74) (q : Int), (i : Int) + d = mx 0 n → X.length = i → 0 ≤ q → q ≤ 10000000 + 2 * (i : Int) → Evx (fun k => spec_l91Some.l0 k n X (i : Int) s q) (fun r => (r.1.length : Int) ≤ mx 0 n ∧ q ≤ r.2 ∧ r.2 ≤ q + 2 * d) := by
  intro d
  have hm := mx_le 0 n
  have hm2 : mx 0 n = 0 ∨ mx 0 n = n := by unfold mx; split <;> simp
  induction d with
  | zero =>
   intro i X q hi hX hq hq'
   refine Evx.succ ?_
   simp only [spec_l91Some.l0]
   exact Evx.neg (by omega) (Evx.now ⟨by show (X.length : Int) ≤ _; omega, by show q ≤ q; omega, by show q ≤ _; omega⟩)
  | succ d ih =>
   intro i X q hi hX hq hq'
   refine Evx.succ ?_
   simp only [spec_l91Some.l0]
   rw [w64 (x := (i : Int) + 1) (by omega) (by omega)]
   refine Evx.pos (by omega) (Evx.bind (pick_ev hc q 6 hq (by omega)) ?_)
   rintro ⟨r, q1⟩ ⟨hr0, hr1, rfl⟩
   refine Evx.conb rfl (Evx.ite (fun _ => ?_) (fun _ => ?_))
   ·
    refine Evx.bind (pick_ev hc (q + 1) 2 (by omega) (by omega)) ?_
    rintro ⟨r2, q2⟩ ⟨_, _, rfl⟩
    refine Evx.pos (by omega) ?_
    refine (ih (i + 1) _ (q + 1 + 1) (by omega) (by rw [List.length_append, hX]; rfl) (by omega) (by omega)).mono ?_
    rintro ⟨a, b⟩ ⟨h1, h2, h3⟩
    exact ⟨h1, by show q ≤ b; have h2 : q + 1 + 1 ≤ b := h2; omega, by show b ≤ _; have h3 : b ≤ q + 1 + 1 + 2 * (d : Int) := h3; omega⟩
   ·
    refine Evx.pos (by omega) ?_
    refine (ih (i + 1) _ (q + 1) (by omega) (by rw [List.length_append, hX]; rfl) (by omega) (by omega)).mono ?_
    rintro ⟨a, b⟩ ⟨h1, h2, h3⟩
    exact ⟨h1, by show q ≤ b; have h2 : q + 1 ≤ b := h2; omega, by show b ≤ _; have h3 : b ≤ q + 1 + 2 * (d : Int) := h3; omega⟩
 have hm := mx_le 0 n
 have := key (mx 0 n).toNat 0 [] p (by omega) rfl hp (by omega)
 refine this.mono ?_
 rintro ⟨a, b⟩ ⟨h1, h2, h3⟩
 exact ⟨h1, h2, by show b ≤ _; have h3 : b ≤ p + 2 * ((mx 0 n).toNat : Int) := h3; omega⟩
def entB (e : S26) : Prop := e.f0.size ≤ 20 ∧ e.f2.length ≤ 20
theorem drawEntry_ev {s : List Int} (hc : Code s) (p : Int) (hp : 0 ≤ p) (hp' : p ≤ 1000000) :
 Evx (fun k => spec_l92Entry.f k s p) (fun r => entB ⟨r.1, r.2.1, r.2.2.1⟩ ∧ p ≤ r.2.2.2 ∧ r.2.2.2 ≤ p + 60) := by
 have mx4 : ∀ u : Int, 0 ≤ u → u < 4 ∨ u = 0 → mx 0 (wrap64 (1 + u)) ≤ 4 ∧ 0 ≤ mx 0 (wrap64 (1 + u)) := by
  intro u h0 h1
  rw [w64 (by omega) (by omega)]
  unfold mx; split <;> omega
 have mem20 : ∀ (x : ByteArray) (xs : List ByteArray), x ∈ xs → (∀ y ∈ xs, y.size ≤ 20) → x.size ≤ 20 := fun x xs h hy => hy x h
 have o1 : ∀ y ∈ ([(⟨#[97]⟩ : ByteArray), (⟨#[98]⟩ : ByteArray), (⟨#[97, 118, 101]⟩ : ByteArray), (⟨#[100, 101, 117, 115]⟩ : ByteArray), (⟨#[99]⟩ : ByteArray)] : List ByteArray), y.size ≤ 20 := by decide
 have o2 : ∀ y ∈ ([(⟨#[]⟩ : ByteArray), (⟨#[65]⟩ : ByteArray), (⟨#[97, 98, 99, 100, 101, 102, 103, 104, 105, 106, 107]⟩ : ByteArray)] : List ByteArray), y.size ≤ 20 := by decide
 unfold spec_l92Entry.f
 refine Evx.bind (of_ev hc p hp (by omega) _ (by simp) (by simp)) ?_
 rintro ⟨nm, q⟩ ⟨hnm, rfl⟩
 have hnm := mem20 nm _ hnm o1
 refine Evx.bind (pick_ev hc (p + 1) 3 (by omega) (by omega)) ?_
 rintro ⟨mo, q⟩ ⟨_, _, rfl⟩
 refine Evx.bind (pick_ev hc (p + 1 + 1) 4 (by omega) (by omega)) ?_
 rintro ⟨u, q⟩ ⟨hu0, hu1, rfl⟩
 have h4 := mx4 u hu0 hu1
 have h4' : wrap64 (1 + u) ≤ 1000 := by
  have hu0 : 0 ≤ u := hu0
  have hu1 : u < 4 ∨ u = 0 := hu1
  rw [w64 (by omega) (by omega)]; omega
 refine Evx.bind (some_ev hc (wrap64 (1 + u)) (p + 1 + 1 + 1) h4' (by omega) (by omega)) ?_
 rintro ⟨st, q⟩ ⟨hs1, hs2, hs3⟩
 have hs1 : (st.length : Int) ≤ mx 0 (wrap64 (1 + u)) := hs1
 have hs2 : p + 1 + 1 + 1 ≤ q := hs2
 have hs3 : q ≤ p + 1 + 1 + 1 + 2 * mx 0 (wrap64 (1 + u)) := hs3
 refine Evx.bind (pick_ev hc q 40 (by omega) (by omega)) ?_
 rintro ⟨c, q'⟩ ⟨_, _, rfl⟩
 refine Evx.ite (fun _ => ?_) (fun _ => Evx.ite (fun _ => ?_) (fun _ => Evx.ite (fun _ => ?_) (fun _ => ?_)))
 ·
  refine Evx.bind (of_ev hc (q + 1) (by omega) (by omega) _ (by simp) (by simp)) ?_
  rintro ⟨nm2, q'⟩ ⟨hnm2, rfl⟩
  exact Evx.now ⟨⟨mem20 nm2 _ hnm2 o2, by show st.length ≤ 20; omega⟩, by show p ≤ q + 1 + 1; omega, by show q + 1 + 1 ≤ p + 60; omega⟩
 ·
  refine Evx.someb (Evx.bind (pick_ev hc (q + 1) 2 (by omega) (by omega)) ?_)
  rintro ⟨r, q'⟩ ⟨hr0, hr1, rfl⟩
  have hr0 : 0 ≤ r := hr0
  have hr1 : r < 2 ∨ r = 0 := hr1
  exact Evx.pos hr0 (Evx.pos (by simp; omega) (Evx.now ⟨⟨hnm, by show st.length ≤ 20; omega⟩, by show p ≤ q + 1 + 1; omega, by show q + 1 + 1 ≤ p + 60; omega⟩))
 ·
  refine Evx.someb (Evx.bind (pick_ev hc (q + 1) 2 (by omega) (by omega)) ?_)
  rintro ⟨r, q'⟩ ⟨hr0, hr1, rfl⟩
  have hr0 : 0 ≤ r := hr0
  have hr1 : r < 2 ∨ r = 0 := hr1
  have hrd : rd ([0, 9] : List Int) r = 0 ∨ rd ([0, 9] : List Int) r = 9 := by
   have : r = 0 ∨ r = 1 := by omega
   rcases this with rfl | rfl
   ·
    exact .inl rfl
   ·
    exact .inr rfl
  have hmx : mx 0 (rd ([0, 9] : List Int) r) ≤ 9 := by rcases hrd with h | h <;> rw [h] <;> decide
  refine Evx.pos hr0 (Evx.pos (by simp; omega) (Evx.bind (some_ev hc (rd ([0, 9] : List Int) r) (q + 1 + 1) (by rcases hrd with h | h <;> rw [h] <;> decide) (by omega) (by omega)) ?_))
  rintro ⟨st2, q'⟩ ⟨hs1', hs2', hs3'⟩
  have hs1' : (st2.length : Int) ≤ mx 0 (rd ([0, 9] : List Int) r) := hs1'
  have hs2' : q + 1 + 1 ≤ q' := hs2'
  have hs3' : q' ≤ q + 1 + 1 + 2 * mx 0 (rd ([0, 9] : List Int) r) := hs3'
  exact Evx.now ⟨⟨hnm, by show st2.length ≤ 20; omega⟩, by show p ≤ q'; omega, by show q' ≤ p + 60; omega⟩
 ·
  exact Evx.now ⟨⟨hnm, by show st.length ≤ 20; omega⟩, by show p ≤ q + 1; omega, by show q + 1 ≤ p + 60; omega⟩
def tonB (n : Nat) (L : List S26) : Prop := L.length ≤ n ∧ ∀ e ∈ L, entB e
theorem tonB.sz {n : Nat} {L : List S26} (h : tonB n L) : entSz L = true :=
 List.all_eq_true.2 fun e he => decide_eq_true (by have := h.2 e he; unfold entB at this; omega)
theorem tonB.ins {n : Nat} {L : List S26} {e : S26} (h : tonB n L) (he : entB e) (a : Nat) : tonB (n + 1) (insAt L a e) := by
 refine ⟨by rw [insAt_len]; have := h.1; omega, fun x hx => ?_⟩
 unfold insAt at hx
 rcases List.mem_append.1 hx with h1 | h1
 ·
  exact h.2 x (List.mem_of_mem_take h1)
 ·
  rcases List.mem_cons.1 h1 with rfl | h1
  ·
   exact he
  ·
   exact h.2 x (List.mem_of_mem_drop h1)
theorem tonB.add {n : Nat} {L : List S26} {e : S26} (h : tonB n L) (he : entB e) : tonB (n + 1) (tonAdd L e).1 := by
 unfold tonAdd tonRes
 split
 ·
  split
  ·
   exact h.ins he _
  ·
   exact ⟨Nat.zero_le _, fun _ hx => by cases hx⟩
 ·
  exact ⟨Nat.zero_le _, fun _ hx => by cases hx⟩
theorem drawTonary_ev {s : List Int} (hc : Code s) (p : Int) (hp : 0 ≤ p) (hp' : p ≤ 100000) :
 Evx (fun k => spec_l92Tonary.f k s p) (fun r => tonB 6 r.1 ∧ p ≤ r.2 ∧ r.2 ≤ p + 1000) := by
 unfold spec_l92Tonary.f
 refine Evx.bind (pick_ev hc p 6 hp (by omega)) ?_
 rintro ⟨n, q⟩ ⟨hn0, hn1, rfl⟩
 have hn0 : 0 ≤ n := hn0
 have hn1 : n < 6 ∨ n = 0 := hn1
 have key : ∀ (d i : Nat) (X : List S26) (q : Int), (i : Int) + d = n → tonB i X → 0 ≤ q → q ≤ 200000 + 60 * (i : Int) → Evx (fun k => spec_l92Tonary.l0 k X n (i : Int) s q) (fun r => tonB 6 r.1 ∧ q ≤ r.2 ∧ r.2 ≤ q + 60 * d + 1) := by
  intro d
  induction d with
  | zero =>
   intro i X q hi hX hq hq'
   have hX6 : tonB 6 X := ⟨by have := hX.1; omega, hX.2⟩
   refine Evx.succ ?_
   simp only [spec_l92Tonary.l0]
   refine Evx.neg (by omega) (Evx.ite (fun h1 => ?_) (fun _ => Evx.now ⟨hX6, by show q ≤ q; omega, by show q ≤ _; omega⟩))
   refine Evx.bind (pick_ev hc q 30 hq (by omega)) ?_
   rintro ⟨r, q1⟩ ⟨_, _, rfl⟩
   refine Evx.ite (fun _ => ?_) (fun _ => Evx.now ⟨hX6, by show q ≤ q + 1; omega, by show q + 1 ≤ _; omega⟩)
   refine Evx.pos (by omega) (Evx.pos (by omega) (Evx.now ⟨⟨?_, ?_⟩, by show q ≤ q + 1; omega, by show q + 1 ≤ _; omega⟩))
   ·
    show (X.set _ _).length ≤ 6
    rw [List.length_set]; exact hX6.1
   ·
    intro e he
    have hlt : 1 < X.length := by omega
    have h1e : entB (rd_T26 X 1) := by
     have := hX.2 (X[1]'hlt) (List.getElem_mem hlt)
     unfold rd_T26
     rw [List.getD_eq_getElem?_getD, List.getElem?_eq_getElem (show (1 : Int).toNat < X.length from hlt)]
     exact this
    rcases List.mem_or_eq_of_mem_set he with h | h
    ·
     exact hX.2 e h
    ·
     rw [h]; exact h1e
  | succ d ih =>
   intro i X q hi hX hq hq'
   refine Evx.succ ?_
   simp only [spec_l92Tonary.l0]
   rw [w64 (x := (i : Int) + 1) (by omega) (by omega)]
   refine Evx.pos (by omega) (Evx.bind (drawEntry_ev hc q hq (by omega)) ?_)
   rintro ⟨e0, e1, e2, q1⟩ ⟨he, hq1, hq2⟩
   have hq1 : q ≤ q1 := hq1
   have hq2 : q1 ≤ q + 60 := hq2
   have hXl := hX.1
   refine Evx.bind1 (spec_TonaryAdd_ev X ⟨e0, e1, e2⟩ (by omega) hX.sz ⟨Nat.le_trans he.1 (by omega), Nat.le_trans he.2 (by omega)⟩) ?_
   have fin : ∀ Y : List S26, tonB (i + 1) Y → Evx (fun k => spec_l92Tonary.l0 k Y n ((i : Int) + 1) s q1) (fun r => tonB 6 r.1 ∧ q ≤ r.2 ∧ r.2 ≤ q + 60 * ((d + 1 : Nat) : Int) + 1) := by
    intro Y hY
    have := ih (i + 1) Y q1 (by omega) hY (by omega) (by omega)
    rw [show ((i + 1 : Nat) : Int) = (i : Int) + 1 by omega] at this
    refine this.mono ?_
    rintro ⟨a, b⟩ ⟨h1, h2, h3⟩
    exact ⟨h1, by show q ≤ b; have h2 : q1 ≤ b := h2; omega, by show b ≤ _; have h3 : b ≤ q1 + 60 * (d : Int) + 1 := h3; omega⟩
   refine Evx.ite (fun _ => fin _ (hX.add he)) (fun _ => fin X ⟨by omega, hX.2⟩)
 have := key n.toNat 0 [] (p + 1) (by omega) ⟨by simp, fun _ h => by cases h⟩ (by omega) (by omega)
 refine this.mono ?_
 rintro ⟨a, b⟩ ⟨h1, h2, h3⟩
 exact ⟨h1, by show p ≤ b; have h2 : p + 1 ≤ b := h2; omega, by show b ≤ _; have h3 : b ≤ p + 1 + 60 * (n.toNat : Int) + 1 := h3; omega⟩

theorem drawTonAdd_ev (l0 : List Int) (hw : ∀ x ∈ l0, (Lit.int .u8 x).wf = true) : Evx (fun k => spec_DrawTonaryAdd.f k l0) (fun r => tonB 6 r.1 ∧ entB ⟨r.2.1, r.2.2.1, r.2.2.2⟩) := by
 obtain ⟨s, hs, hc⟩ := open_ev l0 hw
 unfold spec_DrawTonaryAdd.f
 refine Evx.conb hs (Evx.bind (drawTonary_ev hc 0 (by omega) (by omega)) ?_)
 rintro ⟨L, q⟩ ⟨hL, hq0, hq1⟩
 have hq0 : 0 ≤ q := hq0
 have hq1 : q ≤ 0 + 1000 := hq1
 have hL : tonB 6 L := hL
 refine Evx.bind (drawEntry_ev hc q hq0 (by omega)) ?_
 rintro ⟨a, b, c, q2⟩ ⟨he, _, _⟩
 exact Evx.now ⟨hL, he⟩

theorem tonAdd_true {L O : List S26} {e : S26} (h : tonAdd L e = (O, true)) : tonOk L = true ∧ tonOk O = true ∧ O = insAt L (befN L e) e := by
 unfold tonAdd tonRes at h
 split at h
 ·
  rename_i h1
  split at h
  ·
   rename_i h2
   injection h with h _
   subst h
   exact ⟨h1, h2, rfl⟩
  ·
   cases h
 ·
  cases h
theorem tonAdd_mem {L O : List S26} {e : S26} (h : tonAdd L e = (O, true)) : e ∈ O := by
 rw [(tonAdd_true h).2.2]; unfold insAt; exact List.mem_append_right _ List.mem_cons_self
theorem notE_keep {x e : S26} (hx : befE x e = true ∨ befE e x = true) : notE e.f1 e.f0 x = true := by
 unfold notE
 by_cases h : x.f1 = e.f1 ∧ x.f0 = e.f0
 ·
  rw [befE_iff, befE_iff, h.1, h.2, nmLt_irrefl] at hx
  rcases hx with (h | ⟨_, h⟩) | (h | ⟨_, h⟩)
  ·
   omega
  ·
   cases h
  ·
   omega
  ·
   cases h
 ·
  by_cases h1 : x.f1 = e.f1
  ·
   have : ¬ x.f0 = e.f0 := fun h2 => h ⟨h1, h2⟩
   simp [this]
  ·
   simp [h1]
theorem tonAdd_drop {L O : List S26} {e : S26} (h : tonAdd L e = (O, true)) : tonDrop O e.f1 e.f0 = (L, true) := by
 obtain ⟨_, hkO, hO⟩ := tonAdd_true h
 obtain ⟨_, _, hs⟩ := (tonOk_iff O).1 hkO
 have hf : O.filter (notE e.f1 e.f0) = L := by
  rw [hO] at hs ⊢
  unfold insAt at hs ⊢
  obtain ⟨_, s2, s3⟩ := List.pairwise_append.1 hs
  obtain ⟨s4, _⟩ := List.pairwise_cons.1 s2
  rw [List.filter_append, List.filter_eq_self.2 (fun x hx => notE_keep (.inl (s3 x hx e List.mem_cons_self))), List.filter_cons_of_neg (by unfold notE; simp), List.filter_eq_self.2 (fun x hx => notE_keep (.inr (s4 x hx))), List.take_append_drop]
 rw [tonDrop_eq, if_pos hkO, hf, if_neg (by rw [hO, insAt_len]; omega)]
theorem tonAdd_twice {L O : List S26} {e : S26} (h : tonAdd L e = (O, true)) : tonAdd O e = ([], false) := by
 obtain ⟨_, hkO, _⟩ := tonAdd_true h
 have he := tonAdd_mem h
 unfold tonAdd tonRes
 rw [if_pos hkO, if_neg]
 intro hk
 obtain ⟨_, _, hs⟩ := (tonOk_iff _).1 hk
 unfold insAt at hs
 obtain ⟨_, s2, s3⟩ := List.pairwise_append.1 hs
 obtain ⟨s4, _⟩ := List.pairwise_cons.1 s2
 rw [← List.take_append_drop (befN O e) O] at he
 have irr : befE e e = true → False := fun h => by
  rw [befE_iff, nmLt_irrefl] at h
  rcases h with h | ⟨_, h⟩
  ·
   omega
  ·
   cases h
 rcases List.mem_append.1 he with h1 | h1
 ·
  exact irr (s3 e h1 e List.mem_cons_self)
 ·
  exact irr (s4 e h1)

end Go.Proofs.YtknfnmdfdkdipaaDoor.Pure
namespace Go.Proofs.YtknfnmdfdkdipaaDoor.Pure
set_option linter.unusedVariables false
set_option linter.unusedSimpArgs false
open Go Go.RowKit Go.Proofs.YtknfnmdfdkdipaaDoor.PFnTonaryAdd Go.Proofs.YtknfnmdfdkdipaaDoorW.PrintWords Go.Proofs.YtknfnmdfdkdipaaDoorW.PrintLast Go.Proofs.YtknfnmdfdkdipaaDoorW.PrintMore

theorem sameTones_ev (a : List S74) (ha : a.length ≤ 1000000000000) : Ev (fun k => laws_sameTones.f k a a) true := by
 unfold laws_sameTones.f
 refine Ev.pos rfl ?_
 have := Ev.over z74 a (fun k (_ : Unit) i => laws_sameTones.l0 k a a i) (fun _ _ => true) (fun _ _ => True) (by
  intro s _
  refine Ev.succ ?_
  simp only [laws_sameTones.l0]
  exact Ev.neg (by omega) (Ev.now _)) (by
  intro s i rest _ hi hdr ih
  refine Ev.succ ?_
  simp only [laws_sameTones.l0]
  rw [w64 (x := (i : Int) + 1) (by omega) (by omega)]
  refine Ev.pos (by omega) (Ev.pos (by omega) (Ev.pos (by omega) (Ev.neg (by simp) (ih () trivial))))) 0 () (Nat.zero_le _) trivial
 simpa using this
theorem sameEntry_ev (e : S26) (ha : e.f2.length ≤ 1000000000000) : Ev (fun k => laws_sameEntry.f k e.f0 e.f1 e.f2 e.f0 e.f1 e.f2) true := by
 unfold laws_sameEntry.f
 exact Ev.pos rfl (Ev.pos rfl (Ev.bind (sameTones_ev e.f2 ha) (Ev.now _)))
theorem sameEntries_ev (a : List S26) (ha : a.length ≤ 1000000000) (hz : entSz a = true) : Ev (fun k => laws_sameEntries.f k a a) true := by
 unfold laws_sameEntries.f
 refine Ev.pos rfl ?_
 have key : ∀ d i : Nat, i + d = a.length → Ev (fun n => laws_sameEntries.l0 n a a (i : Int)) true := by
  intro d
  induction d with
  | zero =>
   intro i hi
   refine Ev.succ ?_
   simp only [laws_sameEntries.l0]
   exact Ev.neg (by omega) (Ev.now _)
  | succ d ih =>
   intro i hi
   have hlt : i < a.length := by omega
   have hg := entSz_all hz _ (rd_ent a i hlt)
   have ih := ih (i + 1) (by omega)
   rw [show ((i + 1 : Nat) : Int) = (i : Int) + 1 by omega] at ih
   refine Ev.succ ?_
   simp only [laws_sameEntries.l0]
   rw [w64 (x := (i : Int) + 1) (by omega) (by omega)]
   exact Ev.pos (by omega) (Ev.pos (by omega) (Ev.pos (by omega) (Ev.bind (sameEntry_ev _ (by omega)) (Ev.pos rfl ih))))
 exact key a.length 0 (by omega)

theorem ex_ite {α : Type} {c : Prop} [Decidable c] {f g : Nat → Option α} (h1 : c → ∃ r, Ev f r) (h2 : ¬ c → ∃ r, Ev g r) : ∃ r, Ev (fun k => if c then f k else g k) r := by
 by_cases h : c
 ·
  obtain ⟨r, hr⟩ := h1 h
  exact ⟨r, Ev.pos h hr⟩
 ·
  obtain ⟨r, hr⟩ := h2 h
  exact ⟨r, Ev.neg h hr⟩
theorem sameTones_ex (a b : List S74) (ha : a.length ≤ 1000000000000) : ∃ r, Ev (fun k => laws_sameTones.f k a b) r := by
 unfold laws_sameTones.f
 refine ex_ite (fun hl => ?_) (fun _ => ⟨_, Ev.now _⟩)
 have key : ∀ d i : Nat, i + d = a.length → ∃ r, Ev (fun n => laws_sameTones.l0 n a b (i : Int)) r := by
  intro d
  induction d with
  | zero =>
   intro i hi
   refine ⟨true, Ev.succ ?_⟩
   simp only [laws_sameTones.l0]
   exact Ev.neg (by omega) (Ev.now _)
  | succ d ih =>
   intro i hi
   obtain ⟨r, hr⟩ := ih (i + 1) (by omega)
   rw [show ((i + 1 : Nat) : Int) = (i : Int) + 1 by omega] at hr
   obtain ⟨s, hs⟩ : ∃ s, Ev (fun n => if (!(((rd_T74 a (i : Int)).f0) == ((rd_T74 b (i : Int)).f0)) || (!(((rd_T74 a (i : Int)).f1) == ((rd_T74 b (i : Int)).f1)))) = true then (some false) else (laws_sameTones.l0 n a b ((i : Int) + 1))) s := ex_ite (fun _ => ⟨_, Ev.now _⟩) (fun _ => ⟨r, hr⟩)
   refine ⟨s, Ev.succ ?_⟩
   simp only [laws_sameTones.l0]
   rw [w64 (x := (i : Int) + 1) (by omega) (by omega)]
   exact Ev.pos (by omega) (Ev.pos (by omega) (Ev.pos (by omega) hs))
 exact key a.length 0 (by omega)
theorem sameEntry_ex (x e : S26) (ha : x.f2.length ≤ 1000000000000) : ∃ r, Ev (fun k => laws_sameEntry.f k x.f0 x.f1 x.f2 e.f0 e.f1 e.f2) r := by
 unfold laws_sameEntry.f
 refine ex_ite (fun _ => ex_ite (fun _ => ?_) (fun _ => ⟨_, Ev.now _⟩)) (fun _ => ⟨_, Ev.now _⟩)
 obtain ⟨r, hr⟩ := sameTones_ex x.f2 e.f2 ha
 exact ⟨r, Ev.bind hr (Ev.now _)⟩

theorem FnTonaryAdd_core (l0 : List Int) (hw : ∀ x ∈ l0, (Lit.int .u8 x).wf = true) : ∃ k, laws_FnTonaryAdd.f k l0 = some true := by
 have key : Ev (fun k => laws_FnTonaryAdd.f k l0) true := by
  unfold laws_FnTonaryAdd.f
  by_cases c0 : (l0.length : Int) > 1048576
  ·
   exact Ev.pos c0 (Ev.now _)
  refine Ev.neg c0 ?_
  obtain ⟨⟨L, nm, mode, st⟩, hd, hL, he⟩ := drawTonAdd_ev l0 hw
  have hL : tonB 6 L := hL
  have he : entB ⟨nm, mode, st⟩ := he
  have hLl := hL.1
  have hz := hL.sz
  have heb : nm.size ≤ 20 ∧ st.length ≤ 20 := he
  have heb' : nm.size ≤ 9000000000000000 ∧ st.length ≤ 1000000000000 := by omega
  have hI : ∀ X : List S26, entSz X = true → impl_TonaryAdd.f X nm mode st = some (tonAdd X ⟨nm, mode, st⟩) := fun X h => if_pos ⟨h, heb'.1, heb'.2⟩
  have hS := spec_TonaryAdd_ev L ⟨nm, mode, st⟩ (by omega) hz heb'
  obtain ⟨⟨O, ok⟩, hO⟩ : ∃ r, tonAdd L ⟨nm, mode, st⟩ = r := ⟨_, rfl⟩
  have hOB : tonB 7 O := by have h1 := hL.add he; rw [hO] at h1; exact h1
  have hi := hI L hz
  rw [hO] at hi hS
  have hOl := hOB.1
  have hOz := hOB.sz
  have hsame := sameEntries_ev O (by omega) hOz
  have hsameL := sameEntries_ev L (by omega) hz
  refine Ev.bind hd (Ev.conb hi (Ev.bind hS ?_))
  refine Ev.neg (by simp) (Ev.bind hsame (Ev.pos rfl ?_))
  refine Ev.succ ?_
  simp only [laws_FnTonaryAdd.j0]
  cases ok
  ·
   exact Ev.pos (by simp) (Ev.pos (by simp) (Ev.bind hsame (Ev.now _)))
  ·
   refine Ev.neg (by simp) ?_
   obtain ⟨hk, hkO, hOi⟩ := tonAdd_true hO
   have hd1 : impl_TonaryDrop.f O mode nm = some (L, true) := (if_pos hOz).trans (congrArg some (tonAdd_drop hO))
   have hd2 : impl_TonaryAdd.f O nm mode st = some ([], false) := (hI O hOz).trans (congrArg some (tonAdd_twice hO))
   have hf := impl_TonaryFind_ev O st (by omega) hOz heb'.2
   refine Ev.conb hd1 (Ev.conb hd2 (Ev.bind hf ?_))
   have hv : impl_TonaryValid.f O = some true := (if_pos hOz).trans (by rw [hkO])
   have hlen : O.length = L.length + 1 := by rw [hOi, insAt_len]
   have eok : entOk ⟨nm, mode, st⟩ = true := ((tonOk_iff O).1 hkO).2.1 _ (tonAdd_mem hO)
   have mok : melOk st = true := by
    unfold entOk at eok
    simp only [Bool.and_eq_true] at eok
    exact eok.2.2.2.2
   have hfo : tonFind O st = tfFrom st 0 O := by
    unfold tonFind
    rw [hkO, mok, if_pos (show (true && true) = true from rfl)]
   obtain ⟨j, hj1, hj2, hj3⟩ := tfFrom_has (m := st) O 0 ⟨nm, mode, st⟩ (tonAdd_mem hO) (tfHit_self eok)
   have hall : ∀ x ∈ tonFind O st, 0 ≤ x ∧ x < (O.length : Int) := by
    rw [hfo]
    intro x hx
    have := tfFrom_lt O 0 x hx
    omega
   have hmem : (j : Int) ∈ tonFind O st := by
    rw [hfo]
    rw [Int.zero_add] at hj1
    exact hj1
   have hFl : (tonFind O st).length ≤ 7 := Nat.le_trans (tonFind_len O st) hOl
   generalize tonFind O st = F at hall hmem hFl
   have loop : ∀ (d i : Nat) (hit : Bool), i + d = F.length → (hit = true ∨ (j : Int) ∈ F.drop i) → Ev (fun n => laws_FnTonaryAdd.l0 n L O L true false F hit (i : Int) nm mode st) true := by
    intro d
    induction d with
    | zero =>
     intro i hit hi hh
     have hh : hit = true := by
      rcases hh with h | h
      ·
       exact h
      ·
       rw [List.drop_of_length_le (by omega)] at h; cases h
     subst hh
     refine Ev.succ ?_
     simp only [laws_FnTonaryAdd.l0]
     refine Ev.neg (by omega) (Ev.pos (by simp) (Ev.neg (by simp) (Ev.pos (by simp) (Ev.bind hsameL (Ev.pos (by simp) (Ev.conb hv (Ev.pos (by simp) (Ev.eqr (Ev.now _) ?_))))))))
     rw [w64 (by omega) (by omega), hlen]
     simp
    | succ d ih =>
     intro i hit hi hh
     have hlt : i < F.length := by omega
     have ih := fun hit => ih (i + 1) hit (by omega)
     rw [show ((i + 1 : Nat) : Int) = (i : Int) + 1 by omega] at ih
     refine Ev.succ ?_
     simp only [laws_FnTonaryAdd.l0]
     rw [w64 (x := (i : Int) + 1) (by omega) (by omega)]
     refine Ev.pos (by omega) ?_
     cases hit
     ·
      have hdr : F.drop i = rd F (i : Int) :: F.drop (i + 1) := by
       rw [rd_nat, List.drop_eq_getElem_cons hlt]
       simp [hlt]
      have hr : rd F (i : Int) ∈ F := List.mem_of_mem_drop (by rw [hdr]; exact List.mem_cons_self)
      obtain ⟨x0, x1⟩ := hall _ hr
      have hh : (j : Int) ∈ F.drop i := hh.resolve_left (by simp)
      rw [hdr] at hh
      refine Ev.neg (by simp) (Ev.pos (by omega) (Ev.pos x0 (Ev.pos x1 ?_)))
      by_cases hij : rd F (i : Int) = (j : Int)
      ·
       rw [hij, hj3]
       exact Ev.bind (sameEntry_ev ⟨nm, mode, st⟩ (by show st.length ≤ _; omega)) (ih true (.inl rfl))
      ·
       have hj : (j : Int) ∈ F.drop (i + 1) := (List.mem_cons.1 hh).resolve_left (fun h => hij h.symm)
       obtain ⟨m, hm⟩ : ∃ m : Nat, rd F (i : Int) = (m : Int) := ⟨(rd F (i : Int)).toNat, by omega⟩
       rw [hm] at x1 ⊢
       have hg := entSz_all hOz _ (rd_ent O m (by omega))
       obtain ⟨r, hr2⟩ := sameEntry_ex (rd_T26 O (m : Int)) ⟨nm, mode, st⟩ (by omega)
       exact Ev.bind hr2 (ih r (.inr hj))
     ·
      exact Ev.pos (by simp) (ih true (.inl rfl))
   exact loop F.length 0 false (by omega) (.inr (by rw [List.drop_zero]; exact hmem))
 exact Ev.rounds key
theorem FnTonaryAdd_walk (l0 : List Int) (A0 : Option Addr) (c0 : Nat) (w : World) (ht : DTab w) (hr0 : Kd.C (Kd.int .u8) w A0 l0.length l0) (hc0 : l0.length ≤ c0) (hw0 : ∀ x ∈ l0, (Lit.int .u8 x).wf = true) (hm0 : l0.length ≤ maxLen) :
 Calls Tryd.prog 3 #[.slice A0 l0.length c0] w fun e w' => e = .returned (.bool true) ∧ Below w.heap.size w w' := by
 obtain ⟨k, h⟩ := FnTonaryAdd_core l0 hw0
 exact laws_FnTonaryAdd.calls k A0 c0 l0 true w ht hr0 hc0 rfl h

def Opn {α : Type} (P : Program) (t : TypeId) (d : Kd α) (ok : α → Prop) : Prop :=
 P.cellsOf t = d.sz ∧ ∀ {H : Type} (enc : TypeId × Value → H) (w : World) (base : Nat) (held : Bool) (fuel : Nat) (cs : List Value) (x : DataW H × List MemPlace), DataW.trod enc P w base (fun _ => true) held fuel t cs = some x → ∃ p, d.K w p cs ∧ ok p
theorem opn_int {P : Program} {t : TypeId} (k : IntKind) (ht : P.underlying t = some (.int k)) (hc : P.cellsOf t = 1) : Opn P t (Kd.int k) (fun n => (Lit.int k n).wf = true) :=
 ⟨hc, fun enc w base held fuel cs x h => by obtain ⟨n, rfl, _, hw⟩ := DataW.trod_int ht h; exact ⟨n, rfl, hw⟩⟩
theorem opn_slice {α : Type} {P : Program} {t e : TypeId} {d : Kd α} {ok : α → Prop} (ht : P.underlying t = some (.slice e)) (hc : P.cellsOf t = 1) (he : Opn P e d ok) : Opn P t (Kd.slice e d) (fun l => (∀ x ∈ l, ok x) ∧ l.length ≤ maxLen) := by
 refine ⟨hc, fun enc w base held fuel cs x h => ?_⟩
 rcases Go.Deep.open_slice ht h with ⟨rfl, _⟩ | ⟨a, len, cap, m, n, D, Pl, rfl, _, hl, hm, hmm, _, hi⟩
 ·
  exact ⟨[], ⟨none, 0, rfl, Nat.le_refl _, rfl, by simp, fun h => by simp at h⟩, by simp, by simp⟩
 ·
  have hmc : m = cap := by simpa using hmm
  clear hmm
  have key : ∀ k, k ≤ len → ∃ l : List α, l.length = k ∧ (∀ x ∈ l, ok x) ∧ ∀ j p, l[j]? = some p → ∃ c, c.length = d.sz ∧ d.K w p c ∧ ∀ i u, c[i]? = some u → w.cell? (a.add (j * d.sz + i)) = some u := by
   intro k
   induction k with
   | zero => intro _; exact ⟨[], rfl, by simp, by simp⟩
   | succ k ih =>
    intro hk
    obtain ⟨l, hll, hlo, hlc⟩ := ih (by omega)
    obtain ⟨cs', hcs, ht'⟩ := hi k (by omega)
    rw [he.1] at hcs
    obtain ⟨p, hp, hop⟩ := he.2 enc w base held n cs' _ ht'
    obtain ⟨_, hcl, hat⟩ := World.cells?_some hcs
    refine ⟨l ++ [p], by simp [hll], ?_, ?_⟩
    ·
     intro x hx
     rcases List.mem_append.1 hx with hx | hx
     ·
      exact hlo x hx
     ·
      rw [List.mem_singleton.1 hx]; exact hop
    ·
     intro j q hq
     by_cases hj : j < l.length
     ·
      rw [List.getElem?_append_left hj] at hq
      exact hlc j q hq
     ·
      have hj2 : j = l.length := by
       have := (List.getElem?_eq_some_iff.1 hq).1
       simp at this; omega
      subst hj2
      rw [List.getElem?_append_right (Nat.le_refl _)] at hq
      simp at hq
      subst hq
      refine ⟨cs', hcl, hp, fun i u hu => ?_⟩
      have hil : i < d.sz := by rw [← hcl]; exact (List.getElem?_eq_some_iff.1 hu).1
      rw [hll, ← Go.Deep.add_add, hat i hil, hu]
  obtain ⟨l, hll, hlo, hlc⟩ := key len (Nat.le_refl _)
  subst hll
  exact ⟨l, ⟨some a, cap, rfl, hl, rfl, by unfold maxLen at hm; omega, fun _ => ⟨a, rfl, hlc⟩⟩, hlo, by omega⟩
/-- A slice argument. -/
theorem opn_arg {α : Type} {P : Program} {t e : TypeId} {d : Kd α} {ok : List α → Prop} (h : Opn P t (Kd.slice e d) ok) {H : Type} {enc : TypeId × Value → H} {w : World} {base : Nat} {held : Bool} {a : Option Addr} {len cap : Nat} {x : DataW H} {p : List MemPlace} (hr : DataW.Trod enc P w base (fun _ => true) held t (.slice a len cap) x p) :
 ∃ l : List α, len = l.length ∧ l.length ≤ cap ∧ d.C w a l.length l ∧ ok l := by
 obtain ⟨fuel, hf⟩ := hr
 obtain ⟨l, ⟨A, c, he, hc, hC⟩, ho⟩ := h.2 enc w base held fuel _ _ hf
 simp [Value.cells] at he
 obtain ⟨rfl, rfl, rfl⟩ := he
 exact ⟨l, rfl, hc, hC, ho⟩

end Go.Proofs.YtknfnmdfdkdipaaDoor.Pure
