/- Lemmas for the law FnExactTonaryJoin. -/
import Derived.Test.YtmacedbpdhkagaaDoorSFnExactTonaryJoins3
namespace Go.Proofs.YtmacedbpdhkagaaDoor.PFnExactTonaryJoin
open Go.RowKit Go.Proofs.YtmacedbpdhkagaaDoorW.PrintWords Go.Proofs.YtmacedbpdhkagaaDoorW.PrintLast Go.Proofs.YtmacedbpdhkagaaDoorW.PrintMore
attribute [local go_sem] max2_int min2_int max_two min_two max_three min_three max_four min_four   -- for this text's walks alone
set_option linter.unusedVariables false
set_option linter.unusedSimpArgs false

def laws_eqEntry.f (k : Nat) (a0_0 : ByteArray) (a0_1 : Int) (l0_2 : List (S90)) (a1_0 : ByteArray) (a1_1 : Int) (l1_2 : List (S90)) : Option (Bool) := if a0_0.toList = a1_0.toList then (if a0_1 = a1_1 then ((laws_eqToneS.f k l0_2 l1_2).bind fun t267 => (if t267 = true then (some true) else (some false))) else (some false)) else (some false)
set_option maxHeartbeats 8000000 in
set_option maxRecDepth 100000 in
theorem laws_eqEntry.calls (k : Nat) (a0_0 : ByteArray) (a0_1 : Int) (A0_2 : Option Addr) (c0_2 : Nat) (l0_2 : List (S90)) (a1_0 : ByteArray) (a1_1 : Int) (A1_2 : Option Addr) (c1_2 : Nat) (l1_2 : List (S90)) (r : Bool) (w : World) (hr0_2 : Kd.C k90 w A0_2 l0_2.length l0_2) (hc0_2 : l0_2.length ≤ c0_2) (hr1_2 : Kd.C k90 w A1_2 l1_2.length l1_2) (hc1_2 : l1_2.length ≤ c1_2) (h : laws_eqEntry.f k a0_0 a0_1 l0_2 a1_0 a1_1 l1_2 = some r) :
 Calls Tryd.prog 46 #[.agg #[.string a0_0, .int .i64 a0_1, .slice A0_2 l0_2.length c0_2], .agg #[.string a1_0, .int .i64 a1_1, .slice A1_2 l1_2.length c1_2]] w fun e w' => e = .returned (.bool r) ∧ Below w.heap.size w w' := by
 have hu38 := Tryd.underlying38; have HR0_2 := Aside0.mk hr0_2; have HC0_2 := Aside0.mk hc0_2; clear hr0_2 hc0_2; have HR1_2 := Aside0.mk hr1_2; have HC1_2 := Aside0.mk hc1_2; clear hr1_2 hc1_2; have HB := Aside0.mk (Below.refl w.heap.size w); have H : (if a0_0.toList = a1_0.toList then (if a0_1 = a1_1 then ((laws_eqToneS.f k l0_2 l1_2).bind fun t267 => (if t267 = true then (some true) else (some false))) else (some false)) else (some false)) = some r := h; clear h; by_cases c3 : a0_0.toList = a1_0.toList
 ·
  rw [if_pos c3] at H; have c3b0 : (a0_0.toList == a1_0.toList) = true := beq_iff_eq.mpr c3; have c3b1 : (a0_0.toList != a1_0.toList) = false := bne_eq_false_iff_eq.mpr c3; clear c3; by_cases c4 : a0_1 = a1_1
  ·
   rw [if_pos c4] at H; have c4b0 : (a0_1 == a1_1) = true := beq_iff_eq.mpr c4; have c4b1 : (a0_1 != a1_1) = false := bne_eq_false_iff_eq.mpr c4; clear c4; replace H := Option.bind_eq_some_iff.mp H; obtain ⟨t267, A50, H⟩ := H; replace H : (if t267 = true then (some true) else (some false)) = some r := H; have A5 := Aside0.mk A50; clear A50; by_cases c6 : t267 = true
   ·
    subst c6; have H1 : (some true) = some r := by rw [if_pos rfl] at H; exact H
    clear H; have H := H1; clear H1; obtain rfl := Option.some.inj H; go_enter Tryd.func46, Tryd.ntmps46
    go_wp2_with (first | ((with_reducible refine gate_dst (N := 2) rfl ?_); refine box_event ?hg (N := 2) ?hd (cs := #[.string a0_0, .int .i64 a0_1, .slice A0_2 l0_2.length c0_2]) (t := 38) ?hr ?_; (case hd => rfl); (case hg => rfl); (case hr => first | (go_simp; done) | (go_simp; rfl)); intro gb265 hg w7 hbox hb; have n0_ := Aside0.mk (below_step (by repeat (first | (with_reducible first | exact HB.out | apply below_alloc | apply pw_below_drewN | apply below_drew1) | exact HB.out)) hb); have n1_ := Aside0.mk (hbox); have n2_ := Aside0.mk ((by rw [hg]; exact (below_size (by repeat (first | (with_reducible first | exact HB.out | apply below_alloc | apply pw_below_drewN | apply below_drew1) | exact HB.out))) : w.heap.size ≤ gb265)); have n3_ := Aside0.mk ((by rw [hg]; exact (below_size (by repeat (first | (with_reducible first | exact HB.out | apply below_alloc | apply pw_below_drewN | apply below_drew1) | exact HB.out))) : w.heap.size ≤ gb265)); clear HB; have HB := n0_; have BK265 := n1_; have GW265 := n2_; have GE265 := n3_; clear n0_ n1_ n2_ n3_; clear hb hbox hg) | ((with_reducible refine gate_dst (N := 3) rfl ?_); refine box_event ?hg (N := 3) ?hd (cs := #[.string a1_0, .int .i64 a1_1, .slice A1_2 l1_2.length c1_2]) (t := 38) ?hr ?_; (case hd => rfl); (case hg => rfl); (case hr => first | (go_simp; done) | (go_simp; rfl)); intro gb266 hg w8 hbox hb; have n0_ := Aside0.mk (blk_below (g := gb265) (o := .cells #[.string a0_0, .int .i64 a0_1, .slice A0_2 l0_2.length c0_2] 38 (0, 0)) (by (with_reducible repeat (first | refine blk_drewN ?_ _ | refine blk_drew ?_ | refine blk_alloc ?_ _)); exact BK265.out) hb); have n1_ := Aside0.mk (below_step (by repeat (first | (with_reducible first | exact HB.out | apply below_alloc | apply pw_below_drewN | apply below_drew1 | refine below_set ?_ GE265.out) | exact HB.out)) hb); have n2_ := Aside0.mk (hbox); have n3_ := Aside0.mk ((by rw [hg]; exact (below_size (by repeat (first | (with_reducible first | exact HB.out | apply below_alloc | apply pw_below_drewN | apply below_drew1 | refine below_set ?_ GE265.out) | exact HB.out))) : w.heap.size ≤ gb266)); have n4_ := Aside0.mk ((by rw [hg]; exact (below_size (by repeat (first | (with_reducible first | exact HB.out | apply below_alloc | apply pw_below_drewN | apply below_drew1 | refine below_set ?_ GE265.out) | exact HB.out))) : w.heap.size ≤ gb266)); have n5_ := Aside0.mk ((by rw [hg]; exact Nat.ne_of_lt (blk_lt (g := gb265) (o := .cells #[.string a0_0, .int .i64 a0_1, .slice A0_2 l0_2.length c0_2] 38 (0, 0)) (by (with_reducible repeat (first | refine blk_drewN ?_ _ | refine blk_drew ?_ | refine blk_alloc ?_ _)); exact BK265.out)) : gb265 ≠ gb266)); have n6_ := Aside0.mk ((by rw [hg]; exact Nat.ne_of_gt (blk_lt (g := gb265) (o := .cells #[.string a0_0, .int .i64 a0_1, .slice A0_2 l0_2.length c0_2] 38 (0, 0)) (by (with_reducible repeat (first | refine blk_drewN ?_ _ | refine blk_drew ?_ | refine blk_alloc ?_ _)); exact BK265.out)) : gb266 ≠ gb265)); clear BK265; clear HB; have BK265 := n0_; have HB := n1_; have BK266 := n2_; have GW266 := n3_; have GE266 := n4_; have NB265_266 := n5_; have NB266_265 := n6_; clear n0_ n1_ n2_ n3_ n4_ n5_ n6_; clear hb hbox hg; have hnb9 := NB265_266.out; have hnc9 := NB266_265.out; have hcz10_0 : w8.cell? ⟨gb265, 0, none⟩ = some (.string a0_0) := (blk_cell BK265.out 0).trans rfl; have hcz10_1 : w8.cell? ⟨gb265, 1, none⟩ = some (.int .i64 a0_1) := (blk_cell BK265.out 1).trans rfl; have hcz10_2 : w8.cell? ⟨gb265, 2, none⟩ = some (.slice A0_2 l0_2.length c0_2) := (blk_cell BK265.out 2).trans rfl; have hfz10_0 := blk_frozen BK265.out 0; have hfz10_1 := blk_frozen BK265.out 1; have hfz10_2 := blk_frozen BK265.out 2; have hcz11_0 : w8.cell? ⟨gb266, 0, none⟩ = some (.string a1_0) := (blk_cell BK266.out 0).trans rfl; have hcz11_1 : w8.cell? ⟨gb266, 1, none⟩ = some (.int .i64 a1_1) := (blk_cell BK266.out 1).trans rfl; have hcz11_2 : w8.cell? ⟨gb266, 2, none⟩ = some (.slice A1_2 l1_2.length c1_2) := (blk_cell BK266.out 2).trans rfl; have hfz11_0 := blk_frozen BK266.out 0; have hfz11_1 := blk_frozen BK266.out 1; have hfz11_2 := blk_frozen BK266.out 2) | ((with_reducible refine gate_callee (f := 33) rfl ?_); refine goesL_ (some 19) rfl rfl Tryd.func33 (by kernel_rfl) rfl #[.slice A0_2 l0_2.length c0_2, .slice A1_2 l1_2.length c1_2] rfl (by (try simp only [List.map_toArray, List.map_cons, List.map_nil]); first | done | rfl | (simp only [List.length_drop, List.length_take]; rfl)) ?_; (with_reducible refine (laws_eqToneS.calls k _ _ l0_2 _ _ l1_2 true _ ?side1 ?side2 ?side3 ?side4 A5.out).mono ?_); (case side1 => repeat (first | exact (Kd.C_below HR0_2.out HB.out) | (with_reducible refine Kd.C_alloc ?_ _) | (with_reducible refine Kd.C_drewN ?_ _) | (with_reducible refine Kd.C_drew ?_))); (case side2 => exact HC0_2.out); (case side3 => repeat (first | exact (Kd.C_below HR1_2.out HB.out) | (with_reducible refine Kd.C_alloc ?_ _) | (with_reducible refine Kd.C_drewN ?_ _) | (with_reducible refine Kd.C_drew ?_))); (case side4 => exact HC1_2.out); rintro e w12 ⟨rfl, hb⟩; refine ⟨_, rfl, ?_⟩; have n0_ := Aside0.mk (blk_below (g := gb265) (o := .cells #[.string a0_0, .int .i64 a0_1, .slice A0_2 l0_2.length c0_2] 38 (0, 0)) (by (with_reducible repeat (first | refine blk_drewN ?_ _ | refine blk_drew ?_ | refine blk_alloc ?_ _)); exact BK265.out) hb); have n1_ := Aside0.mk (blk_below (g := gb266) (o := .cells #[.string a1_0, .int .i64 a1_1, .slice A1_2 l1_2.length c1_2] 38 (0, 0)) (by (with_reducible repeat (first | refine blk_drewN ?_ _ | refine blk_drew ?_ | refine blk_alloc ?_ _)); exact BK266.out) hb); have n2_ := Aside0.mk (below_step (by repeat (first | (with_reducible first | exact HB.out | apply below_alloc | apply pw_below_drewN | apply below_drew1 | refine below_set ?_ GE265.out | refine below_set ?_ GE266.out) | exact HB.out)) hb); clear BK265; clear BK266; clear HB; have BK265 := n0_; have BK266 := n1_; have HB := n2_; clear n0_ n1_ n2_; (try clear hb); (try clear hb2); (try clear hk); (try clear hi)))
    go_ret
    exact ⟨by first | rfl | (simp [errW_none, errW_some] <;> rfl) | (simp [*, errW_none, errW_some] <;> rfl), by repeat (first | (with_reducible first | exact HB.out | apply below_alloc | apply pw_below_drewN | apply below_drew1 | refine below_set ?_ GE265.out | refine below_set ?_ GE266.out) | exact HB.out)⟩
   ·
    replace c6 := Bool.eq_false_iff.mpr c6; subst c6; have H1 : (some false) = some r := by rw [if_neg (show ¬ (false = true) by decide)] at H; exact H
    clear H; have H := H1; clear H1; obtain rfl := Option.some.inj H; go_enter Tryd.func46, Tryd.ntmps46
    go_wp2_with (first | ((with_reducible refine gate_dst (N := 2) rfl ?_); refine box_event ?hg (N := 2) ?hd (cs := #[.string a0_0, .int .i64 a0_1, .slice A0_2 l0_2.length c0_2]) (t := 38) ?hr ?_; (case hd => rfl); (case hg => rfl); (case hr => first | (go_simp; done) | (go_simp; rfl)); intro gb265 hg w13 hbox hb; have n0_ := Aside0.mk (below_step (by repeat (first | (with_reducible first | exact HB.out | apply below_alloc | apply pw_below_drewN | apply below_drew1) | exact HB.out)) hb); have n1_ := Aside0.mk (hbox); have n2_ := Aside0.mk ((by rw [hg]; exact (below_size (by repeat (first | (with_reducible first | exact HB.out | apply below_alloc | apply pw_below_drewN | apply below_drew1) | exact HB.out))) : w.heap.size ≤ gb265)); have n3_ := Aside0.mk ((by rw [hg]; exact (below_size (by repeat (first | (with_reducible first | exact HB.out | apply below_alloc | apply pw_below_drewN | apply below_drew1) | exact HB.out))) : w.heap.size ≤ gb265)); clear HB; have HB := n0_; have BK265 := n1_; have GW265 := n2_; have GE265 := n3_; clear n0_ n1_ n2_ n3_; clear hb hbox hg) | ((with_reducible refine gate_dst (N := 3) rfl ?_); refine box_event ?hg (N := 3) ?hd (cs := #[.string a1_0, .int .i64 a1_1, .slice A1_2 l1_2.length c1_2]) (t := 38) ?hr ?_; (case hd => rfl); (case hg => rfl); (case hr => first | (go_simp; done) | (go_simp; rfl)); intro gb266 hg w14 hbox hb; have n0_ := Aside0.mk (blk_below (g := gb265) (o := .cells #[.string a0_0, .int .i64 a0_1, .slice A0_2 l0_2.length c0_2] 38 (0, 0)) (by (with_reducible repeat (first | refine blk_drewN ?_ _ | refine blk_drew ?_ | refine blk_alloc ?_ _)); exact BK265.out) hb); have n1_ := Aside0.mk (below_step (by repeat (first | (with_reducible first | exact HB.out | apply below_alloc | apply pw_below_drewN | apply below_drew1 | refine below_set ?_ GE265.out) | exact HB.out)) hb); have n2_ := Aside0.mk (hbox); have n3_ := Aside0.mk ((by rw [hg]; exact (below_size (by repeat (first | (with_reducible first | exact HB.out | apply below_alloc | apply pw_below_drewN | apply below_drew1 | refine below_set ?_ GE265.out) | exact HB.out))) : w.heap.size ≤ gb266)); have n4_ := Aside0.mk ((by rw [hg]; exact (below_size (by repeat (first | (with_reducible first | exact HB.out | apply below_alloc | apply pw_below_drewN | apply below_drew1 | refine below_set ?_ GE265.out) | exact HB.out))) : w.heap.size ≤ gb266)); have n5_ := Aside0.mk ((by rw [hg]; exact Nat.ne_of_lt (blk_lt (g := gb265) (o := .cells #[.string a0_0, .int .i64 a0_1, .slice A0_2 l0_2.length c0_2] 38 (0, 0)) (by (with_reducible repeat (first | refine blk_drewN ?_ _ | refine blk_drew ?_ | refine blk_alloc ?_ _)); exact BK265.out)) : gb265 ≠ gb266)); have n6_ := Aside0.mk ((by rw [hg]; exact Nat.ne_of_gt (blk_lt (g := gb265) (o := .cells #[.string a0_0, .int .i64 a0_1, .slice A0_2 l0_2.length c0_2] 38 (0, 0)) (by (with_reducible repeat (first | refine blk_drewN ?_ _ | refine blk_drew ?_ | refine blk_alloc ?_ _)); exact BK265.out)) : gb266 ≠ gb265)); clear BK265; clear HB; have BK265 := n0_; have HB := n1_; have BK266 := n2_; have GW266 := n3_; have GE266 := n4_; have NB265_266 := n5_; have NB266_265 := n6_; clear n0_ n1_ n2_ n3_ n4_ n5_ n6_; clear hb hbox hg; have hnb15 := NB265_266.out; have hnc15 := NB266_265.out; have hcz16_0 : w14.cell? ⟨gb265, 0, none⟩ = some (.string a0_0) := (blk_cell BK265.out 0).trans rfl; have hcz16_1 : w14.cell? ⟨gb265, 1, none⟩ = some (.int .i64 a0_1) := (blk_cell BK265.out 1).trans rfl; have hcz16_2 : w14.cell? ⟨gb265, 2, none⟩ = some (.slice A0_2 l0_2.length c0_2) := (blk_cell BK265.out 2).trans rfl; have hfz16_0 := blk_frozen BK265.out 0; have hfz16_1 := blk_frozen BK265.out 1; have hfz16_2 := blk_frozen BK265.out 2; have hcz17_0 : w14.cell? ⟨gb266, 0, none⟩ = some (.string a1_0) := (blk_cell BK266.out 0).trans rfl; have hcz17_1 : w14.cell? ⟨gb266, 1, none⟩ = some (.int .i64 a1_1) := (blk_cell BK266.out 1).trans rfl; have hcz17_2 : w14.cell? ⟨gb266, 2, none⟩ = some (.slice A1_2 l1_2.length c1_2) := (blk_cell BK266.out 2).trans rfl; have hfz17_0 := blk_frozen BK266.out 0; have hfz17_1 := blk_frozen BK266.out 1; have hfz17_2 := blk_frozen BK266.out 2) | ((with_reducible refine gate_callee (f := 33) rfl ?_); refine goesL_ (some 19) rfl rfl Tryd.func33 (by kernel_rfl) rfl #[.slice A0_2 l0_2.length c0_2, .slice A1_2 l1_2.length c1_2] rfl (by (try simp only [List.map_toArray, List.map_cons, List.map_nil]); first | done | rfl | (simp only [List.length_drop, List.length_take]; rfl)) ?_; (with_reducible refine (laws_eqToneS.calls k _ _ l0_2 _ _ l1_2 false _ ?side1 ?side2 ?side3 ?side4 A5.out).mono ?_); (case side1 => repeat (first | exact (Kd.C_below HR0_2.out HB.out) | (with_reducible refine Kd.C_alloc ?_ _) | (with_reducible refine Kd.C_drewN ?_ _) | (with_reducible refine Kd.C_drew ?_))); (case side2 => exact HC0_2.out); (case side3 => repeat (first | exact (Kd.C_below HR1_2.out HB.out) | (with_reducible refine Kd.C_alloc ?_ _) | (with_reducible refine Kd.C_drewN ?_ _) | (with_reducible refine Kd.C_drew ?_))); (case side4 => exact HC1_2.out); rintro e w18 ⟨rfl, hb⟩; refine ⟨_, rfl, ?_⟩; have n0_ := Aside0.mk (blk_below (g := gb265) (o := .cells #[.string a0_0, .int .i64 a0_1, .slice A0_2 l0_2.length c0_2] 38 (0, 0)) (by (with_reducible repeat (first | refine blk_drewN ?_ _ | refine blk_drew ?_ | refine blk_alloc ?_ _)); exact BK265.out) hb); have n1_ := Aside0.mk (blk_below (g := gb266) (o := .cells #[.string a1_0, .int .i64 a1_1, .slice A1_2 l1_2.length c1_2] 38 (0, 0)) (by (with_reducible repeat (first | refine blk_drewN ?_ _ | refine blk_drew ?_ | refine blk_alloc ?_ _)); exact BK266.out) hb); have n2_ := Aside0.mk (below_step (by repeat (first | (with_reducible first | exact HB.out | apply below_alloc | apply pw_below_drewN | apply below_drew1 | refine below_set ?_ GE265.out | refine below_set ?_ GE266.out) | exact HB.out)) hb); clear BK265; clear BK266; clear HB; have BK265 := n0_; have BK266 := n1_; have HB := n2_; clear n0_ n1_ n2_; (try clear hb); (try clear hb2); (try clear hk); (try clear hi)))
    go_ret
    exact ⟨by first | rfl | (simp [errW_none, errW_some] <;> rfl) | (simp [*, errW_none, errW_some] <;> rfl), by repeat (first | (with_reducible first | exact HB.out | apply below_alloc | apply pw_below_drewN | apply below_drew1 | refine below_set ?_ GE265.out | refine below_set ?_ GE266.out) | exact HB.out)⟩
  ·
   rw [if_neg c4] at H; have c4b0 : (a0_1 == a1_1) = false := beq_eq_false_iff_ne.mpr c4; have c4b1 : (a0_1 != a1_1) = true := bne_iff_ne.mpr c4; obtain rfl := Option.some.inj H; go_enter Tryd.func46, Tryd.ntmps46
   go_wp2_with (first | ((with_reducible refine gate_dst (N := 2) rfl ?_); refine box_event ?hg (N := 2) ?hd (cs := #[.string a0_0, .int .i64 a0_1, .slice A0_2 l0_2.length c0_2]) (t := 38) ?hr ?_; (case hd => rfl); (case hg => rfl); (case hr => first | (go_simp; done) | (go_simp; rfl)); intro gb265 hg w19 hbox hb; have n0_ := Aside0.mk (below_step (by repeat (first | (with_reducible first | exact HB.out | apply below_alloc | apply pw_below_drewN | apply below_drew1) | exact HB.out)) hb); have n1_ := Aside0.mk (hbox); have n2_ := Aside0.mk ((by rw [hg]; exact (below_size (by repeat (first | (with_reducible first | exact HB.out | apply below_alloc | apply pw_below_drewN | apply below_drew1) | exact HB.out))) : w.heap.size ≤ gb265)); have n3_ := Aside0.mk ((by rw [hg]; exact (below_size (by repeat (first | (with_reducible first | exact HB.out | apply below_alloc | apply pw_below_drewN | apply below_drew1) | exact HB.out))) : w.heap.size ≤ gb265)); clear HB; have HB := n0_; have BK265 := n1_; have GW265 := n2_; have GE265 := n3_; clear n0_ n1_ n2_ n3_; clear hb hbox hg) | ((with_reducible refine gate_dst (N := 3) rfl ?_); refine box_event ?hg (N := 3) ?hd (cs := #[.string a1_0, .int .i64 a1_1, .slice A1_2 l1_2.length c1_2]) (t := 38) ?hr ?_; (case hd => rfl); (case hg => rfl); (case hr => first | (go_simp; done) | (go_simp; rfl)); intro gb266 hg w20 hbox hb; have n0_ := Aside0.mk (blk_below (g := gb265) (o := .cells #[.string a0_0, .int .i64 a0_1, .slice A0_2 l0_2.length c0_2] 38 (0, 0)) (by (with_reducible repeat (first | refine blk_drewN ?_ _ | refine blk_drew ?_ | refine blk_alloc ?_ _)); exact BK265.out) hb); have n1_ := Aside0.mk (below_step (by repeat (first | (with_reducible first | exact HB.out | apply below_alloc | apply pw_below_drewN | apply below_drew1 | refine below_set ?_ GE265.out) | exact HB.out)) hb); have n2_ := Aside0.mk (hbox); have n3_ := Aside0.mk ((by rw [hg]; exact (below_size (by repeat (first | (with_reducible first | exact HB.out | apply below_alloc | apply pw_below_drewN | apply below_drew1 | refine below_set ?_ GE265.out) | exact HB.out))) : w.heap.size ≤ gb266)); have n4_ := Aside0.mk ((by rw [hg]; exact (below_size (by repeat (first | (with_reducible first | exact HB.out | apply below_alloc | apply pw_below_drewN | apply below_drew1 | refine below_set ?_ GE265.out) | exact HB.out))) : w.heap.size ≤ gb266)); have n5_ := Aside0.mk ((by rw [hg]; exact Nat.ne_of_lt (blk_lt (g := gb265) (o := .cells #[.string a0_0, .int .i64 a0_1, .slice A0_2 l0_2.length c0_2] 38 (0, 0)) (by (with_reducible repeat (first | refine blk_drewN ?_ _ | refine blk_drew ?_ | refine blk_alloc ?_ _)); exact BK265.out)) : gb265 ≠ gb266)); have n6_ := Aside0.mk ((by rw [hg]; exact Nat.ne_of_gt (blk_lt (g := gb265) (o := .cells #[.string a0_0, .int .i64 a0_1, .slice A0_2 l0_2.length c0_2] 38 (0, 0)) (by (with_reducible repeat (first | refine blk_drewN ?_ _ | refine blk_drew ?_ | refine blk_alloc ?_ _)); exact BK265.out)) : gb266 ≠ gb265)); clear BK265; clear HB; have BK265 := n0_; have HB := n1_; have BK266 := n2_; have GW266 := n3_; have GE266 := n4_; have NB265_266 := n5_; have NB266_265 := n6_; clear n0_ n1_ n2_ n3_ n4_ n5_ n6_; clear hb hbox hg; have hnb21 := NB265_266.out; have hnc21 := NB266_265.out; have hcz22_0 : w20.cell? ⟨gb265, 0, none⟩ = some (.string a0_0) := (blk_cell BK265.out 0).trans rfl; have hcz22_1 : w20.cell? ⟨gb265, 1, none⟩ = some (.int .i64 a0_1) := (blk_cell BK265.out 1).trans rfl; have hcz22_2 : w20.cell? ⟨gb265, 2, none⟩ = some (.slice A0_2 l0_2.length c0_2) := (blk_cell BK265.out 2).trans rfl; have hfz22_0 := blk_frozen BK265.out 0; have hfz22_1 := blk_frozen BK265.out 1; have hfz22_2 := blk_frozen BK265.out 2; have hcz23_0 : w20.cell? ⟨gb266, 0, none⟩ = some (.string a1_0) := (blk_cell BK266.out 0).trans rfl; have hcz23_1 : w20.cell? ⟨gb266, 1, none⟩ = some (.int .i64 a1_1) := (blk_cell BK266.out 1).trans rfl; have hcz23_2 : w20.cell? ⟨gb266, 2, none⟩ = some (.slice A1_2 l1_2.length c1_2) := (blk_cell BK266.out 2).trans rfl; have hfz23_0 := blk_frozen BK266.out 0; have hfz23_1 := blk_frozen BK266.out 1; have hfz23_2 := blk_frozen BK266.out 2))
   go_ret
   exact ⟨by first | rfl | (simp [errW_none, errW_some] <;> rfl) | (simp [*, errW_none, errW_some] <;> rfl), by repeat (first | (with_reducible first | exact HB.out | apply below_alloc | apply pw_below_drewN | apply below_drew1 | refine below_set ?_ GE265.out | refine below_set ?_ GE266.out) | exact HB.out)⟩
 ·
  rw [if_neg c3] at H; have c3b0 : (a0_0.toList == a1_0.toList) = false := beq_eq_false_iff_ne.mpr c3; have c3b1 : (a0_0.toList != a1_0.toList) = true := bne_iff_ne.mpr c3; obtain rfl := Option.some.inj H; go_enter Tryd.func46, Tryd.ntmps46
  go_wp2_with (first | ((with_reducible refine gate_dst (N := 2) rfl ?_); refine box_event ?hg (N := 2) ?hd (cs := #[.string a0_0, .int .i64 a0_1, .slice A0_2 l0_2.length c0_2]) (t := 38) ?hr ?_; (case hd => rfl); (case hg => rfl); (case hr => first | (go_simp; done) | (go_simp; rfl)); intro gb265 hg w24 hbox hb; have n0_ := Aside0.mk (below_step (by repeat (first | (with_reducible first | exact HB.out | apply below_alloc | apply pw_below_drewN | apply below_drew1) | exact HB.out)) hb); have n1_ := Aside0.mk (hbox); have n2_ := Aside0.mk ((by rw [hg]; exact (below_size (by repeat (first | (with_reducible first | exact HB.out | apply below_alloc | apply pw_below_drewN | apply below_drew1) | exact HB.out))) : w.heap.size ≤ gb265)); have n3_ := Aside0.mk ((by rw [hg]; exact (below_size (by repeat (first | (with_reducible first | exact HB.out | apply below_alloc | apply pw_below_drewN | apply below_drew1) | exact HB.out))) : w.heap.size ≤ gb265)); clear HB; have HB := n0_; have BK265 := n1_; have GW265 := n2_; have GE265 := n3_; clear n0_ n1_ n2_ n3_; clear hb hbox hg) | ((with_reducible refine gate_dst (N := 3) rfl ?_); refine box_event ?hg (N := 3) ?hd (cs := #[.string a1_0, .int .i64 a1_1, .slice A1_2 l1_2.length c1_2]) (t := 38) ?hr ?_; (case hd => rfl); (case hg => rfl); (case hr => first | (go_simp; done) | (go_simp; rfl)); intro gb266 hg w25 hbox hb; have n0_ := Aside0.mk (blk_below (g := gb265) (o := .cells #[.string a0_0, .int .i64 a0_1, .slice A0_2 l0_2.length c0_2] 38 (0, 0)) (by (with_reducible repeat (first | refine blk_drewN ?_ _ | refine blk_drew ?_ | refine blk_alloc ?_ _)); exact BK265.out) hb); have n1_ := Aside0.mk (below_step (by repeat (first | (with_reducible first | exact HB.out | apply below_alloc | apply pw_below_drewN | apply below_drew1 | refine below_set ?_ GE265.out) | exact HB.out)) hb); have n2_ := Aside0.mk (hbox); have n3_ := Aside0.mk ((by rw [hg]; exact (below_size (by repeat (first | (with_reducible first | exact HB.out | apply below_alloc | apply pw_below_drewN | apply below_drew1 | refine below_set ?_ GE265.out) | exact HB.out))) : w.heap.size ≤ gb266)); have n4_ := Aside0.mk ((by rw [hg]; exact (below_size (by repeat (first | (with_reducible first | exact HB.out | apply below_alloc | apply pw_below_drewN | apply below_drew1 | refine below_set ?_ GE265.out) | exact HB.out))) : w.heap.size ≤ gb266)); have n5_ := Aside0.mk ((by rw [hg]; exact Nat.ne_of_lt (blk_lt (g := gb265) (o := .cells #[.string a0_0, .int .i64 a0_1, .slice A0_2 l0_2.length c0_2] 38 (0, 0)) (by (with_reducible repeat (first | refine blk_drewN ?_ _ | refine blk_drew ?_ | refine blk_alloc ?_ _)); exact BK265.out)) : gb265 ≠ gb266)); have n6_ := Aside0.mk ((by rw [hg]; exact Nat.ne_of_gt (blk_lt (g := gb265) (o := .cells #[.string a0_0, .int .i64 a0_1, .slice A0_2 l0_2.length c0_2] 38 (0, 0)) (by (with_reducible repeat (first | refine blk_drewN ?_ _ | refine blk_drew ?_ | refine blk_alloc ?_ _)); exact BK265.out)) : gb266 ≠ gb265)); clear BK265; clear HB; have BK265 := n0_; have HB := n1_; have BK266 := n2_; have GW266 := n3_; have GE266 := n4_; have NB265_266 := n5_; have NB266_265 := n6_; clear n0_ n1_ n2_ n3_ n4_ n5_ n6_; clear hb hbox hg; have hnb26 := NB265_266.out; have hnc26 := NB266_265.out; have hcz27_0 : w25.cell? ⟨gb265, 0, none⟩ = some (.string a0_0) := (blk_cell BK265.out 0).trans rfl; have hcz27_1 : w25.cell? ⟨gb265, 1, none⟩ = some (.int .i64 a0_1) := (blk_cell BK265.out 1).trans rfl; have hcz27_2 : w25.cell? ⟨gb265, 2, none⟩ = some (.slice A0_2 l0_2.length c0_2) := (blk_cell BK265.out 2).trans rfl; have hfz27_0 := blk_frozen BK265.out 0; have hfz27_1 := blk_frozen BK265.out 1; have hfz27_2 := blk_frozen BK265.out 2; have hcz28_0 : w25.cell? ⟨gb266, 0, none⟩ = some (.string a1_0) := (blk_cell BK266.out 0).trans rfl; have hcz28_1 : w25.cell? ⟨gb266, 1, none⟩ = some (.int .i64 a1_1) := (blk_cell BK266.out 1).trans rfl; have hcz28_2 : w25.cell? ⟨gb266, 2, none⟩ = some (.slice A1_2 l1_2.length c1_2) := (blk_cell BK266.out 2).trans rfl; have hfz28_0 := blk_frozen BK266.out 0; have hfz28_1 := blk_frozen BK266.out 1; have hfz28_2 := blk_frozen BK266.out 2))
  go_ret
  exact ⟨by first | rfl | (simp [errW_none, errW_some] <;> rfl) | (simp [*, errW_none, errW_some] <;> rfl), by repeat (first | (with_reducible first | exact HB.out | apply below_alloc | apply pw_below_drewN | apply below_drew1 | refine below_set ?_ GE265.out | refine below_set ?_ GE266.out) | exact HB.out)⟩

end Go.Proofs.YtmacedbpdhkagaaDoor.PFnExactTonaryJoin
namespace Go.Proofs.YtmacedbpdhkagaaDoor.PFnExactTonaryJoin
open Go.RowKit Go.Proofs.YtmacedbpdhkagaaDoorW.PrintWords Go.Proofs.YtmacedbpdhkagaaDoorW.PrintLast Go.Proofs.YtmacedbpdhkagaaDoorW.PrintMore
attribute [local go_sem] max2_int min2_int max_two min_two max_three min_three max_four min_four   -- for this text's walks alone
set_option linter.unusedVariables false
set_option linter.unusedSimpArgs false

def laws_eqEntryS.l0 : Nat → List (S38) → List (S38) → Int → Option (Bool)
 | 0, _, _, _ => none
 | k + 1, x0, x1, x5 => if x5 < (x0.length : Int) then (if 0 ≤ x5 then (if x5 < (x1.length : Int) then ((laws_eqEntry.f k ((rd_T38 x0 x5).f0) ((rd_T38 x0 x5).f1) ((rd_T38 x0 x5).f2) ((rd_T38 x1 x5).f0) ((rd_T38 x1 x5).f1) ((rd_T38 x1 x5).f2)).bind fun t270 => (if t270 = true then (laws_eqEntryS.l0 k x0 x1 (wrap64 (x5 + 1))) else (some false))) else (none)) else (none)) else (some true)
def laws_eqEntryS.f (k : Nat) (l0 : List (S38)) (l1 : List (S38)) : Option (Bool) := if (l0.length : Int) = (l1.length : Int) then (laws_eqEntryS.l0 k l0 l1 0) else (some false)
def laws_eqEntryS.T6 : Bool × List (List Nat × List Nat) := (true, [([], []), ([], []), ([0, 1], [0, 1]), ([2], [2]), ([], []), ([], []), ([4, 5], [4, 5]), ([6], [6]), ([3, 7], [3, 7]), ([8], [8])])
def laws_eqEntryS.B6 : List Nat := [0, 0, 3, 7, 0, 0, 48, 112, 255, 511]
theorem laws_eqEntryS.tab6 : rtab .any (opsOf Tryd.f17 6) = laws_eqEntryS.T6 := by kernel_rfl
theorem laws_eqEntryS.bits6 : waitsOk laws_eqEntryS.T6.2 laws_eqEntryS.B6 = true := by kernel_rfl
set_option maxHeartbeats 8000000 in
set_option maxRecDepth 100000 in
theorem laws_eqEntryS.calls (k : Nat) (A0 : Option Addr) (c0 : Nat) (l0 : List (S38)) (A1 : Option Addr) (c1 : Nat) (l1 : List (S38)) (r : Bool) (w : World) (hr0 : Kd.C k38 w A0 l0.length l0) (hc0 : l0.length ≤ c0) (hr1 : Kd.C k38 w A1 l1.length l1) (hc1 : l1.length ≤ c1) (h : laws_eqEntryS.f k l0 l1 = some r) :
 Calls Tryd.prog 17 #[.slice A0 l0.length c0, .slice A1 l1.length c1] w fun e w' => e = .returned (.bool r) ∧ Below w.heap.size w w' := by
 have hu38 := Tryd.underlying38; have HR0 := Aside0.mk hr0; have HC0 := Aside0.mk hc0; clear hr0 hc0; have HR1 := Aside0.mk hr1; have HC1 := Aside0.mk hc1; clear hr1 hc1; have HB := Aside0.mk (Below.refl w.heap.size w); have H : (if (l0.length : Int) = (l1.length : Int) then (laws_eqEntryS.l0 k l0 l1 0) else (some false)) = some r := h; clear h; by_cases c3 : (l0.length : Int) = (l1.length : Int)
 ·
  rw [if_pos c3] at H; have c3b0 : ((l0.length : Int) == (l1.length : Int)) = true := beq_iff_eq.mpr c3; have c3b1 : ((l0.length : Int) != (l1.length : Int)) = false := bne_eq_false_iff_eq.mpr c3; have c3b2 : (l0.length == l1.length) = true := by first | simpa using c3 | (simp at c3 ⊢; omega)
  clear c3; have H' := Aside0.mk H; clear H; go_enter Tryd.func17, Tryd.ntmps17
  go_wp2; go_loopg [5] k (fun kq v5 w' => ∃ (x5_1 : Int), v5 = .int .i64 x5_1 ∧ Aside0 (laws_eqEntryS.l0 kq l0 l1 x5_1 = some r) ∧ Aside0 (kq ≤ k) ∧ Aside0 (Below w.heap.size w w'))
  case atStart => exact ⟨(0), (by first | rfl | (simp; done) | (simp [*]; done)), H', ⟨Nat.le_refl _⟩, ⟨by repeat (first | (with_reducible first | exact HB.out | apply below_alloc | apply pw_below_drewN | apply below_drew1) | exact HB.out)⟩⟩
  case round =>
   clear H'; try clear c1
   try clear p2
   try clear c3
   try clear c3b0
   try clear c3b1
   try clear c3b2
   obtain ⟨x5_1, rfl, HA, HK1, HB⟩ := hrel; cases gk with
   | zero => exact absurd HA.out (by simp [laws_eqEntryS.l0])
   | succ k1 =>
    have H := HA.out; clear HA; simp only [laws_eqEntryS.l0] at H; by_cases c4 : x5_1 < (l0.length : Int)
    ·
     rw [if_pos c4] at H; have c4b0 : decide (x5_1 < (l0.length : Int)) = true := decide_eq_true c4; clear c4; by_cases c5 : 0 ≤ x5_1
     ·
      rw [if_pos c5] at H; have c5b0 : decide (0 ≤ x5_1) = true := decide_eq_true c5; clear c5; by_cases c6 : x5_1 < (l1.length : Int)
      ·
       rw [if_pos c6] at H; have c6b0 : decide (x5_1 < (l1.length : Int)) = true := decide_eq_true c6; clear c6; replace H := Option.bind_eq_some_iff.mp H; obtain ⟨t270, A70, H⟩ := H; replace H : (if t270 = true then (laws_eqEntryS.l0 k1 l0 l1 (wrap64 (x5_1 + 1))) else (some false)) = some r := H; have A7 := Aside0.mk A70; clear A70; by_cases c8 : t270 = true
       ·
        subst c8; have H1 : (laws_eqEntryS.l0 k1 l0 l1 (wrap64 (x5_1 + 1))) = some r := by rw [if_pos rfl] at H; exact H
        clear H; have H := H1; clear H1; have H' := Aside0.mk H; clear H; try go_wp2
        have n0_ := Aside0.mk (below_drew1 HB.out); clear HB; have HB := n0_; clear n0_; have p268 : 0 ≤ (x5_1 : Int) := of_decide_eq_true (by first | (with_reducible assumption) | assumption); have q268 : x5_1 < (l0.length : Int) := of_decide_eq_true (by first | (with_reducible assumption) | assumption); obtain ⟨ad268, A268_2, c268_2, e268, hx268_0, hx268_1, hx268_2, hl268_2, hi268_2⟩ := at_T38 HR0.out x5_1 p268 q268; have hw268_2 := hx268_2; have hw268_1 := hx268_1; have hw268_0 := hx268_0; cases e268; replace hx268_0 := (HB.out.cell (World.block_lt_of_cell? w _ hx268_0)).trans hx268_0; replace hx268_1 := (HB.out.cell (World.block_lt_of_cell? w _ hx268_1)).trans hx268_1; replace hx268_2 := (HB.out.cell (World.block_lt_of_cell? w _ hx268_2)).trans hx268_2; have HR268_2 := Aside0.mk hi268_2; have HC268_2 := Aside0.mk hl268_2; clear hi268_2 hl268_2; replace p268 := eq_true p268; replace q268 := eq_true q268; have p269 : 0 ≤ (x5_1 : Int) := of_decide_eq_true (by first | (with_reducible assumption) | assumption); have q269 : x5_1 < (l1.length : Int) := of_decide_eq_true (by first | (with_reducible assumption) | assumption); obtain ⟨ad269, A269_2, c269_2, e269, hx269_0, hx269_1, hx269_2, hl269_2, hi269_2⟩ := at_T38 HR1.out x5_1 p269 q269; have hw269_2 := hx269_2; have hw269_1 := hx269_1; have hw269_0 := hx269_0; cases e269; replace hx269_0 := (HB.out.cell (World.block_lt_of_cell? w _ hx269_0)).trans hx269_0; replace hx269_1 := (HB.out.cell (World.block_lt_of_cell? w _ hx269_1)).trans hx269_1; replace hx269_2 := (HB.out.cell (World.block_lt_of_cell? w _ hx269_2)).trans hx269_2; have HR269_2 := Aside0.mk hi269_2; have HC269_2 := Aside0.mk hl269_2; clear hi269_2 hl269_2; replace p269 := eq_true p269; replace q269 := eq_true q269; refine start_ (n := 10) (S := fun w' => w'.cell? (ad268.add ((x5_1).toNat * 3)) = some (.string ((rd_T38 l0 x5_1).f0)) ∧ w'.cell? ⟨(ad268.add ((x5_1).toNat * 3)).block, (ad268.add ((x5_1).toNat * 3)).off + 1, none⟩ = some (.int .i64 ((rd_T38 l0 x5_1).f1)) ∧ w'.cell? ⟨(ad268.add ((x5_1).toNat * 3)).block, (ad268.add ((x5_1).toNat * 3)).off + 2, none⟩ = some (.slice A268_2 ((rd_T38 l0 x5_1).f2).length c268_2) ∧ w'.cell? (ad269.add ((x5_1).toNat * 3)) = some (.string ((rd_T38 l1 x5_1).f0)) ∧ w'.cell? ⟨(ad269.add ((x5_1).toNat * 3)).block, (ad269.add ((x5_1).toNat * 3)).off + 1, none⟩ = some (.int .i64 ((rd_T38 l1 x5_1).f1)) ∧ w'.cell? ⟨(ad269.add ((x5_1).toNat * 3)).block, (ad269.add ((x5_1).toNat * 3)).off + 2, none⟩ = some (.slice A269_2 ((rd_T38 l1 x5_1).f2).length c269_2)) (ds := []) (rowB 10 0) (by kernel_rfl) rfl rfl ⟨((HB.out.cell (World.block_lt_of_cell? w _ hw268_0)).trans hw268_0), ((HB.out.cell (World.block_lt_of_cell? w _ hw268_1)).trans hw268_1), ((HB.out.cell (World.block_lt_of_cell? w _ hw268_2)).trans hw268_2), ((HB.out.cell (World.block_lt_of_cell? w _ hw269_0)).trans hw269_0), ((HB.out.cell (World.block_lt_of_cell? w _ hw269_1)).trans hw269_1), ((HB.out.cell (World.block_lt_of_cell? w _ hw269_2)).trans hw269_2)⟩ (fun hHeld => ?_); refine with_tabW laws_eqEntryS.tab6 laws_eqEntryS.bits6 (fun HT_ HW_ => ?_); generalize wr.drew = w9 at HB HR268_2 HR269_2 hx268_0 hx268_1 hx268_2 hx269_0 hx269_1 hx269_2 hHeld ⊢; refine pure_ (i := 0) (N := some 17) (v := ?_) (a' := ?_) (rowB 10 1) rfl rfl (any_of HT_.out (by kernel_rfl)) (fun _ _ _ h => h) (Or.inl ⟨by rfl, ?_⟩) ?_ ?_; rotate_left; (· intro w'; go_simp; with_reducible rfl); rotate_left; (· simp only [Act.put, List.setIfInBounds_toArray, List.set_cons_zero, List.set_cons_succ, i64_w, i32_w]; rfl); refine pure_ (i := 1) (N := some 18) (v := ?_) (a' := ?_) (rowB 10 3) rfl rfl (any_of HT_.out (by kernel_rfl)) (fun _ _ _ h => h) (Or.inl ⟨by rfl, ?_⟩) ?_ ?_; rotate_left; (· intro w'; go_simp; with_reducible rfl); rotate_left; (· simp only [Act.put, List.setIfInBounds_toArray, List.set_cons_zero, List.set_cons_succ, i64_w, i32_w]; rfl); refine pure_ (i := 2) (N := some 19) (v := ?_) (a' := ?_) (rowB 10 7) rfl rfl (any_of HT_.out (by kernel_rfl)) (fun _ _ _ h => h) (Or.inl ⟨by rfl, ?_⟩) ?_ ?_; rotate_left; (· intro w'; go_simp; with_reducible rfl); rotate_left; (· simp only [Act.put, List.setIfInBounds_toArray, List.set_cons_zero, List.set_cons_succ, i64_w, i32_w]; rfl); refine pure_ (i := 4) (N := some 21) (v := ?_) (a' := ?_) (rowB 10 23) rfl rfl (any_of HT_.out (by kernel_rfl)) (fun _ _ _ h => h) (Or.inl ⟨by rfl, ?_⟩) ?_ ?_; rotate_left; (· intro w'; go_simp; with_reducible rfl); rotate_left; (· simp only [Act.put, List.setIfInBounds_toArray, List.set_cons_zero, List.set_cons_succ, i64_w, i32_w]; rfl); refine pure_ (i := 5) (N := some 22) (v := ?_) (a' := ?_) (rowB 10 55) rfl rfl (any_of HT_.out (by kernel_rfl)) (fun _ _ _ h => h) (Or.inl ⟨by rfl, ?_⟩) ?_ ?_; rotate_left; (· intro w'; go_simp; with_reducible rfl); rotate_left; (· simp only [Act.put, List.setIfInBounds_toArray, List.set_cons_zero, List.set_cons_succ, i64_w, i32_w]; rfl); refine pure_ (i := 6) (N := some 23) (v := ?_) (a' := ?_) (rowB 10 119) rfl rfl (any_of HT_.out (by kernel_rfl)) (fun _ _ _ h => h) (Or.inl ⟨by rfl, ?_⟩) ?_ ?_; rotate_left; (· intro w'; go_simp; with_reducible rfl); rotate_left; (· simp only [Act.put, List.setIfInBounds_toArray, List.set_cons_zero, List.set_cons_succ, i64_w, i32_w]; rfl); refine take_ (i := 3) (N := some 20) (v := ?_) (a' := ?_) (rowB 10 127) rfl rfl (take_ofW HT_.out HW_.out (by kernel_rfl)) (fun _ _ _ h => h) (Or.inl ⟨by rfl, ?_⟩) hHeld ?_ ?_; rotate_left; (· rintro w' ⟨s0, s1, s2, s3, s4, s5⟩; go_simp; with_reducible rfl); rotate_left; (· simp only [Act.put, List.setIfInBounds_toArray, List.set_cons_zero, List.set_cons_succ, i64_w, i32_w]; rfl); refine take_ (i := 7) (N := some 24) (v := ?_) (a' := ?_) (rowB 10 255) rfl rfl (take_ofW HT_.out HW_.out (by kernel_rfl)) (fun _ _ _ h => h) (Or.inl ⟨by rfl, ?_⟩) hHeld ?_ ?_; rotate_left; (· rintro w' ⟨s0, s1, s2, s3, s4, s5⟩; go_simp; with_reducible rfl); rotate_left; (· simp only [Act.put, List.setIfInBounds_toArray, List.set_cons_zero, List.set_cons_succ, i64_w, i32_w]; rfl); refine one_ (i := 8) (N := some 25) (rowB 10 511) rfl rfl (one_of HT_.out (by kernel_rfl)) (by decide) (fun K hK => ?_); refine goes_ Tryd.func46 (by kernel_rfl) rfl #[.agg #[.string ((rd_T38 l0 x5_1).f0), .int .i64 ((rd_T38 l0 x5_1).f1), .slice A268_2 ((rd_T38 l0 x5_1).f2).length c268_2], .agg #[.string ((rd_T38 l1 x5_1).f0), .int .i64 ((rd_T38 l1 x5_1).f1), .slice A269_2 ((rd_T38 l1 x5_1).f2).length c269_2]] (by rfl) rfl rfl (by (try simp only [List.map_toArray, List.map_cons, List.map_nil]); first | done | rfl | (simp only [List.length_drop, List.length_take]; rfl)) ?_; with_reducible refine (laws_eqEntry.calls k1 ((rd_T38 l0 x5_1).f0) ((rd_T38 l0 x5_1).f1) _ _ ((rd_T38 l0 x5_1).f2) ((rd_T38 l1 x5_1).f0) ((rd_T38 l1 x5_1).f1) _ _ ((rd_T38 l1 x5_1).f2) true _ ?side1 ?side2 ?side3 ?side4 A7.out).mono ?_
        (case side1 => repeat (first | exact (Kd.C_below HR268_2.out HB.out) | (with_reducible refine Kd.C_alloc ?_ _) | (with_reducible refine Kd.C_drewN ?_ _) | (with_reducible refine Kd.C_drew ?_)))
        (case side2 => exact HC268_2.out)
        (case side3 => repeat (first | exact (Kd.C_below HR269_2.out HB.out) | (with_reducible refine Kd.C_alloc ?_ _) | (with_reducible refine Kd.C_drewN ?_ _) | (with_reducible refine Kd.C_drew ?_)))
        (case side4 => exact HC269_2.out)
        rintro e w10 ⟨rfl, hb⟩; refine ⟨_, rfl, ?_⟩; have n0_ := Aside0.mk (below_step (by repeat (first | (with_reducible first | exact HB.out | apply below_alloc | apply pw_below_drewN | apply below_drew1) | exact HB.out)) hb); clear HB; have HB := n0_; clear n0_; (try clear hb)
        (try clear hb2)
        (try clear hk)
        (try clear hi)
        refine hK.out _ _ ⟨((HB.out.cell (World.block_lt_of_cell? w _ hw268_0)).trans hw268_0), ((HB.out.cell (World.block_lt_of_cell? w _ hw268_1)).trans hw268_1), ((HB.out.cell (World.block_lt_of_cell? w _ hw268_2)).trans hw268_2), ((HB.out.cell (World.block_lt_of_cell? w _ hw269_0)).trans hw269_0), ((HB.out.cell (World.block_lt_of_cell? w _ hw269_1)).trans hw269_1), ((HB.out.cell (World.block_lt_of_cell? w _ hw269_2)).trans hw269_2)⟩ (fun hHeld => ?_); clear hK K; refine norm_ (a' := ?_) ?_ ?_; rotate_left; (· show Act.put _ (some 25) _ = _; simp only [Act.put, List.setIfInBounds_toArray, List.set_cons_zero, List.set_cons_succ, i64_w, i32_w]; rfl); refine pure_ (i := 9) (N := some 26) (v := ?_) (a' := ?_) (rowB 10 1023) rfl rfl (any_of HT_.out (by kernel_rfl)) (fun _ _ _ h => h) (Or.inl ⟨by rfl, ?_⟩) ?_ ?_; rotate_left; (· intro w'; go_simp; with_reducible rfl); rotate_left; (· simp only [Act.put, List.setIfInBounds_toArray, List.set_cons_zero, List.set_cons_succ, i64_w, i32_w]; rfl); refine done_ (done_of HT_.out (by kernel_rfl)) ?_; try go_wp2
        go_roundg k1
        case measure => have := HK1.out; omega
        case rel => exact ⟨(wrap64 (x5_1 + 1)), (by first | rfl | (simp; done) | (simp [*]; done)), H', ⟨by have := HK1.out; omega⟩, ⟨by repeat (first | (with_reducible first | exact HB.out | apply below_alloc | apply pw_below_drewN | apply below_drew1) | exact HB.out)⟩⟩
       ·
        replace c8 := Bool.eq_false_iff.mpr c8; subst c8; have H1 : (some false) = some r := by rw [if_neg (show ¬ (false = true) by decide)] at H; exact H
        clear H; have H := H1; clear H1; obtain rfl := Option.some.inj H; try go_wp2
        have n0_ := Aside0.mk (below_drew1 HB.out); clear HB; have HB := n0_; clear n0_; have p268 : 0 ≤ (x5_1 : Int) := of_decide_eq_true (by first | (with_reducible assumption) | assumption); have q268 : x5_1 < (l0.length : Int) := of_decide_eq_true (by first | (with_reducible assumption) | assumption); obtain ⟨ad268, A268_2, c268_2, e268, hx268_0, hx268_1, hx268_2, hl268_2, hi268_2⟩ := at_T38 HR0.out x5_1 p268 q268; have hw268_2 := hx268_2; have hw268_1 := hx268_1; have hw268_0 := hx268_0; cases e268; replace hx268_0 := (HB.out.cell (World.block_lt_of_cell? w _ hx268_0)).trans hx268_0; replace hx268_1 := (HB.out.cell (World.block_lt_of_cell? w _ hx268_1)).trans hx268_1; replace hx268_2 := (HB.out.cell (World.block_lt_of_cell? w _ hx268_2)).trans hx268_2; have HR268_2 := Aside0.mk hi268_2; have HC268_2 := Aside0.mk hl268_2; clear hi268_2 hl268_2; replace p268 := eq_true p268; replace q268 := eq_true q268; have p269 : 0 ≤ (x5_1 : Int) := of_decide_eq_true (by first | (with_reducible assumption) | assumption); have q269 : x5_1 < (l1.length : Int) := of_decide_eq_true (by first | (with_reducible assumption) | assumption); obtain ⟨ad269, A269_2, c269_2, e269, hx269_0, hx269_1, hx269_2, hl269_2, hi269_2⟩ := at_T38 HR1.out x5_1 p269 q269; have hw269_2 := hx269_2; have hw269_1 := hx269_1; have hw269_0 := hx269_0; cases e269; replace hx269_0 := (HB.out.cell (World.block_lt_of_cell? w _ hx269_0)).trans hx269_0; replace hx269_1 := (HB.out.cell (World.block_lt_of_cell? w _ hx269_1)).trans hx269_1; replace hx269_2 := (HB.out.cell (World.block_lt_of_cell? w _ hx269_2)).trans hx269_2; have HR269_2 := Aside0.mk hi269_2; have HC269_2 := Aside0.mk hl269_2; clear hi269_2 hl269_2; replace p269 := eq_true p269; replace q269 := eq_true q269; refine start_ (n := 10) (S := fun w' => w'.cell? (ad268.add ((x5_1).toNat * 3)) = some (.string ((rd_T38 l0 x5_1).f0)) ∧ w'.cell? ⟨(ad268.add ((x5_1).toNat * 3)).block, (ad268.add ((x5_1).toNat * 3)).off + 1, none⟩ = some (.int .i64 ((rd_T38 l0 x5_1).f1)) ∧ w'.cell? ⟨(ad268.add ((x5_1).toNat * 3)).block, (ad268.add ((x5_1).toNat * 3)).off + 2, none⟩ = some (.slice A268_2 ((rd_T38 l0 x5_1).f2).length c268_2) ∧ w'.cell? (ad269.add ((x5_1).toNat * 3)) = some (.string ((rd_T38 l1 x5_1).f0)) ∧ w'.cell? ⟨(ad269.add ((x5_1).toNat * 3)).block, (ad269.add ((x5_1).toNat * 3)).off + 1, none⟩ = some (.int .i64 ((rd_T38 l1 x5_1).f1)) ∧ w'.cell? ⟨(ad269.add ((x5_1).toNat * 3)).block, (ad269.add ((x5_1).toNat * 3)).off + 2, none⟩ = some (.slice A269_2 ((rd_T38 l1 x5_1).f2).length c269_2)) (ds := []) (rowB 10 0) (by kernel_rfl) rfl rfl ⟨((HB.out.cell (World.block_lt_of_cell? w _ hw268_0)).trans hw268_0), ((HB.out.cell (World.block_lt_of_cell? w _ hw268_1)).trans hw268_1), ((HB.out.cell (World.block_lt_of_cell? w _ hw268_2)).trans hw268_2), ((HB.out.cell (World.block_lt_of_cell? w _ hw269_0)).trans hw269_0), ((HB.out.cell (World.block_lt_of_cell? w _ hw269_1)).trans hw269_1), ((HB.out.cell (World.block_lt_of_cell? w _ hw269_2)).trans hw269_2)⟩ (fun hHeld => ?_); refine with_tabW laws_eqEntryS.tab6 laws_eqEntryS.bits6 (fun HT_ HW_ => ?_); generalize wr.drew = w11 at HB HR268_2 HR269_2 hx268_0 hx268_1 hx268_2 hx269_0 hx269_1 hx269_2 hHeld ⊢; refine pure_ (i := 0) (N := some 17) (v := ?_) (a' := ?_) (rowB 10 1) rfl rfl (any_of HT_.out (by kernel_rfl)) (fun _ _ _ h => h) (Or.inl ⟨by rfl, ?_⟩) ?_ ?_; rotate_left; (· intro w'; go_simp; with_reducible rfl); rotate_left; (· simp only [Act.put, List.setIfInBounds_toArray, List.set_cons_zero, List.set_cons_succ, i64_w, i32_w]; rfl); refine pure_ (i := 1) (N := some 18) (v := ?_) (a' := ?_) (rowB 10 3) rfl rfl (any_of HT_.out (by kernel_rfl)) (fun _ _ _ h => h) (Or.inl ⟨by rfl, ?_⟩) ?_ ?_; rotate_left; (· intro w'; go_simp; with_reducible rfl); rotate_left; (· simp only [Act.put, List.setIfInBounds_toArray, List.set_cons_zero, List.set_cons_succ, i64_w, i32_w]; rfl); refine pure_ (i := 2) (N := some 19) (v := ?_) (a' := ?_) (rowB 10 7) rfl rfl (any_of HT_.out (by kernel_rfl)) (fun _ _ _ h => h) (Or.inl ⟨by rfl, ?_⟩) ?_ ?_; rotate_left; (· intro w'; go_simp; with_reducible rfl); rotate_left; (· simp only [Act.put, List.setIfInBounds_toArray, List.set_cons_zero, List.set_cons_succ, i64_w, i32_w]; rfl); refine pure_ (i := 4) (N := some 21) (v := ?_) (a' := ?_) (rowB 10 23) rfl rfl (any_of HT_.out (by kernel_rfl)) (fun _ _ _ h => h) (Or.inl ⟨by rfl, ?_⟩) ?_ ?_; rotate_left; (· intro w'; go_simp; with_reducible rfl); rotate_left; (· simp only [Act.put, List.setIfInBounds_toArray, List.set_cons_zero, List.set_cons_succ, i64_w, i32_w]; rfl); refine pure_ (i := 5) (N := some 22) (v := ?_) (a' := ?_) (rowB 10 55) rfl rfl (any_of HT_.out (by kernel_rfl)) (fun _ _ _ h => h) (Or.inl ⟨by rfl, ?_⟩) ?_ ?_; rotate_left; (· intro w'; go_simp; with_reducible rfl); rotate_left; (· simp only [Act.put, List.setIfInBounds_toArray, List.set_cons_zero, List.set_cons_succ, i64_w, i32_w]; rfl); refine pure_ (i := 6) (N := some 23) (v := ?_) (a' := ?_) (rowB 10 119) rfl rfl (any_of HT_.out (by kernel_rfl)) (fun _ _ _ h => h) (Or.inl ⟨by rfl, ?_⟩) ?_ ?_; rotate_left; (· intro w'; go_simp; with_reducible rfl); rotate_left; (· simp only [Act.put, List.setIfInBounds_toArray, List.set_cons_zero, List.set_cons_succ, i64_w, i32_w]; rfl); refine take_ (i := 3) (N := some 20) (v := ?_) (a' := ?_) (rowB 10 127) rfl rfl (take_ofW HT_.out HW_.out (by kernel_rfl)) (fun _ _ _ h => h) (Or.inl ⟨by rfl, ?_⟩) hHeld ?_ ?_; rotate_left; (· rintro w' ⟨s0, s1, s2, s3, s4, s5⟩; go_simp; with_reducible rfl); rotate_left; (· simp only [Act.put, List.setIfInBounds_toArray, List.set_cons_zero, List.set_cons_succ, i64_w, i32_w]; rfl); refine take_ (i := 7) (N := some 24) (v := ?_) (a' := ?_) (rowB 10 255) rfl rfl (take_ofW HT_.out HW_.out (by kernel_rfl)) (fun _ _ _ h => h) (Or.inl ⟨by rfl, ?_⟩) hHeld ?_ ?_; rotate_left; (· rintro w' ⟨s0, s1, s2, s3, s4, s5⟩; go_simp; with_reducible rfl); rotate_left; (· simp only [Act.put, List.setIfInBounds_toArray, List.set_cons_zero, List.set_cons_succ, i64_w, i32_w]; rfl); refine one_ (i := 8) (N := some 25) (rowB 10 511) rfl rfl (one_of HT_.out (by kernel_rfl)) (by decide) (fun K hK => ?_); refine goes_ Tryd.func46 (by kernel_rfl) rfl #[.agg #[.string ((rd_T38 l0 x5_1).f0), .int .i64 ((rd_T38 l0 x5_1).f1), .slice A268_2 ((rd_T38 l0 x5_1).f2).length c268_2], .agg #[.string ((rd_T38 l1 x5_1).f0), .int .i64 ((rd_T38 l1 x5_1).f1), .slice A269_2 ((rd_T38 l1 x5_1).f2).length c269_2]] (by rfl) rfl rfl (by (try simp only [List.map_toArray, List.map_cons, List.map_nil]); first | done | rfl | (simp only [List.length_drop, List.length_take]; rfl)) ?_; with_reducible refine (laws_eqEntry.calls k1 ((rd_T38 l0 x5_1).f0) ((rd_T38 l0 x5_1).f1) _ _ ((rd_T38 l0 x5_1).f2) ((rd_T38 l1 x5_1).f0) ((rd_T38 l1 x5_1).f1) _ _ ((rd_T38 l1 x5_1).f2) false _ ?side1 ?side2 ?side3 ?side4 A7.out).mono ?_
        (case side1 => repeat (first | exact (Kd.C_below HR268_2.out HB.out) | (with_reducible refine Kd.C_alloc ?_ _) | (with_reducible refine Kd.C_drewN ?_ _) | (with_reducible refine Kd.C_drew ?_)))
        (case side2 => exact HC268_2.out)
        (case side3 => repeat (first | exact (Kd.C_below HR269_2.out HB.out) | (with_reducible refine Kd.C_alloc ?_ _) | (with_reducible refine Kd.C_drewN ?_ _) | (with_reducible refine Kd.C_drew ?_)))
        (case side4 => exact HC269_2.out)
        rintro e w12 ⟨rfl, hb⟩; refine ⟨_, rfl, ?_⟩; have n0_ := Aside0.mk (below_step (by repeat (first | (with_reducible first | exact HB.out | apply below_alloc | apply pw_below_drewN | apply below_drew1) | exact HB.out)) hb); clear HB; have HB := n0_; clear n0_; (try clear hb)
        (try clear hb2)
        (try clear hk)
        (try clear hi)
        refine hK.out _ _ ⟨((HB.out.cell (World.block_lt_of_cell? w _ hw268_0)).trans hw268_0), ((HB.out.cell (World.block_lt_of_cell? w _ hw268_1)).trans hw268_1), ((HB.out.cell (World.block_lt_of_cell? w _ hw268_2)).trans hw268_2), ((HB.out.cell (World.block_lt_of_cell? w _ hw269_0)).trans hw269_0), ((HB.out.cell (World.block_lt_of_cell? w _ hw269_1)).trans hw269_1), ((HB.out.cell (World.block_lt_of_cell? w _ hw269_2)).trans hw269_2)⟩ (fun hHeld => ?_); clear hK K; refine norm_ (a' := ?_) ?_ ?_; rotate_left; (· show Act.put _ (some 25) _ = _; simp only [Act.put, List.setIfInBounds_toArray, List.set_cons_zero, List.set_cons_succ, i64_w, i32_w]; rfl); refine pure_ (i := 9) (N := some 26) (v := ?_) (a' := ?_) (rowB 10 1023) rfl rfl (any_of HT_.out (by kernel_rfl)) (fun _ _ _ h => h) (Or.inl ⟨by rfl, ?_⟩) ?_ ?_; rotate_left; (· intro w'; go_simp; with_reducible rfl); rotate_left; (· simp only [Act.put, List.setIfInBounds_toArray, List.set_cons_zero, List.set_cons_succ, i64_w, i32_w]; rfl); refine done_ (done_of HT_.out (by kernel_rfl)) ?_; try go_wp2
        go_ret
        exact ⟨by first | rfl | (simp [errW_none, errW_some] <;> rfl) | (simp [*, errW_none, errW_some] <;> rfl), by repeat (first | (with_reducible first | exact HB.out | apply below_alloc | apply pw_below_drewN | apply below_drew1) | exact HB.out)⟩
      ·
       rw [if_neg c6] at H; exact absurd H (by simp)
     ·
      rw [if_neg c5] at H; exact absurd H (by simp)
    ·
     rw [if_neg c4] at H; have c4b0 : decide (x5_1 < (l0.length : Int)) = false := decide_eq_false c4; clear c4; obtain rfl := Option.some.inj H; go_wp2; go_ret
     exact ⟨by first | rfl | (simp [errW_none, errW_some] <;> rfl) | (simp [*, errW_none, errW_some] <;> rfl), by repeat (first | (with_reducible first | exact HB.out | apply below_alloc | apply pw_below_drewN | apply below_drew1) | exact HB.out)⟩
 ·
  rw [if_neg c3] at H; have c3b0 : ((l0.length : Int) == (l1.length : Int)) = false := beq_eq_false_iff_ne.mpr c3; have c3b1 : ((l0.length : Int) != (l1.length : Int)) = true := bne_iff_ne.mpr c3; have c3b2 : (l0.length == l1.length) = false := by first | simpa using c3 | (simp at c3 ⊢; omega)
  obtain rfl := Option.some.inj H; go_enter Tryd.func17, Tryd.ntmps17
  go_wp2; go_ret
  exact ⟨by first | rfl | (simp [errW_none, errW_some] <;> rfl) | (simp [*, errW_none, errW_some] <;> rfl), by repeat (first | (with_reducible first | exact HB.out | apply below_alloc | apply pw_below_drewN | apply below_drew1) | exact HB.out)⟩

end Go.Proofs.YtmacedbpdhkagaaDoor.PFnExactTonaryJoin
namespace Go.Proofs.YtmacedbpdhkagaaDoor.Pure
set_option linter.unusedVariables false
set_option linter.unusedSimpArgs false
open Go Go.RowKit Go.Proofs.YtmacedbpdhkagaaDoor.PFnExactTonaryJoin Go.Proofs.YtmacedbpdhkagaaDoorW.PrintWords Go.Proofs.YtmacedbpdhkagaaDoorW.PrintLast Go.Proofs.YtmacedbpdhkagaaDoorW.PrintMore

section
variable {α : Type} {d : Kd α} {e : Nat} {W W' w0 : World} {B a b n c : Nat} {v : Value} {A : Option Addr} {xs ys : List α} {S : Nat → Prop}
end
def OwnS {α : Type} (d : Kd α) (e : Nat) (W : World) (B a b : Nat) (v : Value) (xs : List α) : Prop := Kd.S d e W B (fun k => a ≤ k ∧ k < b) v xs
section
variable {α : Type} {d : Kd α} {e : Nat} {W W' w0 : World} {B a b n c : Nat} {v : Value} {A : Option Addr} {xs ys : List α} {S : Nat → Prop}
theorem OwnS.make (h : Kd.S d e W' W.heap.size (fun _ => True) v xs) (hB : B ≤ W.heap.size) : OwnS d e W' B W.heap.size W'.heap.size v xs := Kd.S_lower (Kd.S_mono (Kd.S_bound h) (fun k hk => ⟨hk.2.1, hk.2.2.1⟩)) hB
theorem OwnS.below (h : OwnS d e W B a b v xs) (hb : Below W.heap.size W W') : OwnS d e W' B a b v xs := Kd.S_below h hb
theorem OwnS.kept (h : OwnS d e W B a b v xs) (hk : Kept W W' S) (hS : ∀ k, a ≤ k → k < b → ¬ S k) : OwnS d e W' B a b v xs := Kd.S_kept h hk (fun k hk => hS k hk.1 hk.2)
theorem OwnS.C (h : OwnS d e W B a b (.slice A xs.length c) xs) : d.C W A xs.length xs := (Kd.S_reads' h).2.2
theorem OwnS.cap (h : OwnS d e W B a b (.slice A n c) xs) : n ≤ c := (Kd.S_reads' h).2.1
end

def convTone (x : S92) : S90 := ⟨x.f0, x.f1⟩
theorem szToneS_eq (l : List S92) (left : Int) (h0 : 0 ≤ left) (h1 : left ≤ 1000000000000) (hl : (l.length : Int) ≤ 9223372036854775807) : laws_szToneS.f l left = some (if left - (l.length : Int) < 0 then -1 else left - (l.length : Int)) := by
 unfold laws_szToneS.f
 rw [w64 (by omega) (by omega)]
 split <;> rfl
theorem toToneS_ev (l : List S92) (hl : l.length ≤ 1000000000000) : Ev (fun k => laws_toToneS.f k l) (l.map convTone) := by
 unfold laws_toToneS.f
 refine Ev.pos (by omega) (Ev.pos (by simp; omega) ?_)
 have := Ev.over z92 l (fun k (s : List S90) i => laws_toToneS.l0 k l s i) (fun s rest => s.take (l.length - rest.length) ++ rest.map convTone) (fun _ s => s.length = l.length) (by
  intro s hs
  refine Ev.succ ?_
  simp only [laws_toToneS.l0]
  refine Ev.eqr (Ev.neg (by omega) (Ev.now _)) ?_
  simp [← hs]) (by
  intro s i rest hs hi hdr ih
  have hrl : rest.length + 1 + i = l.length := by
   have := congrArg List.length hdr
   simp at this; omega
  refine Ev.succ ?_
  simp only [laws_toToneS.l0]
  refine Ev.pos (by omega) (Ev.pos (by omega) (Ev.conb (a := ((rd_T92 l i).f0, (rd_T92 l i).f1)) rfl (Ev.pos (by omega) ?_)))
  rw [w64 (by omega) (by omega)]
  refine Ev.eqr (ih _ (by simpa using hs)) ?_
  have e1 : l.length - rest.length = i + 1 := by omega
  have e2 : l.length - (l.getD i z92 :: rest).length = i := by simp; omega
  rw [e1, e2]
  simp only [Int.toNat_natCast, List.map_cons]
  rw [List.take_set, List.take_succ_eq_append_getElem (by omega), List.set_append_right _ _ (by simp; omega)]
  have e3 : i - (s.take i).length = 0 := by simp; omega
  rw [e3]
  simp [convTone, rd_T92]) 0 (List.replicate l.length z90) (Nat.zero_le _) (by simp)
 simpa using this
theorem eqToneS_ev (l : List S90) (hl : l.length ≤ 1000000000000000) : Ev (fun k => laws_eqToneS.f k l l) true := by
 unfold laws_eqToneS.f
 refine Ev.pos rfl ?_
 have := Ev.over z90 l (fun k (_ : Unit) i => laws_eqToneS.l0 k l l i) (fun _ _ => true) (fun _ _ => True) (by
  intro s _
  refine Ev.succ ?_
  simp only [laws_eqToneS.l0]
  exact Ev.neg (by omega) (Ev.now _)) (by
  intro s i rest _ hi _ ih
  refine Ev.succ ?_
  simp only [laws_eqToneS.l0]
  refine Ev.pos (by omega) (Ev.pos (by omega) (Ev.pos (by omega) (Ev.conb (a := true) (by simp [laws_eqTone.f]) (Ev.pos rfl ?_))))
  rw [w64 (by omega) (by omega)]
  exact ih () trivial) 0 () (Nat.zero_le _) trivial
 simpa using this
def markTone : Nat → Int → List S90
 | 0, _ => []
 | n + 1, a => ⟨a, Int.tmod (a + 1) 3 == 0⟩ :: markTone n (a + 2)
theorem markTone_len : ∀ n a, (markTone n a).length = n
 | 0, _ => rfl
 | n + 1, a => by simp [markTone, markTone_len n]
theorem markTone_get : ∀ (n : Nat) (a : Int) (i : Nat), i < n → (markTone n a).getD i z90 = ⟨a + 2 * i, Int.tmod (a + 2 * i + 1) 3 == 0⟩
 | 0, _, _, h => by omega
 | n + 1, a, 0, _ => by simp [markTone]
 | n + 1, a, i + 1, h => by
  have := markTone_get n (a + 2) i (by omega)
  simp only [markTone, List.getD_cons_succ]
  rw [this]
  have e : a + 2 + 2 * (i : Int) = a + 2 * ((i + 1 : Nat) : Int) := by omega
  rw [e]
theorem markToneS_ev (l : List S90) (a : Int) (ha : 0 ≤ a) (ha' : a ≤ 1000000000000000) (hl : l.length ≤ 1000000000000000) : Ev (fun k => laws_markToneS.f k l a) (a + 2 * l.length, markTone l.length a) := by
 unfold laws_markToneS.f
 have := Ev.over z90 l (fun k (s : List S90 × Int) i => laws_markToneS.l0 k s.1 s.2 i) (fun s rest => (s.2 + 2 * (rest.length : Int), s.1.take (l.length - rest.length) ++ markTone rest.length s.2)) (fun i s => s.1.length = l.length ∧ s.2 = a + 2 * i) (by
  intro s hs
  refine Ev.succ ?_
  simp only [laws_markToneS.l0]
  refine Ev.eqr (Ev.neg (by omega) (Ev.now _)) ?_
  simp [← hs.1, markTone]) (by
  intro s i rest hs hi hdr ih
  have hrl : rest.length + 1 + i = l.length := by
   have := congrArg List.length hdr
   simp at this; omega
  refine Ev.succ ?_
  simp only [laws_markToneS.l0]
  refine Ev.pos (by omega) (Ev.pos (by omega) (Ev.someb ?_))
  have h2 := hs.2
  rw [w64 (x := s.2 + 1) (by omega) (by omega), w64 (x := s.2 + 1 + 1) (by omega) (by omega), w64 (by omega) (by omega)]
  refine Ev.eqr (ih (_, s.2 + 1 + 1) ⟨by simpa using hs.1, by simp only []; omega⟩) ?_
  have e1 : l.length - rest.length = i + 1 := by omega
  have e2 : l.length - (l.getD i z90 :: rest).length = i := by simp; omega
  rw [e1, e2]
  simp only [Int.toNat_natCast, List.length_cons, markTone, List.set_set]
  refine Prod.ext (by simp only []; omega) ?_
  simp only []
  rw [List.take_set, List.take_succ_eq_append_getElem (by omega), List.set_append_right _ _ (by simp; omega)]
  have e3 : i - (s.1.take i).length = 0 := by simp; omega
  have e4 : s.2 + 1 + 1 = s.2 + 2 := by omega
  have e5 : (rd_T90 (s.1.set i ⟨s.2, (rd_T90 s.1 i).f1⟩) i).f0 = s.2 := by
   simp [rd_T90, List.getD_eq_getElem?_getD, List.getElem?_set_self (show i < s.1.length by omega)]
  rw [e3, e4, e5]
  simp) 0 (l, a) (Nat.zero_le _) ⟨rfl, by simp⟩
 simpa using this
def convEntry (x : S62) : S38 := ⟨x.f0, x.f1, x.f2.map convTone⟩
def esz : List S38 → Int
 | [] => 0
 | x :: xs => ((x.f0.size : Int) + (x.f2.length : Int)) + esz xs
def EntrySz (l : List S38) : Int := (l.length : Int) + esz l
theorem esz_nn : ∀ l, 0 ≤ esz l
 | [] => by simp [esz]
 | x :: xs => by have := esz_nn xs; simp only [esz]; omega
theorem esz_get {l : List S38} {x : S38} (h : x ∈ l) : (x.f0.size : Int) + (x.f2.length : Int) ≤ esz l := by
 induction l with
 | nil => simp at h
 | cons y ys ih =>
  have := esz_nn ys
  simp only [esz]
  rcases List.mem_cons.1 h with rfl | h
  ·
   omega
  ·
   have := ih h; omega
theorem EntrySz_len (l : List S38) : (l.length : Int) ≤ EntrySz l := by have := esz_nn l; unfold EntrySz; omega
theorem EntrySz_nn (l : List S38) : 0 ≤ EntrySz l := by have := EntrySz_len l; omega
theorem EntrySz_get {l : List S38} {x : S38} (h : x ∈ l) : (x.f0.size : Int) + (x.f2.length : Int) ≤ EntrySz l := by have := esz_get h; unfold EntrySz; omega
theorem szEntry_eq (x : S62) (s : Int) (h0 : 0 ≤ s) (h1 : s ≤ 1000000000000) (hx : (x.f0.size : Int) ≤ 9223372036854775807) (hx' : (x.f2.length : Int) ≤ 9223372036854775807) :
 laws_szEntry.f x.f0 x.f1 x.f2 s = some (if s - ((x.f0.size : Int) + (x.f2.length : Int)) < 0 then -1 else s - ((x.f0.size : Int) + (x.f2.length : Int))) := by
 unfold laws_szEntry.f
 rw [w64 (x := s - (x.f0.size : Int)) (by omega) (by omega)]
 by_cases h : s - (x.f0.size : Int) < 0
 ·
  rw [if_pos h, if_pos (by omega)]
 rw [if_neg h, szToneS_eq x.f2 _ (by omega) (by omega) hx']
 simp only [Option.bind_some]
 by_cases h2 : s - (x.f0.size : Int) - (x.f2.length : Int) < 0
 ·
  rw [if_pos h2, if_pos (by omega), if_pos (by omega)]
 ·
  rw [if_neg h2, if_neg h2, if_neg (by omega)]
  exact congrArg some (by omega)
theorem szEntryS_ev (l : List S62) (left : Int) (h0 : 0 ≤ left) (h1 : left ≤ 1000000000000) (hl : (l.length : Int) ≤ 9223372036854775807) (hw : ∀ x ∈ l, (x.f0.size : Int) ≤ 9223372036854775807 ∧ (x.f2.length : Int) ≤ 9223372036854775807) : Ev (fun k => laws_szEntryS.f k l left) (if left - EntrySz (l.map convEntry) < 0 then -1 else left - EntrySz (l.map convEntry)) := by
 unfold laws_szEntryS.f
 have hn := esz_nn (l.map convEntry)
 rw [w64 (by omega) (by omega)]
 by_cases hb : left - (l.length : Int) < 0
 ·
  refine Ev.eqr (Ev.pos hb (Ev.now _)) ?_
  rw [if_pos (show left - EntrySz (l.map convEntry) < 0 by unfold EntrySz; rw [List.length_map]; omega)]
 ·
  refine Ev.neg hb ?_
  have := Ev.over z62 l (fun k (s : Int) i => laws_szEntryS.l0 k l s i) (fun s rest => if s - esz (rest.map convEntry) < 0 then -1 else s - esz (rest.map convEntry)) (fun _ s => 0 ≤ s ∧ s ≤ 1000000000000) (by
   intro s hs
   refine Ev.succ ?_
   simp only [laws_szEntryS.l0]
   refine Ev.eqr (Ev.neg (by omega) (Ev.now _)) ?_
   simp only [List.map_nil, esz]
   rw [if_neg (by omega)]; omega) (by
   intro s i rest hs hi hdr ih
   have hm : l.getD i z62 ∈ l := by
    rw [List.getD_eq_getElem?_getD, List.getElem?_eq_getElem hi]; exact List.getElem_mem hi
   have hx := hw _ hm
   refine Ev.succ ?_
   simp only [laws_szEntryS.l0]
   refine Ev.pos (by omega) (Ev.pos (by omega) ?_)
   show Ev _ _
   have hrd : rd_T62 l (i : Int) = l.getD i z62 := rfl
   rw [hrd]
   generalize l.getD i z62 = x at hx
   have hr := esz_nn (rest.map convEntry)
   refine Ev.conb (szEntry_eq x s hs.1 hs.2 hx.1 hx.2) ?_
   simp only [List.map_cons, esz]
   have hc : (convEntry x).f0 = x.f0 := rfl
   have hc2 : (convEntry x).f2.length = x.f2.length := List.length_map _
   rw [hc, hc2]
   generalize hy : (x.f0.size : Int) + (x.f2.length : Int) = y
   have hy0 : 0 ≤ y := by omega
   by_cases h : s - y < 0
   ·
    rw [if_pos h, if_pos (show s - (y + esz (rest.map convEntry)) < 0 by omega)]
    exact Ev.pos (by omega) (Ev.now _)
   ·
    rw [if_neg h]
    refine Ev.neg h ?_
    rw [w64 (by omega) (by omega)]
    refine Ev.eqr (ih _ (by omega)) ?_
    rw [show s - y - esz (rest.map convEntry) = s - (y + esz (rest.map convEntry)) by omega]) 0 (left - (l.length : Int)) (Nat.zero_le _) (by omega)
  refine Ev.eqr (by simpa using this) ?_
  unfold EntrySz
  rw [List.length_map, show left - (l.length : Int) - esz (l.map convEntry) = left - ((l.length : Int) + esz (l.map convEntry)) by omega]
theorem toEntryS_ev (l : List S62) (hl : EntrySz (l.map convEntry) ≤ 1000000000000) : Ev (fun k => laws_toEntryS.f k l) (l.map convEntry) := by
 have hll := EntrySz_len (l.map convEntry)
 rw [List.length_map] at hll
 unfold laws_toEntryS.f
 refine Ev.pos (by omega) (Ev.pos (by simp; omega) ?_)
 have := Ev.over z62 l (fun k (s : List S38) i => laws_toEntryS.l0 k l s i) (fun s rest => s.take (l.length - rest.length) ++ rest.map convEntry) (fun _ s => s.length = l.length) (by
  intro s hs
  refine Ev.succ ?_
  simp only [laws_toEntryS.l0]
  refine Ev.eqr (Ev.neg (by omega) (Ev.now _)) ?_
  simp [← hs]) (by
  intro s i rest hs hi hdr ih
  have hrl : rest.length + 1 + i = l.length := by
   have := congrArg List.length hdr
   simp at this; omega
  have hm : l.getD i z62 ∈ l := by
   rw [List.getD_eq_getElem?_getD, List.getElem?_eq_getElem hi]; exact List.getElem_mem hi
  have hx0 := EntrySz_get (List.mem_map_of_mem (f := convEntry) hm)
  have hc2 : (convEntry (l.getD i z62)).f2.length = (l.getD i z62).f2.length := List.length_map _
  have hx : ((rd_T62 l (i : Int)).f2.length : Int) ≤ EntrySz (l.map convEntry) := by
   rw [hc2] at hx0
   show ((l.getD i z62).f2.length : Int) ≤ _
   omega
  refine Ev.succ ?_
  simp only [laws_toEntryS.l0]
  refine Ev.pos (by omega) (Ev.pos (by omega) (Ev.bind (a := ((rd_T62 l i).f0, (rd_T62 l i).f1, (rd_T62 l i).f2.map convTone)) ?_ (Ev.pos (by omega) ?_)))
  ·
   unfold laws_toEntry.f
   exact Ev.bind (toToneS_ev _ (by omega)) (Ev.now _)
  rw [w64 (by omega) (by omega)]
  refine Ev.eqr (ih _ (by simpa using hs)) ?_
  have e1 : l.length - rest.length = i + 1 := by omega
  have e2 : l.length - (l.getD i z62 :: rest).length = i := by simp; omega
  rw [e1, e2]
  simp only [Int.toNat_natCast, List.map_cons]
  rw [List.take_set, List.take_succ_eq_append_getElem (by omega), List.set_append_right _ _ (by simp; omega)]
  have e3 : i - (s.take i).length = 0 := by simp; omega
  rw [e3]
  simp [convEntry, rd_T62]) 0 (List.replicate l.length z38) (Nat.zero_le _) (by simp)
 simpa using this
theorem eqEntryS_ev (l : List S38) (hl : EntrySz l ≤ 1000000000000) : Ev (fun k => laws_eqEntryS.f k l l) true := by
 have hll := EntrySz_len l
 unfold laws_eqEntryS.f
 refine Ev.pos rfl ?_
 have := Ev.over z38 l (fun k (_ : Unit) i => laws_eqEntryS.l0 k l l i) (fun _ _ => true) (fun _ _ => True) (by
  intro s _
  refine Ev.succ ?_
  simp only [laws_eqEntryS.l0]
  exact Ev.neg (by omega) (Ev.now _)) (by
  intro s i rest _ hi _ ih
  have hm : l.getD i z38 ∈ l := by
   rw [List.getD_eq_getElem?_getD, List.getElem?_eq_getElem hi]; exact List.getElem_mem hi
  have hx0 := EntrySz_get hm
  have hx : ((rd_T38 l (i : Int)).f2.length : Int) ≤ EntrySz l := by
   show ((l.getD i z38).f2.length : Int) ≤ _
   omega
  refine Ev.succ ?_
  simp only [laws_eqEntryS.l0]
  refine Ev.pos (by omega) (Ev.pos (by omega) (Ev.pos (by omega) (Ev.bind (a := true) ?_ (Ev.pos rfl ?_))))
  ·
   unfold laws_eqEntry.f
   exact Ev.pos rfl (Ev.pos rfl (Ev.bind (eqToneS_ev _ (by omega)) (Ev.pos rfl (Ev.now _))))
  rw [w64 (by omega) (by omega)]
  exact ih () trivial) 0 () (Nat.zero_le _) trivial
 simpa using this
theorem EntryS_sz (l : List S62) (left : Int) (A : Option Addr) (c : Nat) (w : World) (h0 : 0 ≤ left) (h1 : left ≤ 1000000000000) (hl : (l.length : Int) ≤ 9223372036854775807) (hw : ∀ x ∈ l, (x.f0.size : Int) ≤ 9223372036854775807 ∧ (x.f2.length : Int) ≤ 9223372036854775807) (hr : Kd.C k62 w A l.length l) (hc : l.length ≤ c) :
 Calls Tryd.prog 13 #[.slice A l.length c, .int .i64 left] w fun e w' => ∃ r, e = .returned (.int .i64 r) ∧ (r = if left - EntrySz (l.map convEntry) < 0 then -1 else left - EntrySz (l.map convEntry)) ∧ Below w.heap.size w w' := by
 obtain ⟨k, h⟩ := Ev.rounds (szEntryS_ev l left h0 h1 hl hw)
 refine (laws_szEntryS.calls k A c l left _ w hr hc h).mono ?_
 rintro e w' ⟨rfl, hd⟩
 exact ⟨_, rfl, rfl, hd⟩
theorem EntryS_to (l : List S62) (A : Option Addr) (c : Nat) (w : World) (hl : EntrySz (l.map convEntry) ≤ 1000000000000) (hr : Kd.C k62 w A l.length l) (hc : l.length ≤ c) :
 Calls Tryd.prog 15 #[.slice A l.length c] w fun e w' => ∃ v, e = .returned v ∧ Kd.S k38 38 w' w.heap.size (fun _ => True) v (l.map convEntry) ∧ Below w.heap.size w w' := by
 obtain ⟨k, h⟩ := Ev.rounds (toEntryS_ev l hl)
 exact (laws_toEntryS.calls k A c l _ w hr hc h).mono (fun e w' h => h)
theorem EntryS_eq (l : List S38) (A0 A1 : Option Addr) (c0 c1 : Nat) (w : World) (hl : EntrySz l ≤ 1000000000000) (hr0 : Kd.C k38 w A0 l.length l) (hc0 : l.length ≤ c0) (hr1 : Kd.C k38 w A1 l.length l) (hc1 : l.length ≤ c1) :
 Calls Tryd.prog 17 #[.slice A0 l.length c0, .slice A1 l.length c1] w fun e w' => e = .returned (.bool true) ∧ Below w.heap.size w w' := by
 obtain ⟨k, h⟩ := Ev.rounds (eqEntryS_ev l hl)
 exact (laws_eqEntryS.calls k A0 c0 l A1 c1 l true w hr0 hc0 hr1 hc1 h).mono (fun e w' h => h)

end Go.Proofs.YtmacedbpdhkagaaDoor.Pure
namespace Go.Proofs.YtmacedbpdhkagaaDoor.PFnExactTonaryJoin
open Go.RowKit Go.Proofs.YtmacedbpdhkagaaDoorW.PrintWords Go.Proofs.YtmacedbpdhkagaaDoorW.PrintLast Go.Proofs.YtmacedbpdhkagaaDoorW.PrintMore
attribute [local go_sem] max2_int min2_int max_two min_two max_three min_three max_four min_four   -- for this text's walks alone
set_option linter.unusedVariables false
set_option linter.unusedSimpArgs false

def laws_markText.l0 : Nat → Int → ByteArray → Option (ByteArray)
 | 0, _, _ => none
 | k + 1, x0, x3 => if x0 > 0 then ((some (([(wrap64 (48 + (Int.tmod x0 10))) % 256] : List Int) : List Int)).bind fun y273 => (if (strOfNums y273).size + x3.size ≤ 9223372036854775807 then (laws_markText.l0 k (wrap64 (Int.tdiv x0 10)) ((strOfNums y273) ++ x3)) else (none))) else (if 1 + x3.size ≤ 9223372036854775807 then (some ((⟨#[109]⟩ : ByteArray) ++ x3)) else (none))
def laws_markText.f (k : Nat) (a0 : Int) : Option (ByteArray) := if a0 ≤ 0 then (some (⟨#[109, 48]⟩ : ByteArray)) else (laws_markText.l0 k a0 (⟨#[]⟩ : ByteArray))
set_option maxHeartbeats 8000000 in
set_option maxRecDepth 100000 in
theorem laws_markText.calls (k : Nat) (a0 : Int) (r : ByteArray) (w : World) (h : laws_markText.f k a0 = some r) :
 Calls Tryd.prog 58 #[.int .i64 a0] w fun e w' => e = .returned (.string r) ∧ Below w.heap.size w w' := by
 have HB := Aside0.mk (Below.refl w.heap.size w); have H : (if a0 ≤ 0 then (some (⟨#[109, 48]⟩ : ByteArray)) else (laws_markText.l0 k a0 (⟨#[]⟩ : ByteArray))) = some r := h; clear h; by_cases c2 : a0 ≤ 0
 ·
  rw [if_pos c2] at H; have c2b0 : decide (a0 ≤ 0) = true := decide_eq_true c2; clear c2; obtain rfl := Option.some.inj H; go_enter Tryd.func58, Tryd.ntmps58
  go_wp2; go_ret
  exact ⟨by first | rfl | (simp [errW_none, errW_some] <;> rfl) | (simp [*, errW_none, errW_some] <;> rfl), by repeat (first | (with_reducible first | exact HB.out | apply below_alloc | apply pw_below_drewN | apply below_drew1) | exact HB.out)⟩
 ·
  rw [if_neg c2] at H; have c2b0 : decide (a0 ≤ 0) = false := decide_eq_false c2; clear c2; have H' := Aside0.mk H; clear H; go_enter Tryd.func58, Tryd.ntmps58
  go_wp2; go_loopg [0, 3] k (fun kq v0 v3 w' => ∃ (x0_1 : Int) (x3_1 : ByteArray), v0 = .int .i64 x0_1 ∧ v3 = .string x3_1 ∧ Aside0 (laws_markText.l0 kq x0_1 x3_1 = some r) ∧ Aside0 (kq ≤ k) ∧ Aside0 (Below w.heap.size w w'))
  case atStart => exact ⟨(a0), ((⟨#[]⟩ : ByteArray)), (by first | rfl | (simp; done) | (simp [*]; done)), (by first | rfl | (simp; done) | (simp [*]; done)), H', ⟨Nat.le_refl _⟩, ⟨by repeat (first | (with_reducible first | exact HB.out | apply below_alloc | apply pw_below_drewN | apply below_drew1) | exact HB.out)⟩⟩
  case round =>
   clear H'; try clear c2
   try clear c2b0
   try clear p2
   obtain ⟨x0_1, x3_1, rfl, rfl, HA, HK1, HB⟩ := hrel; cases gk with
   | zero => exact absurd HA.out (by simp [laws_markText.l0])
   | succ k1 =>
    have H := HA.out; clear HA; simp only [laws_markText.l0] at H; by_cases c3 : x0_1 > 0
    ·
     rw [if_pos c3] at H; have c3b0 : decide (0 < x0_1) = true := decide_eq_true c3; clear c3; obtain ⟨y273, hy273⟩ : ∃ y_ : List Int, y_ = (([(wrap64 (48 + (Int.tmod x0_1 10))) % 256] : List Int)) := ⟨_, rfl⟩
     replace H : (if (strOfNums y273).size + x3_1.size ≤ 9223372036854775807 then (laws_markText.l0 k1 (wrap64 (Int.tdiv x0_1 10)) ((strOfNums y273) ++ x3_1)) else (none)) = some r := by first | (rw [hy273]; with_reducible exact H) | (have H2_ := (Option.bind_some _ _).symm.trans H; rw [hy273]; with_reducible exact H2_) | (have H2_ := (Option.bind_some _ _).symm.trans H; with_reducible exact H2_) | with_reducible exact H | (rw [hy273]; exact H) | exact H
     have Ny273 := Aside0.mk hy273; clear hy273; by_cases c4 : (strOfNums y273).size + x3_1.size ≤ 9223372036854775807
     ·
      rw [if_pos c4] at H; have c4b0 := eq_true c4; have c4b1 : decide ((strOfNums y273).size + x3_1.size ≤ 9223372036854775807) = true := decide_eq_true c4; try have c4b2 : (9223372036854775807 < (strOfNums y273).size + x3_1.size) = False := eq_false (Nat.not_lt.2 c4)
      have H' := Aside0.mk H; clear H; go_wp2_with (first | ((with_reducible refine gate_dst (N := 12) rfl ?_); refine Kd.R_lit (Kd.int .u8) _ 5 ?hg (N := 12) ?hd (xs := ([(wrap64 (48 + (Int.tmod x0_1 10))) % 256] : List Int)) (inner := [.int .u8 ((wrap64 (48 + (Int.tmod x0_1 10))) % 256)]) (ok := fun _ => True) (okp := fun _ => True) ?hr ?hp (fun _ hk => hk) trivial (Below.refl _ _) (Nat.le_refl _) (by simp) ?_; (case hd => rfl); (case hg => rfl); (case hr => first | (go_simp; done) | (go_simp; rfl)); (case hp => exact (Reps.one (show Kd.M (Kd.int .u8) _ _ _ ((wrap64 (48 + (Int.tmod x0_1 10))) % 256) [.int .u8 ((wrap64 (48 + (Int.tmod x0_1 10))) % 256)] from rfl) (Reps.none _ _))); intro v274 w5 ho6 hb hg_ hnew_; clear hg_ hnew_; (first | rw [← Ny273.out] at ho6 | (simp only [Int.reduceToNat] at ho6; rw [← Ny273.out] at ho6)); have n0_ := Aside0.mk (Kd.R_lower ho6 (below_size (by repeat (first | (with_reducible first | exact HB.out | apply below_alloc | apply pw_below_drewN | apply below_drew1) | exact HB.out)))); have n1_ := Aside0.mk (below_step (by repeat (first | (with_reducible first | exact HB.out | apply below_alloc | apply pw_below_drewN | apply below_drew1) | exact HB.out)) hb); clear HB; have HO275 := n0_; have HB := n1_; clear n0_ n1_; clear hb ho6; have hcv7 := own_string (P := Tryd.prog) Tryd.underlying33 Tryd.underlying5 Tryd.underlying9 (Kd.own_of_R HO275.out)))
      go_roundg k1
      case measure => have := HK1.out; omega
      case rel => exact ⟨(wrap64 (Int.tdiv x0_1 10)), ((strOfNums y273) ++ x3_1), (by first | rfl | (simp; done) | (simp [*]; done)), (by first | rfl | (simp; done) | (simp [*]; done)), H', ⟨by have := HK1.out; omega⟩, ⟨by repeat (first | (with_reducible first | exact HB.out | apply below_alloc | apply pw_below_drewN | apply below_drew1) | exact HB.out)⟩⟩
     ·
      rw [if_neg c4] at H; exact absurd H (by simp)
    ·
     rw [if_neg c3] at H; have c3b0 : decide (0 < x0_1) = false := decide_eq_false c3; clear c3; by_cases c8 : 1 + x3_1.size ≤ 9223372036854775807
     ·
      rw [if_pos c8] at H; have c8b0 := eq_true c8; have c8b1 : decide (1 + x3_1.size ≤ 9223372036854775807) = true := decide_eq_true c8; try have c8b2 : (9223372036854775807 < 1 + x3_1.size) = False := eq_false (Nat.not_lt.2 c8)
      obtain rfl := Option.some.inj H; go_wp2; go_ret
      exact ⟨by first | rfl | (simp [errW_none, errW_some] <;> rfl) | (simp [*, errW_none, errW_some] <;> rfl), by repeat (first | (with_reducible first | exact HB.out | apply below_alloc | apply pw_below_drewN | apply below_drew1) | exact HB.out)⟩
     ·
      rw [if_neg c8] at H; exact absurd H (by simp)

end Go.Proofs.YtmacedbpdhkagaaDoor.PFnExactTonaryJoin
namespace Go.Proofs.YtmacedbpdhkagaaDoor.PFnExactTonaryJoin
open Go.RowKit Go.Proofs.YtmacedbpdhkagaaDoorW.PrintWords Go.Proofs.YtmacedbpdhkagaaDoorW.PrintLast Go.Proofs.YtmacedbpdhkagaaDoorW.PrintMore
attribute [local go_sem] max2_int min2_int max_two min_two max_three min_three max_four min_four   -- for this text's walks alone
set_option linter.unusedVariables false
set_option linter.unusedSimpArgs false

def laws_heldEntryS.l0 : Nat → List (S38) → Int → Int → Option (Int)
 | 0, _, _, _ => none
 | k + 1, x0, x1, x5 => if x5 < (x0.length : Int) then (if 0 ≤ x5 then ((laws_markText.f k x1).bind fun t280 => (if ((rd_T38 x0 x5).f0).toList = t280.toList then (if ((rd_T38 x0 x5).f1) = (wrap64 (x1 + 1)) then ((laws_heldToneS.f k ((rd_T38 x0 x5).f2) (wrap64 ((wrap64 (x1 + 1)) + 1))).bind fun t283 => (if t283 < 0 then (some (-1)) else (laws_heldEntryS.l0 k x0 t283 (wrap64 (x5 + 1))))) else (some (-1))) else (some (-1)))) else (none)) else (some x1)
def laws_heldEntryS.f (k : Nat) (l0 : List (S38)) (a1 : Int) : Option (Int) := laws_heldEntryS.l0 k l0 a1 0
def laws_heldEntryS.T4 : Bool × List (List Nat × List Nat) := (true, [([], []), ([], []), ([0, 1], [0, 1]), ([2], [2]), ([3], [3]), ([], []), ([5], [5]), ([4, 6], [4, 6])])
def laws_heldEntryS.B4 : List Nat := [0, 0, 3, 7, 15, 0, 32, 127]
theorem laws_heldEntryS.tab4 : rtab .any (opsOf Tryd.f19 4) = laws_heldEntryS.T4 := by kernel_rfl
theorem laws_heldEntryS.bits4 : waitsOk laws_heldEntryS.T4.2 laws_heldEntryS.B4 = true := by kernel_rfl
set_option maxHeartbeats 8000000 in
set_option maxRecDepth 100000 in
theorem laws_heldEntryS.calls (k : Nat) (A0 : Option Addr) (c0 : Nat) (l0 : List (S38)) (a1 : Int) (r : Int) (w : World) (hr0 : Kd.C k38 w A0 l0.length l0) (hc0 : l0.length ≤ c0) (h : laws_heldEntryS.f k l0 a1 = some r) :
 Calls Tryd.prog 19 #[.slice A0 l0.length c0, .int .i64 a1] w fun e w' => e = .returned (.int .i64 r) ∧ Below w.heap.size w w' := by
 have HR0 := Aside0.mk hr0; have HC0 := Aside0.mk hc0; clear hr0 hc0; have HB := Aside0.mk (Below.refl w.heap.size w); have H : (laws_heldEntryS.l0 k l0 a1 0) = some r := h; clear h; have H' := Aside0.mk H; clear H; go_enter Tryd.func19, Tryd.ntmps19
 go_wp2; go_loopg [1, 5] k (fun kq v1 v5 w' => ∃ (x1_1 : Int) (x5_1 : Int), v1 = .int .i64 x1_1 ∧ v5 = .int .i64 x5_1 ∧ Aside0 (laws_heldEntryS.l0 kq l0 x1_1 x5_1 = some r) ∧ Aside0 (kq ≤ k) ∧ Aside0 (Below w.heap.size w w'))
 case atStart => exact ⟨(a1), (0), (by first | rfl | (simp; done) | (simp [*]; done)), (by first | rfl | (simp; done) | (simp [*]; done)), H', ⟨Nat.le_refl _⟩, ⟨by repeat (first | (with_reducible first | exact HB.out | apply below_alloc | apply pw_below_drewN | apply below_drew1) | exact HB.out)⟩⟩
 case round =>
  clear H'; try clear c1
  try clear p2
  obtain ⟨x1_1, x5_1, rfl, rfl, HA, HK1, HB⟩ := hrel; cases gk with
  | zero => exact absurd HA.out (by simp [laws_heldEntryS.l0])
  | succ k1 =>
   have H := HA.out; clear HA; simp only [laws_heldEntryS.l0] at H; by_cases c3 : x5_1 < (l0.length : Int)
   ·
    rw [if_pos c3] at H; have c3b0 : decide (x5_1 < (l0.length : Int)) = true := decide_eq_true c3; clear c3; by_cases c4 : 0 ≤ x5_1
    ·
     rw [if_pos c4] at H; have c4b0 : decide (0 ≤ x5_1) = true := decide_eq_true c4; clear c4; replace H := Option.bind_eq_some_iff.mp H; obtain ⟨t280, A50, H⟩ := H; replace H : (if ((rd_T38 l0 x5_1).f0).toList = t280.toList then (if ((rd_T38 l0 x5_1).f1) = (wrap64 (x1_1 + 1)) then ((laws_heldToneS.f k1 ((rd_T38 l0 x5_1).f2) (wrap64 ((wrap64 (x1_1 + 1)) + 1))).bind fun t283 => (if t283 < 0 then (some (-1)) else (laws_heldEntryS.l0 k1 l0 t283 (wrap64 (x5_1 + 1))))) else (some (-1))) else (some (-1))) = some r := H; have A5 := Aside0.mk A50; clear A50; by_cases c6 : ((rd_T38 l0 x5_1).f0).toList = t280.toList
     ·
      rw [if_pos c6] at H; have c6b0 : (((rd_T38 l0 x5_1).f0).toList == t280.toList) = true := beq_iff_eq.mpr c6; have c6b1 : (((rd_T38 l0 x5_1).f0).toList != t280.toList) = false := bne_eq_false_iff_eq.mpr c6; clear c6; by_cases c7 : ((rd_T38 l0 x5_1).f1) = (wrap64 (x1_1 + 1))
      ·
       rw [if_pos c7] at H; have c7b0 : (((rd_T38 l0 x5_1).f1) == (wrap64 (x1_1 + 1))) = true := beq_iff_eq.mpr c7; have c7b1 : (((rd_T38 l0 x5_1).f1) != (wrap64 (x1_1 + 1))) = false := bne_eq_false_iff_eq.mpr c7; clear c7; replace H := Option.bind_eq_some_iff.mp H; obtain ⟨t283, A80, H⟩ := H; replace H : (if t283 < 0 then (some (-1)) else (laws_heldEntryS.l0 k1 l0 t283 (wrap64 (x5_1 + 1)))) = some r := H; have A8 := Aside0.mk A80; clear A80; by_cases c9 : t283 < 0
       ·
        rw [if_pos c9] at H; have c9b0 : decide (t283 < 0) = true := decide_eq_true c9; clear c9; obtain rfl := Option.some.inj H; try go_wp2
        have n0_ := Aside0.mk (below_drew1 HB.out); clear HB; have HB := n0_; clear n0_; have p279 : 0 ≤ (x5_1 : Int) := of_decide_eq_true (by first | (with_reducible assumption) | assumption); have q279 : x5_1 < (l0.length : Int) := of_decide_eq_true (by first | (with_reducible assumption) | assumption); obtain ⟨ad279, A279_2, c279_2, e279, hx279_0, hx279_1, hx279_2, hl279_2, hi279_2⟩ := at_T38 HR0.out x5_1 p279 q279; have hq279_2 := hx279_2; have hw279_2 := hx279_2; have hw279_1 := hx279_1; have hw279_0 := hx279_0; cases e279; replace hx279_0 := (HB.out.cell (World.block_lt_of_cell? w _ hx279_0)).trans hx279_0; replace hx279_1 := (HB.out.cell (World.block_lt_of_cell? w _ hx279_1)).trans hx279_1; replace hx279_2 := (HB.out.cell (World.block_lt_of_cell? w _ hx279_2)).trans hx279_2; have HR279_2 := Aside0.mk hi279_2; have HC279_2 := Aside0.mk hl279_2; clear hi279_2 hl279_2; replace p279 := eq_true p279; replace q279 := eq_true q279; refine start_ (n := 8) (S := fun w' => w'.cell? (ad279.add ((x5_1).toNat * 3)) = some (.string ((rd_T38 l0 x5_1).f0)) ∧ w'.cell? ⟨(ad279.add ((x5_1).toNat * 3)).block, (ad279.add ((x5_1).toNat * 3)).off + 1, none⟩ = some (.int .i64 ((rd_T38 l0 x5_1).f1)) ∧ w'.cell? ⟨(ad279.add ((x5_1).toNat * 3)).block, (ad279.add ((x5_1).toNat * 3)).off + 2, none⟩ = some (.slice A279_2 ((rd_T38 l0 x5_1).f2).length c279_2)) (ds := []) (rowB 8 0) (by kernel_rfl) rfl rfl ⟨((HB.out.cell (World.block_lt_of_cell? w _ hw279_0)).trans hw279_0), ((HB.out.cell (World.block_lt_of_cell? w _ hw279_1)).trans hw279_1), ((HB.out.cell (World.block_lt_of_cell? w _ hw279_2)).trans hw279_2)⟩ (fun hHeld => ?_); refine with_tabW laws_heldEntryS.tab4 laws_heldEntryS.bits4 (fun HT_ HW_ => ?_); generalize wr.drew = w10 at HB HR279_2 hx279_0 hx279_1 hx279_2 hHeld ⊢; refine pure_ (i := 0) (N := some 12) (v := ?_) (a' := ?_) (rowB 8 1) rfl rfl (any_of HT_.out (by kernel_rfl)) (fun _ _ _ h => h) (Or.inl ⟨by rfl, ?_⟩) ?_ ?_; rotate_left; (· intro w'; go_simp; with_reducible rfl); rotate_left; (· simp only [Act.put, List.setIfInBounds_toArray, List.set_cons_zero, List.set_cons_succ, i64_w, i32_w]; rfl); refine pure_ (i := 1) (N := some 13) (v := ?_) (a' := ?_) (rowB 8 3) rfl rfl (any_of HT_.out (by kernel_rfl)) (fun _ _ _ h => h) (Or.inl ⟨by rfl, ?_⟩) ?_ ?_; rotate_left; (· intro w'; go_simp; with_reducible rfl); rotate_left; (· simp only [Act.put, List.setIfInBounds_toArray, List.set_cons_zero, List.set_cons_succ, i64_w, i32_w]; rfl); refine pure_ (i := 2) (N := some 14) (v := ?_) (a' := ?_) (rowB 8 7) rfl rfl (any_of HT_.out (by kernel_rfl)) (fun _ _ _ h => h) (Or.inl ⟨by rfl, ?_⟩) ?_ ?_; rotate_left; (· intro w'; go_simp; with_reducible rfl); rotate_left; (· simp only [Act.put, List.setIfInBounds_toArray, List.set_cons_zero, List.set_cons_succ, i64_w, i32_w]; rfl); refine pure_ (i := 3) (N := some 15) (v := ?_) (a' := ?_) (rowB 8 15) rfl rfl (any_of HT_.out (by kernel_rfl)) (fun _ _ _ h => h) (Or.inl ⟨by rfl, ?_⟩) ?_ ?_; rotate_left; (· intro w'; go_simp; with_reducible rfl); rotate_left; (· simp only [Act.put, List.setIfInBounds_toArray, List.set_cons_zero, List.set_cons_succ, i64_w, i32_w]; rfl); refine pure_ (i := 5) (N := some 17) (v := ?_) (a' := ?_) (rowB 8 47) rfl rfl (any_of HT_.out (by kernel_rfl)) (fun _ _ _ h => h) (Or.inl ⟨by rfl, ?_⟩) ?_ ?_; rotate_left; (· intro w'; go_simp; with_reducible rfl); rotate_left; (· simp only [Act.put, List.setIfInBounds_toArray, List.set_cons_zero, List.set_cons_succ, i64_w, i32_w]; rfl); refine take_ (i := 4) (N := some 16) (v := ?_) (a' := ?_) (rowB 8 63) rfl rfl (take_ofW HT_.out HW_.out (by kernel_rfl)) (fun _ _ _ h => h) (Or.inl ⟨by rfl, ?_⟩) hHeld ?_ ?_; rotate_left; (· rintro w' ⟨s0, s1, s2⟩; go_simp; with_reducible rfl); rotate_left; (· simp only [Act.put, List.setIfInBounds_toArray, List.set_cons_zero, List.set_cons_succ, i64_w, i32_w]; rfl); refine one_ (i := 6) (N := some 18) (rowB 8 127) rfl rfl (one_of HT_.out (by kernel_rfl)) (by decide) (fun K hK => ?_); refine goes_ Tryd.func58 (by kernel_rfl) rfl #[.int .i64 x1_1] (by rfl) rfl rfl (by (try simp only [List.map_toArray, List.map_cons, List.map_nil]); first | done | rfl | (simp only [List.length_drop, List.length_take]; rfl)) ?_; with_reducible refine (laws_markText.calls k1 x1_1 t280 _ A5.out).mono ?_
        rintro e w11 ⟨rfl, hb⟩; refine ⟨_, rfl, ?_⟩; have n0_ := Aside0.mk (below_step (by repeat (first | (with_reducible first | exact HB.out | apply below_alloc | apply pw_below_drewN | apply below_drew1) | exact HB.out)) hb); clear HB; have HB := n0_; clear n0_; (try clear hb)
        (try clear hb2)
        (try clear hk)
        (try clear hi)
        refine hK.out _ _ ⟨((HB.out.cell (World.block_lt_of_cell? w _ hw279_0)).trans hw279_0), ((HB.out.cell (World.block_lt_of_cell? w _ hw279_1)).trans hw279_1), ((HB.out.cell (World.block_lt_of_cell? w _ hw279_2)).trans hw279_2)⟩ (fun hHeld => ?_); clear hK K; refine norm_ (a' := ?_) ?_ ?_; rotate_left; (· show Act.put _ (some 18) _ = _; simp only [Act.put, List.setIfInBounds_toArray, List.set_cons_zero, List.set_cons_succ, i64_w, i32_w]; rfl); refine pure_ (i := 7) (N := some 19) (v := ?_) (a' := ?_) (rowB 8 255) rfl rfl (any_of HT_.out (by kernel_rfl)) (fun _ _ _ h => h) (Or.inl ⟨by rfl, ?_⟩) ?_ ?_; rotate_left; (· intro w'; go_simp; with_reducible rfl); rotate_left; (· simp only [Act.put, List.setIfInBounds_toArray, List.set_cons_zero, List.set_cons_succ, i64_w, i32_w]; rfl); refine done_ (done_of HT_.out (by kernel_rfl)) ?_; have p281 : 0 ≤ (x5_1 : Int) := of_decide_eq_true (by first | (with_reducible assumption) | assumption); have q281 : x5_1 < (l0.length : Int) := of_decide_eq_true (by first | (with_reducible assumption) | assumption); obtain ⟨ad281, A281_2, c281_2, e281, hx281_0, hx281_1, hx281_2, hl281_2, hi281_2⟩ := at_T38 HR0.out x5_1 p281 q281; obtain rfl : ad279 = ad281 := (by injection e281)
        obtain ⟨rfl, rfl⟩ : A279_2 = A281_2 ∧ c279_2 = c281_2 := by have h_ := hq279_2.symm.trans hx281_2; injection h_ with h_; injection h_ with e1_ _ e3_; exact ⟨e1_, e3_⟩
        replace hx281_0 := (HB.out.cell (World.block_lt_of_cell? w _ hx281_0)).trans hx281_0; replace hx281_1 := (HB.out.cell (World.block_lt_of_cell? w _ hx281_1)).trans hx281_1; replace hx281_2 := (HB.out.cell (World.block_lt_of_cell? w _ hx281_2)).trans hx281_2; have HR281_2 := Aside0.mk hi281_2; have HC281_2 := Aside0.mk hl281_2; clear hi281_2 hl281_2; replace p281 := eq_true p281; replace q281 := eq_true q281; have p282 : 0 ≤ (x5_1 : Int) := of_decide_eq_true (by first | (with_reducible assumption) | assumption); have q282 : x5_1 < (l0.length : Int) := of_decide_eq_true (by first | (with_reducible assumption) | assumption); obtain ⟨ad282, A282_2, c282_2, e282, hx282_0, hx282_1, hx282_2, hl282_2, hi282_2⟩ := at_T38 HR0.out x5_1 p282 q282; obtain rfl : ad279 = ad282 := (by injection e282)
        obtain ⟨rfl, rfl⟩ : A279_2 = A282_2 ∧ c279_2 = c282_2 := by have h_ := hq279_2.symm.trans hx282_2; injection h_ with h_; injection h_ with e1_ _ e3_; exact ⟨e1_, e3_⟩
        replace hx282_0 := (HB.out.cell (World.block_lt_of_cell? w _ hx282_0)).trans hx282_0; replace hx282_1 := (HB.out.cell (World.block_lt_of_cell? w _ hx282_1)).trans hx282_1; replace hx282_2 := (HB.out.cell (World.block_lt_of_cell? w _ hx282_2)).trans hx282_2; have HR282_2 := Aside0.mk hi282_2; have HC282_2 := Aside0.mk hl282_2; clear hi282_2 hl282_2; replace p282 := eq_true p282; replace q282 := eq_true q282; try go_wp2_with (first | ((with_reducible refine gate_callee (f := 59) rfl ?_); refine goesL_ (some 37) rfl rfl Tryd.func59 (by kernel_rfl) rfl #[.slice A279_2 ((rd_T38 l0 x5_1).f2).length c279_2, .int .i64 (wrap64 ((wrap64 (x1_1 + 1)) + 1))] rfl (by (try simp only [List.map_toArray, List.map_cons, List.map_nil]); first | done | rfl | (simp only [List.length_drop, List.length_take]; rfl)) ?_; (with_reducible refine (laws_heldToneS.calls k1 _ _ ((rd_T38 l0 x5_1).f2) (wrap64 ((wrap64 (x1_1 + 1)) + 1)) t283 _ ?side1 ?side2 A8.out).mono ?_); (case side1 => repeat (first | exact (Kd.C_below HR282_2.out HB.out) | (with_reducible refine Kd.C_alloc ?_ _) | (with_reducible refine Kd.C_drewN ?_ _) | (with_reducible refine Kd.C_drew ?_))); (case side2 => exact HC282_2.out); rintro e w' ⟨rfl, ⟨nd, rfl⟩⟩; refine ⟨_, rfl, ?_⟩))
        go_ret
        exact ⟨by first | rfl | (simp [errW_none, errW_some] <;> rfl) | (simp [*, errW_none, errW_some] <;> rfl), by repeat (first | (with_reducible first | exact HB.out | apply below_alloc | apply pw_below_drewN | apply below_drew1) | exact HB.out)⟩
       ·
        rw [if_neg c9] at H; have c9b0 : decide (t283 < 0) = false := decide_eq_false c9; clear c9; have H' := Aside0.mk H; clear H; try go_wp2
        have n0_ := Aside0.mk (below_drew1 HB.out); clear HB; have HB := n0_; clear n0_; have p279 : 0 ≤ (x5_1 : Int) := of_decide_eq_true (by first | (with_reducible assumption) | assumption); have q279 : x5_1 < (l0.length : Int) := of_decide_eq_true (by first | (with_reducible assumption) | assumption); obtain ⟨ad279, A279_2, c279_2, e279, hx279_0, hx279_1, hx279_2, hl279_2, hi279_2⟩ := at_T38 HR0.out x5_1 p279 q279; have hq279_2 := hx279_2; have hw279_2 := hx279_2; have hw279_1 := hx279_1; have hw279_0 := hx279_0; cases e279; replace hx279_0 := (HB.out.cell (World.block_lt_of_cell? w _ hx279_0)).trans hx279_0; replace hx279_1 := (HB.out.cell (World.block_lt_of_cell? w _ hx279_1)).trans hx279_1; replace hx279_2 := (HB.out.cell (World.block_lt_of_cell? w _ hx279_2)).trans hx279_2; have HR279_2 := Aside0.mk hi279_2; have HC279_2 := Aside0.mk hl279_2; clear hi279_2 hl279_2; replace p279 := eq_true p279; replace q279 := eq_true q279; refine start_ (n := 8) (S := fun w' => w'.cell? (ad279.add ((x5_1).toNat * 3)) = some (.string ((rd_T38 l0 x5_1).f0)) ∧ w'.cell? ⟨(ad279.add ((x5_1).toNat * 3)).block, (ad279.add ((x5_1).toNat * 3)).off + 1, none⟩ = some (.int .i64 ((rd_T38 l0 x5_1).f1)) ∧ w'.cell? ⟨(ad279.add ((x5_1).toNat * 3)).block, (ad279.add ((x5_1).toNat * 3)).off + 2, none⟩ = some (.slice A279_2 ((rd_T38 l0 x5_1).f2).length c279_2)) (ds := []) (rowB 8 0) (by kernel_rfl) rfl rfl ⟨((HB.out.cell (World.block_lt_of_cell? w _ hw279_0)).trans hw279_0), ((HB.out.cell (World.block_lt_of_cell? w _ hw279_1)).trans hw279_1), ((HB.out.cell (World.block_lt_of_cell? w _ hw279_2)).trans hw279_2)⟩ (fun hHeld => ?_); refine with_tabW laws_heldEntryS.tab4 laws_heldEntryS.bits4 (fun HT_ HW_ => ?_); generalize wr.drew = w12 at HB HR279_2 hx279_0 hx279_1 hx279_2 hHeld ⊢; refine pure_ (i := 0) (N := some 12) (v := ?_) (a' := ?_) (rowB 8 1) rfl rfl (any_of HT_.out (by kernel_rfl)) (fun _ _ _ h => h) (Or.inl ⟨by rfl, ?_⟩) ?_ ?_; rotate_left; (· intro w'; go_simp; with_reducible rfl); rotate_left; (· simp only [Act.put, List.setIfInBounds_toArray, List.set_cons_zero, List.set_cons_succ, i64_w, i32_w]; rfl); refine pure_ (i := 1) (N := some 13) (v := ?_) (a' := ?_) (rowB 8 3) rfl rfl (any_of HT_.out (by kernel_rfl)) (fun _ _ _ h => h) (Or.inl ⟨by rfl, ?_⟩) ?_ ?_; rotate_left; (· intro w'; go_simp; with_reducible rfl); rotate_left; (· simp only [Act.put, List.setIfInBounds_toArray, List.set_cons_zero, List.set_cons_succ, i64_w, i32_w]; rfl); refine pure_ (i := 2) (N := some 14) (v := ?_) (a' := ?_) (rowB 8 7) rfl rfl (any_of HT_.out (by kernel_rfl)) (fun _ _ _ h => h) (Or.inl ⟨by rfl, ?_⟩) ?_ ?_; rotate_left; (· intro w'; go_simp; with_reducible rfl); rotate_left; (· simp only [Act.put, List.setIfInBounds_toArray, List.set_cons_zero, List.set_cons_succ, i64_w, i32_w]; rfl); refine pure_ (i := 3) (N := some 15) (v := ?_) (a' := ?_) (rowB 8 15) rfl rfl (any_of HT_.out (by kernel_rfl)) (fun _ _ _ h => h) (Or.inl ⟨by rfl, ?_⟩) ?_ ?_; rotate_left; (· intro w'; go_simp; with_reducible rfl); rotate_left; (· simp only [Act.put, List.setIfInBounds_toArray, List.set_cons_zero, List.set_cons_succ, i64_w, i32_w]; rfl); refine pure_ (i := 5) (N := some 17) (v := ?_) (a' := ?_) (rowB 8 47) rfl rfl (any_of HT_.out (by kernel_rfl)) (fun _ _ _ h => h) (Or.inl ⟨by rfl, ?_⟩) ?_ ?_; rotate_left; (· intro w'; go_simp; with_reducible rfl); rotate_left; (· simp only [Act.put, List.setIfInBounds_toArray, List.set_cons_zero, List.set_cons_succ, i64_w, i32_w]; rfl); refine take_ (i := 4) (N := some 16) (v := ?_) (a' := ?_) (rowB 8 63) rfl rfl (take_ofW HT_.out HW_.out (by kernel_rfl)) (fun _ _ _ h => h) (Or.inl ⟨by rfl, ?_⟩) hHeld ?_ ?_; rotate_left; (· rintro w' ⟨s0, s1, s2⟩; go_simp; with_reducible rfl); rotate_left; (· simp only [Act.put, List.setIfInBounds_toArray, List.set_cons_zero, List.set_cons_succ, i64_w, i32_w]; rfl); refine one_ (i := 6) (N := some 18) (rowB 8 127) rfl rfl (one_of HT_.out (by kernel_rfl)) (by decide) (fun K hK => ?_); refine goes_ Tryd.func58 (by kernel_rfl) rfl #[.int .i64 x1_1] (by rfl) rfl rfl (by (try simp only [List.map_toArray, List.map_cons, List.map_nil]); first | done | rfl | (simp only [List.length_drop, List.length_take]; rfl)) ?_; with_reducible refine (laws_markText.calls k1 x1_1 t280 _ A5.out).mono ?_
        rintro e w13 ⟨rfl, hb⟩; refine ⟨_, rfl, ?_⟩; have n0_ := Aside0.mk (below_step (by repeat (first | (with_reducible first | exact HB.out | apply below_alloc | apply pw_below_drewN | apply below_drew1) | exact HB.out)) hb); clear HB; have HB := n0_; clear n0_; (try clear hb)
        (try clear hb2)
        (try clear hk)
        (try clear hi)
        refine hK.out _ _ ⟨((HB.out.cell (World.block_lt_of_cell? w _ hw279_0)).trans hw279_0), ((HB.out.cell (World.block_lt_of_cell? w _ hw279_1)).trans hw279_1), ((HB.out.cell (World.block_lt_of_cell? w _ hw279_2)).trans hw279_2)⟩ (fun hHeld => ?_); clear hK K; refine norm_ (a' := ?_) ?_ ?_; rotate_left; (· show Act.put _ (some 18) _ = _; simp only [Act.put, List.setIfInBounds_toArray, List.set_cons_zero, List.set_cons_succ, i64_w, i32_w]; rfl); refine pure_ (i := 7) (N := some 19) (v := ?_) (a' := ?_) (rowB 8 255) rfl rfl (any_of HT_.out (by kernel_rfl)) (fun _ _ _ h => h) (Or.inl ⟨by rfl, ?_⟩) ?_ ?_; rotate_left; (· intro w'; go_simp; with_reducible rfl); rotate_left; (· simp only [Act.put, List.setIfInBounds_toArray, List.set_cons_zero, List.set_cons_succ, i64_w, i32_w]; rfl); refine done_ (done_of HT_.out (by kernel_rfl)) ?_; have p281 : 0 ≤ (x5_1 : Int) := of_decide_eq_true (by first | (with_reducible assumption) | assumption); have q281 : x5_1 < (l0.length : Int) := of_decide_eq_true (by first | (with_reducible assumption) | assumption); obtain ⟨ad281, A281_2, c281_2, e281, hx281_0, hx281_1, hx281_2, hl281_2, hi281_2⟩ := at_T38 HR0.out x5_1 p281 q281; obtain rfl : ad279 = ad281 := (by injection e281)
        obtain ⟨rfl, rfl⟩ : A279_2 = A281_2 ∧ c279_2 = c281_2 := by have h_ := hq279_2.symm.trans hx281_2; injection h_ with h_; injection h_ with e1_ _ e3_; exact ⟨e1_, e3_⟩
        replace hx281_0 := (HB.out.cell (World.block_lt_of_cell? w _ hx281_0)).trans hx281_0; replace hx281_1 := (HB.out.cell (World.block_lt_of_cell? w _ hx281_1)).trans hx281_1; replace hx281_2 := (HB.out.cell (World.block_lt_of_cell? w _ hx281_2)).trans hx281_2; have HR281_2 := Aside0.mk hi281_2; have HC281_2 := Aside0.mk hl281_2; clear hi281_2 hl281_2; replace p281 := eq_true p281; replace q281 := eq_true q281; have p282 : 0 ≤ (x5_1 : Int) := of_decide_eq_true (by first | (with_reducible assumption) | assumption); have q282 : x5_1 < (l0.length : Int) := of_decide_eq_true (by first | (with_reducible assumption) | assumption); obtain ⟨ad282, A282_2, c282_2, e282, hx282_0, hx282_1, hx282_2, hl282_2, hi282_2⟩ := at_T38 HR0.out x5_1 p282 q282; obtain rfl : ad279 = ad282 := (by injection e282)
        obtain ⟨rfl, rfl⟩ : A279_2 = A282_2 ∧ c279_2 = c282_2 := by have h_ := hq279_2.symm.trans hx282_2; injection h_ with h_; injection h_ with e1_ _ e3_; exact ⟨e1_, e3_⟩
        replace hx282_0 := (HB.out.cell (World.block_lt_of_cell? w _ hx282_0)).trans hx282_0; replace hx282_1 := (HB.out.cell (World.block_lt_of_cell? w _ hx282_1)).trans hx282_1; replace hx282_2 := (HB.out.cell (World.block_lt_of_cell? w _ hx282_2)).trans hx282_2; have HR282_2 := Aside0.mk hi282_2; have HC282_2 := Aside0.mk hl282_2; clear hi282_2 hl282_2; replace p282 := eq_true p282; replace q282 := eq_true q282; try go_wp2_with (first | ((with_reducible refine gate_callee (f := 59) rfl ?_); refine goesL_ (some 37) rfl rfl Tryd.func59 (by kernel_rfl) rfl #[.slice A279_2 ((rd_T38 l0 x5_1).f2).length c279_2, .int .i64 (wrap64 ((wrap64 (x1_1 + 1)) + 1))] rfl (by (try simp only [List.map_toArray, List.map_cons, List.map_nil]); first | done | rfl | (simp only [List.length_drop, List.length_take]; rfl)) ?_; (with_reducible refine (laws_heldToneS.calls k1 _ _ ((rd_T38 l0 x5_1).f2) (wrap64 ((wrap64 (x1_1 + 1)) + 1)) t283 _ ?side1 ?side2 A8.out).mono ?_); (case side1 => repeat (first | exact (Kd.C_below HR282_2.out HB.out) | (with_reducible refine Kd.C_alloc ?_ _) | (with_reducible refine Kd.C_drewN ?_ _) | (with_reducible refine Kd.C_drew ?_))); (case side2 => exact HC282_2.out); rintro e w' ⟨rfl, ⟨nd, rfl⟩⟩; refine ⟨_, rfl, ?_⟩))
        go_roundg k1
        case measure => have := HK1.out; omega
        case rel => exact ⟨(t283), (wrap64 (x5_1 + 1)), (by first | rfl | (simp; done) | (simp [*]; done)), (by first | rfl | (simp; done) | (simp [*]; done)), H', ⟨by have := HK1.out; omega⟩, ⟨by repeat (first | (with_reducible first | exact HB.out | apply below_alloc | apply pw_below_drewN | apply below_drew1) | exact HB.out)⟩⟩
      ·
       rw [if_neg c7] at H; have c7b0 : (((rd_T38 l0 x5_1).f1) == (wrap64 (x1_1 + 1))) = false := beq_eq_false_iff_ne.mpr c7; have c7b1 : (((rd_T38 l0 x5_1).f1) != (wrap64 (x1_1 + 1))) = true := bne_iff_ne.mpr c7; obtain rfl := Option.some.inj H; try go_wp2
       have n0_ := Aside0.mk (below_drew1 HB.out); clear HB; have HB := n0_; clear n0_; have p279 : 0 ≤ (x5_1 : Int) := of_decide_eq_true (by first | (with_reducible assumption) | assumption); have q279 : x5_1 < (l0.length : Int) := of_decide_eq_true (by first | (with_reducible assumption) | assumption); obtain ⟨ad279, A279_2, c279_2, e279, hx279_0, hx279_1, hx279_2, hl279_2, hi279_2⟩ := at_T38 HR0.out x5_1 p279 q279; have hq279_2 := hx279_2; have hw279_2 := hx279_2; have hw279_1 := hx279_1; have hw279_0 := hx279_0; cases e279; replace hx279_0 := (HB.out.cell (World.block_lt_of_cell? w _ hx279_0)).trans hx279_0; replace hx279_1 := (HB.out.cell (World.block_lt_of_cell? w _ hx279_1)).trans hx279_1; replace hx279_2 := (HB.out.cell (World.block_lt_of_cell? w _ hx279_2)).trans hx279_2; have HR279_2 := Aside0.mk hi279_2; have HC279_2 := Aside0.mk hl279_2; clear hi279_2 hl279_2; replace p279 := eq_true p279; replace q279 := eq_true q279; refine start_ (n := 8) (S := fun w' => w'.cell? (ad279.add ((x5_1).toNat * 3)) = some (.string ((rd_T38 l0 x5_1).f0)) ∧ w'.cell? ⟨(ad279.add ((x5_1).toNat * 3)).block, (ad279.add ((x5_1).toNat * 3)).off + 1, none⟩ = some (.int .i64 ((rd_T38 l0 x5_1).f1)) ∧ w'.cell? ⟨(ad279.add ((x5_1).toNat * 3)).block, (ad279.add ((x5_1).toNat * 3)).off + 2, none⟩ = some (.slice A279_2 ((rd_T38 l0 x5_1).f2).length c279_2)) (ds := []) (rowB 8 0) (by kernel_rfl) rfl rfl ⟨((HB.out.cell (World.block_lt_of_cell? w _ hw279_0)).trans hw279_0), ((HB.out.cell (World.block_lt_of_cell? w _ hw279_1)).trans hw279_1), ((HB.out.cell (World.block_lt_of_cell? w _ hw279_2)).trans hw279_2)⟩ (fun hHeld => ?_); refine with_tabW laws_heldEntryS.tab4 laws_heldEntryS.bits4 (fun HT_ HW_ => ?_); generalize wr.drew = w14 at HB HR279_2 hx279_0 hx279_1 hx279_2 hHeld ⊢; refine pure_ (i := 0) (N := some 12) (v := ?_) (a' := ?_) (rowB 8 1) rfl rfl (any_of HT_.out (by kernel_rfl)) (fun _ _ _ h => h) (Or.inl ⟨by rfl, ?_⟩) ?_ ?_; rotate_left; (· intro w'; go_simp; with_reducible rfl); rotate_left; (· simp only [Act.put, List.setIfInBounds_toArray, List.set_cons_zero, List.set_cons_succ, i64_w, i32_w]; rfl); refine pure_ (i := 1) (N := some 13) (v := ?_) (a' := ?_) (rowB 8 3) rfl rfl (any_of HT_.out (by kernel_rfl)) (fun _ _ _ h => h) (Or.inl ⟨by rfl, ?_⟩) ?_ ?_; rotate_left; (· intro w'; go_simp; with_reducible rfl); rotate_left; (· simp only [Act.put, List.setIfInBounds_toArray, List.set_cons_zero, List.set_cons_succ, i64_w, i32_w]; rfl); refine pure_ (i := 2) (N := some 14) (v := ?_) (a' := ?_) (rowB 8 7) rfl rfl (any_of HT_.out (by kernel_rfl)) (fun _ _ _ h => h) (Or.inl ⟨by rfl, ?_⟩) ?_ ?_; rotate_left; (· intro w'; go_simp; with_reducible rfl); rotate_left; (· simp only [Act.put, List.setIfInBounds_toArray, List.set_cons_zero, List.set_cons_succ, i64_w, i32_w]; rfl); refine pure_ (i := 3) (N := some 15) (v := ?_) (a' := ?_) (rowB 8 15) rfl rfl (any_of HT_.out (by kernel_rfl)) (fun _ _ _ h => h) (Or.inl ⟨by rfl, ?_⟩) ?_ ?_; rotate_left; (· intro w'; go_simp; with_reducible rfl); rotate_left; (· simp only [Act.put, List.setIfInBounds_toArray, List.set_cons_zero, List.set_cons_succ, i64_w, i32_w]; rfl); refine pure_ (i := 5) (N := some 17) (v := ?_) (a' := ?_) (rowB 8 47) rfl rfl (any_of HT_.out (by kernel_rfl)) (fun _ _ _ h => h) (Or.inl ⟨by rfl, ?_⟩) ?_ ?_; rotate_left; (· intro w'; go_simp; with_reducible rfl); rotate_left; (· simp only [Act.put, List.setIfInBounds_toArray, List.set_cons_zero, List.set_cons_succ, i64_w, i32_w]; rfl); refine take_ (i := 4) (N := some 16) (v := ?_) (a' := ?_) (rowB 8 63) rfl rfl (take_ofW HT_.out HW_.out (by kernel_rfl)) (fun _ _ _ h => h) (Or.inl ⟨by rfl, ?_⟩) hHeld ?_ ?_; rotate_left; (· rintro w' ⟨s0, s1, s2⟩; go_simp; with_reducible rfl); rotate_left; (· simp only [Act.put, List.setIfInBounds_toArray, List.set_cons_zero, List.set_cons_succ, i64_w, i32_w]; rfl); refine one_ (i := 6) (N := some 18) (rowB 8 127) rfl rfl (one_of HT_.out (by kernel_rfl)) (by decide) (fun K hK => ?_); refine goes_ Tryd.func58 (by kernel_rfl) rfl #[.int .i64 x1_1] (by rfl) rfl rfl (by (try simp only [List.map_toArray, List.map_cons, List.map_nil]); first | done | rfl | (simp only [List.length_drop, List.length_take]; rfl)) ?_; with_reducible refine (laws_markText.calls k1 x1_1 t280 _ A5.out).mono ?_
       rintro e w15 ⟨rfl, hb⟩; refine ⟨_, rfl, ?_⟩; have n0_ := Aside0.mk (below_step (by repeat (first | (with_reducible first | exact HB.out | apply below_alloc | apply pw_below_drewN | apply below_drew1) | exact HB.out)) hb); clear HB; have HB := n0_; clear n0_; (try clear hb)
       (try clear hb2)
       (try clear hk)
       (try clear hi)
       refine hK.out _ _ ⟨((HB.out.cell (World.block_lt_of_cell? w _ hw279_0)).trans hw279_0), ((HB.out.cell (World.block_lt_of_cell? w _ hw279_1)).trans hw279_1), ((HB.out.cell (World.block_lt_of_cell? w _ hw279_2)).trans hw279_2)⟩ (fun hHeld => ?_); clear hK K; refine norm_ (a' := ?_) ?_ ?_; rotate_left; (· show Act.put _ (some 18) _ = _; simp only [Act.put, List.setIfInBounds_toArray, List.set_cons_zero, List.set_cons_succ, i64_w, i32_w]; rfl); refine pure_ (i := 7) (N := some 19) (v := ?_) (a' := ?_) (rowB 8 255) rfl rfl (any_of HT_.out (by kernel_rfl)) (fun _ _ _ h => h) (Or.inl ⟨by rfl, ?_⟩) ?_ ?_; rotate_left; (· intro w'; go_simp; with_reducible rfl); rotate_left; (· simp only [Act.put, List.setIfInBounds_toArray, List.set_cons_zero, List.set_cons_succ, i64_w, i32_w]; rfl); refine done_ (done_of HT_.out (by kernel_rfl)) ?_; have p281 : 0 ≤ (x5_1 : Int) := of_decide_eq_true (by first | (with_reducible assumption) | assumption); have q281 : x5_1 < (l0.length : Int) := of_decide_eq_true (by first | (with_reducible assumption) | assumption); obtain ⟨ad281, A281_2, c281_2, e281, hx281_0, hx281_1, hx281_2, hl281_2, hi281_2⟩ := at_T38 HR0.out x5_1 p281 q281; obtain rfl : ad279 = ad281 := (by injection e281)
       obtain ⟨rfl, rfl⟩ : A279_2 = A281_2 ∧ c279_2 = c281_2 := by have h_ := hq279_2.symm.trans hx281_2; injection h_ with h_; injection h_ with e1_ _ e3_; exact ⟨e1_, e3_⟩
       replace hx281_0 := (HB.out.cell (World.block_lt_of_cell? w _ hx281_0)).trans hx281_0; replace hx281_1 := (HB.out.cell (World.block_lt_of_cell? w _ hx281_1)).trans hx281_1; replace hx281_2 := (HB.out.cell (World.block_lt_of_cell? w _ hx281_2)).trans hx281_2; have HR281_2 := Aside0.mk hi281_2; have HC281_2 := Aside0.mk hl281_2; clear hi281_2 hl281_2; replace p281 := eq_true p281; replace q281 := eq_true q281; try go_wp2
       go_ret
       exact ⟨by first | rfl | (simp [errW_none, errW_some] <;> rfl) | (simp [*, errW_none, errW_some] <;> rfl), by repeat (first | (with_reducible first | exact HB.out | apply below_alloc | apply pw_below_drewN | apply below_drew1) | exact HB.out)⟩
     ·
      rw [if_neg c6] at H; have c6b0 : (((rd_T38 l0 x5_1).f0).toList == t280.toList) = false := beq_eq_false_iff_ne.mpr c6; have c6b1 : (((rd_T38 l0 x5_1).f0).toList != t280.toList) = true := bne_iff_ne.mpr c6; obtain rfl := Option.some.inj H; try go_wp2
      have n0_ := Aside0.mk (below_drew1 HB.out); clear HB; have HB := n0_; clear n0_; have p279 : 0 ≤ (x5_1 : Int) := of_decide_eq_true (by first | (with_reducible assumption) | assumption); have q279 : x5_1 < (l0.length : Int) := of_decide_eq_true (by first | (with_reducible assumption) | assumption); obtain ⟨ad279, A279_2, c279_2, e279, hx279_0, hx279_1, hx279_2, hl279_2, hi279_2⟩ := at_T38 HR0.out x5_1 p279 q279; have hq279_2 := hx279_2; have hw279_2 := hx279_2; have hw279_1 := hx279_1; have hw279_0 := hx279_0; cases e279; replace hx279_0 := (HB.out.cell (World.block_lt_of_cell? w _ hx279_0)).trans hx279_0; replace hx279_1 := (HB.out.cell (World.block_lt_of_cell? w _ hx279_1)).trans hx279_1; replace hx279_2 := (HB.out.cell (World.block_lt_of_cell? w _ hx279_2)).trans hx279_2; have HR279_2 := Aside0.mk hi279_2; have HC279_2 := Aside0.mk hl279_2; clear hi279_2 hl279_2; replace p279 := eq_true p279; replace q279 := eq_true q279; refine start_ (n := 8) (S := fun w' => w'.cell? (ad279.add ((x5_1).toNat * 3)) = some (.string ((rd_T38 l0 x5_1).f0)) ∧ w'.cell? ⟨(ad279.add ((x5_1).toNat * 3)).block, (ad279.add ((x5_1).toNat * 3)).off + 1, none⟩ = some (.int .i64 ((rd_T38 l0 x5_1).f1)) ∧ w'.cell? ⟨(ad279.add ((x5_1).toNat * 3)).block, (ad279.add ((x5_1).toNat * 3)).off + 2, none⟩ = some (.slice A279_2 ((rd_T38 l0 x5_1).f2).length c279_2)) (ds := []) (rowB 8 0) (by kernel_rfl) rfl rfl ⟨((HB.out.cell (World.block_lt_of_cell? w _ hw279_0)).trans hw279_0), ((HB.out.cell (World.block_lt_of_cell? w _ hw279_1)).trans hw279_1), ((HB.out.cell (World.block_lt_of_cell? w _ hw279_2)).trans hw279_2)⟩ (fun hHeld => ?_); refine with_tabW laws_heldEntryS.tab4 laws_heldEntryS.bits4 (fun HT_ HW_ => ?_); generalize wr.drew = w16 at HB HR279_2 hx279_0 hx279_1 hx279_2 hHeld ⊢; refine pure_ (i := 0) (N := some 12) (v := ?_) (a' := ?_) (rowB 8 1) rfl rfl (any_of HT_.out (by kernel_rfl)) (fun _ _ _ h => h) (Or.inl ⟨by rfl, ?_⟩) ?_ ?_; rotate_left; (· intro w'; go_simp; with_reducible rfl); rotate_left; (· simp only [Act.put, List.setIfInBounds_toArray, List.set_cons_zero, List.set_cons_succ, i64_w, i32_w]; rfl); refine pure_ (i := 1) (N := some 13) (v := ?_) (a' := ?_) (rowB 8 3) rfl rfl (any_of HT_.out (by kernel_rfl)) (fun _ _ _ h => h) (Or.inl ⟨by rfl, ?_⟩) ?_ ?_; rotate_left; (· intro w'; go_simp; with_reducible rfl); rotate_left; (· simp only [Act.put, List.setIfInBounds_toArray, List.set_cons_zero, List.set_cons_succ, i64_w, i32_w]; rfl); refine pure_ (i := 2) (N := some 14) (v := ?_) (a' := ?_) (rowB 8 7) rfl rfl (any_of HT_.out (by kernel_rfl)) (fun _ _ _ h => h) (Or.inl ⟨by rfl, ?_⟩) ?_ ?_; rotate_left; (· intro w'; go_simp; with_reducible rfl); rotate_left; (· simp only [Act.put, List.setIfInBounds_toArray, List.set_cons_zero, List.set_cons_succ, i64_w, i32_w]; rfl); refine pure_ (i := 3) (N := some 15) (v := ?_) (a' := ?_) (rowB 8 15) rfl rfl (any_of HT_.out (by kernel_rfl)) (fun _ _ _ h => h) (Or.inl ⟨by rfl, ?_⟩) ?_ ?_; rotate_left; (· intro w'; go_simp; with_reducible rfl); rotate_left; (· simp only [Act.put, List.setIfInBounds_toArray, List.set_cons_zero, List.set_cons_succ, i64_w, i32_w]; rfl); refine pure_ (i := 5) (N := some 17) (v := ?_) (a' := ?_) (rowB 8 47) rfl rfl (any_of HT_.out (by kernel_rfl)) (fun _ _ _ h => h) (Or.inl ⟨by rfl, ?_⟩) ?_ ?_; rotate_left; (· intro w'; go_simp; with_reducible rfl); rotate_left; (· simp only [Act.put, List.setIfInBounds_toArray, List.set_cons_zero, List.set_cons_succ, i64_w, i32_w]; rfl); refine take_ (i := 4) (N := some 16) (v := ?_) (a' := ?_) (rowB 8 63) rfl rfl (take_ofW HT_.out HW_.out (by kernel_rfl)) (fun _ _ _ h => h) (Or.inl ⟨by rfl, ?_⟩) hHeld ?_ ?_; rotate_left; (· rintro w' ⟨s0, s1, s2⟩; go_simp; with_reducible rfl); rotate_left; (· simp only [Act.put, List.setIfInBounds_toArray, List.set_cons_zero, List.set_cons_succ, i64_w, i32_w]; rfl); refine one_ (i := 6) (N := some 18) (rowB 8 127) rfl rfl (one_of HT_.out (by kernel_rfl)) (by decide) (fun K hK => ?_); refine goes_ Tryd.func58 (by kernel_rfl) rfl #[.int .i64 x1_1] (by rfl) rfl rfl (by (try simp only [List.map_toArray, List.map_cons, List.map_nil]); first | done | rfl | (simp only [List.length_drop, List.length_take]; rfl)) ?_; with_reducible refine (laws_markText.calls k1 x1_1 t280 _ A5.out).mono ?_
      rintro e w17 ⟨rfl, hb⟩; refine ⟨_, rfl, ?_⟩; have n0_ := Aside0.mk (below_step (by repeat (first | (with_reducible first | exact HB.out | apply below_alloc | apply pw_below_drewN | apply below_drew1) | exact HB.out)) hb); clear HB; have HB := n0_; clear n0_; (try clear hb)
      (try clear hb2)
      (try clear hk)
      (try clear hi)
      refine hK.out _ _ ⟨((HB.out.cell (World.block_lt_of_cell? w _ hw279_0)).trans hw279_0), ((HB.out.cell (World.block_lt_of_cell? w _ hw279_1)).trans hw279_1), ((HB.out.cell (World.block_lt_of_cell? w _ hw279_2)).trans hw279_2)⟩ (fun hHeld => ?_); clear hK K; refine norm_ (a' := ?_) ?_ ?_; rotate_left; (· show Act.put _ (some 18) _ = _; simp only [Act.put, List.setIfInBounds_toArray, List.set_cons_zero, List.set_cons_succ, i64_w, i32_w]; rfl); refine pure_ (i := 7) (N := some 19) (v := ?_) (a' := ?_) (rowB 8 255) rfl rfl (any_of HT_.out (by kernel_rfl)) (fun _ _ _ h => h) (Or.inl ⟨by rfl, ?_⟩) ?_ ?_; rotate_left; (· intro w'; go_simp; with_reducible rfl); rotate_left; (· simp only [Act.put, List.setIfInBounds_toArray, List.set_cons_zero, List.set_cons_succ, i64_w, i32_w]; rfl); refine done_ (done_of HT_.out (by kernel_rfl)) ?_; try go_wp2
      go_ret
      exact ⟨by first | rfl | (simp [errW_none, errW_some] <;> rfl) | (simp [*, errW_none, errW_some] <;> rfl), by repeat (first | (with_reducible first | exact HB.out | apply below_alloc | apply pw_below_drewN | apply below_drew1) | exact HB.out)⟩
    ·
     rw [if_neg c4] at H; exact absurd H (by simp)
   ·
    rw [if_neg c3] at H; have c3b0 : decide (x5_1 < (l0.length : Int)) = false := decide_eq_false c3; clear c3; obtain rfl := Option.some.inj H; go_wp2; go_ret
    exact ⟨by first | rfl | (simp [errW_none, errW_some] <;> rfl) | (simp [*, errW_none, errW_some] <;> rfl), by repeat (first | (with_reducible first | exact HB.out | apply below_alloc | apply pw_below_drewN | apply below_drew1) | exact HB.out)⟩

end Go.Proofs.YtmacedbpdhkagaaDoor.PFnExactTonaryJoin
namespace Go.Proofs.YtmacedbpdhkagaaDoor.Pure
set_option linter.unusedVariables false
set_option linter.unusedSimpArgs false
open Go Go.RowKit Go.Proofs.YtmacedbpdhkagaaDoor.PFnExactTonaryJoin Go.Proofs.YtmacedbpdhkagaaDoorW.PrintWords Go.Proofs.YtmacedbpdhkagaaDoorW.PrintLast Go.Proofs.YtmacedbpdhkagaaDoorW.PrintMore

def mTextTo : Nat → Int → ByteArray → ByteArray
 | 0, _, o => o
 | n + 1, k, o => if k > 0 then mTextTo n (wrap64 (Int.tdiv k 10)) (strOfNums [(wrap64 (48 + (Int.tmod k 10))) % 256] ++ o) else o
def mText (k : Int) : ByteArray := if k ≤ 0 then ⟨#[109, 48]⟩ else (⟨#[109]⟩ : ByteArray) ++ mTextTo 14 k ⟨#[]⟩
theorem markText_l0 : ∀ (n : Nat) (k : Int) (o : ByteArray), 0 ≤ k → k < 10 ^ n → k ≤ 100000000000000 → o.size + n ≤ 1000 → Ev (fun j => laws_markText.l0 j k o) ((⟨#[109]⟩ : ByteArray) ++ mTextTo n k o)
 | 0, k, o, h0, h1, _, ho => by
  have : k = 0 := by simp at h1; omega
  subst this
  refine Ev.succ ?_
  simp only [laws_markText.l0]
  exact Ev.neg (by omega) (Ev.pos (by omega) (Ev.now _))
 | n + 1, k, o, h0, h1, h2, ho => by
  refine Ev.succ ?_
  simp only [laws_markText.l0]
  by_cases h : k > 0
  ·
   have hd : Int.tdiv k 10 = k / 10 := Int.tdiv_eq_ediv_of_nonneg h0
   have hw : wrap64 (Int.tdiv k 10) = k / 10 := by rw [hd, w64 (by omega) (by omega)]
   have e : mTextTo (n + 1) k o = mTextTo n (wrap64 (Int.tdiv k 10)) (strOfNums [(wrap64 (48 + (Int.tmod k 10))) % 256] ++ o) := if_pos h
   have hs := strOfNums_size [(wrap64 (48 + (Int.tmod k 10))) % 256]
   simp only [List.length_cons, List.length_nil, Nat.zero_add] at hs
   rw [e]
   refine Ev.pos h (Ev.conb rfl (Ev.pos (by omega) ?_))
   refine markText_l0 n _ _ (by rw [hw]; omega) ?_ (by rw [hw]; omega) ?_
   ·
    rw [hw]
    have e10 : (10 : Int) ^ (n + 1) = 10 ^ n * 10 := Int.pow_succ 10 n
    omega
   ·
    rw [ByteArray.size_append]; omega
  ·
   have e : mTextTo (n + 1) k o = o := if_neg h
   rw [e]
   exact Ev.neg h (Ev.pos (by omega) (Ev.now _))
theorem markText_ev (k : Int) (h0 : 0 ≤ k) (h1 : k < 100000000000000) : Ev (fun j => laws_markText.f j k) (mText k) := by
 unfold laws_markText.f mText
 by_cases h : k ≤ 0
 ·
  rw [if_pos h]; exact Ev.pos h (Ev.now _)
 ·
  rw [if_neg h]; exact Ev.neg h (markText_l0 14 k ⟨#[]⟩ h0 (by omega) (by omega) (by show 0 + 14 ≤ 1000; omega))

theorem heldToneS_ev (n : Nat) (a : Int) (ha : 0 ≤ a) (ha' : a ≤ 1000000000000000) (hl : n ≤ 1000000000000000) : Ev (fun k => laws_heldToneS.f k (markTone n a) a) (a + 2 * n) := by
 unfold laws_heldToneS.f
 have := Ev.over z90 (markTone n a) (fun k (s : Int) i => laws_heldToneS.l0 k (markTone n a) s i) (fun s rest => s + 2 * (rest.length : Int)) (fun i s => s = a + 2 * i) (by
  intro s hs
  refine Ev.succ ?_
  simp only [laws_heldToneS.l0]
  refine Ev.eqr (Ev.neg (by omega) (Ev.now _)) ?_
  simp) (by
  intro s i rest hs hi hdr ih
  rw [markTone_len] at hi
  have hg : rd_T90 (markTone n a) i = ⟨a + 2 * i, Int.tmod (a + 2 * i + 1) 3 == 0⟩ := markTone_get n a i hi
  refine Ev.succ ?_
  simp only [laws_heldToneS.l0]
  rw [hg, markTone_len]
  subst hs
  rw [w64 (x := a + 2 * i + 1) (by omega) (by omega), w64 (x := a + 2 * i + 1 + 1) (by omega) (by omega), w64 (by omega) (by omega)]
  refine Ev.pos (by omega) (Ev.pos (by omega) (Ev.pos rfl (Ev.neg (by simp) ?_)))
  refine Ev.eqr (ih _ (by omega)) ?_
  simp only [List.length_cons]; omega) 0 a (Nat.zero_le _) (by simp)
 simpa [markTone_len] using this
def emk : List S38 → Int
 | [] => 0
 | x :: xs => (2 + 2 * (x.f2.length : Int)) + emk xs
def markEntry : List S38 → Int → List S38
 | [], _ => []
 | x :: xs, a => ⟨mText a, a + 1, markTone x.f2.length (a + 2)⟩ :: markEntry xs (a + (2 + 2 * (x.f2.length : Int)))
theorem markEntry_len : ∀ l a, (markEntry l a).length = l.length
 | [], _ => rfl
 | x :: xs, a => by simp [markEntry, markEntry_len xs]
theorem emk_nn : ∀ l, 0 ≤ emk l
 | [] => by simp [emk]
 | x :: xs => by have := emk_nn xs; simp only [emk]; omega
theorem emk_sz : ∀ l, emk l ≤ 2 * EntrySz l
 | [] => by simp [emk, EntrySz, esz]
 | x :: xs => by
  have := emk_sz xs
  unfold EntrySz at this ⊢
  simp only [emk, esz, List.length_cons]; omega
theorem emk_app : ∀ a b, emk (a ++ b) = emk a + emk b
 | [], b => by simp [emk]
 | x :: xs, b => by
  rw [List.cons_append]; simp only [emk]; rw [emk_app xs b]; omega
theorem markEntry_app : ∀ (A : List S38) (B : List S38) a, markEntry (A ++ B) a = markEntry A a ++ markEntry B (a + emk A)
 | [], B, a => by simp [markEntry, emk]
 | x :: xs, B, a => by
  simp only [List.cons_append, markEntry, emk]
  rw [markEntry_app xs B]
  congr 3; omega
theorem ent_split {l : List S38} {i : Nat} (hi : i < l.length) : ∃ A x B, l = A ++ x :: B ∧ A.length = i :=
 ⟨l.take i, l[i], l.drop (i + 1), by rw [← List.drop_eq_getElem_cons hi, List.take_append_drop], by rw [List.length_take]; omega⟩
theorem getD_set_self {α : Type} (l : List α) (i : Nat) (x z : α) (hi : i < l.length) : (l.set i x).getD i z = x := by
 rw [List.getD_eq_getElem?_getD, List.getElem?_set_self hi]; rfl
set_option maxHeartbeats 4000000 in
set_option maxRecDepth 100000 in
theorem EntryS_mark (l : List S38) (a : Int) (s t : Nat) (v : Value) (w0 w : World) (ha : 0 ≤ a) (ha' : a ≤ 1000000000000) (hl : EntrySz l ≤ 1000000000000) (hB : Below w0.heap.size w0 w) (ho : OwnS k38 38 w w0.heap.size s t v l) :
 Calls Tryd.prog 18 #[v, .int .i64 a] w fun e w' => ∃ r, e = .returned (.int .i64 r) ∧ r = a + emk l ∧ OwnS k38 38 w' w0.heap.size s t v (markEntry l a) ∧ Below w0.heap.size w0 w' ∧ Kept w w' (fun k => s ≤ k ∧ k < t) := by
 unfold OwnS at ho ⊢
 have HB := Aside0.mk hB
 have HO := Aside0.mk ho
 obtain ⟨A, c, rfl⟩ := Kd.S_slice ho
 clear hB ho
 have hll := EntrySz_len l
 have hmm := emk_sz l
 go_enter Tryd.func18, Tryd.ntmps18
 go_wp2
 go_loopg [1, 5] l.length (fun kq v1 v5 w' => ∃ (i : Nat) (K : Int) (J : List S38), v5 = .int .i64 (i : Int) ∧ v1 = .int .i64 K ∧ Aside0 (kq = l.length - i ∧ i ≤ l.length ∧ K = a + emk (l.take i) ∧ J = markEntry (l.take i) a ++ l.drop i) ∧ Aside0 (Kd.S k38 38 w' w0.heap.size (fun k => s ≤ k ∧ k < t) (.slice A l.length c) J) ∧ Aside0 (Kept w w' (fun k => s ≤ k ∧ k < t)) ∧ Aside0 (Below w0.heap.size w0 w'))
 case atStart => exact ⟨0, a, l, rfl, rfl, ⟨by simp [emk, markEntry]⟩, ⟨by (with_reducible repeat (first | apply Kd.S_alloc | apply Kd.S_drewN | apply Kd.S_drew)); exact HO.out⟩, ⟨by repeat (first | exact Kept.refl _ _ | apply Kept.drewN | apply Kept.drew)⟩, ⟨by repeat (first | (with_reducible first | exact HB.out | apply below_alloc | apply pw_below_drewN | apply below_drew1) | exact HB.out)⟩⟩
 case round =>
  obtain ⟨i, K, J, rfl, rfl, HX, HO1, HK, HB1⟩ := hrel
  obtain ⟨hkq, hil, hK, hJ⟩ := HX.out
  by_cases hi : (i : Int) < (l.length : Int)
  ·
   have d1 : decide ((i : Int) < (l.length : Int)) = true := decide_eq_true hi
   obtain ⟨P, x, B, hsp, hPl⟩ := ent_split (show i < l.length by omega)
   have hPt : l.take i = P := by rw [hsp, ← hPl]; simp
   have hPd : l.drop i = x :: B := by rw [hsp, ← hPl]; simp
   have hPt1 : l.take (i + 1) = P ++ [x] := by rw [hsp, ← hPl, List.take_append]; simp [List.take_of_length_le]
   have hPd1 : l.drop (i + 1) = B := by rw [hsp, ← hPl, List.drop_append]; simp
   rw [hPt] at hK
   rw [hPt, hPd] at hJ
   have hsz : emk l = emk P + (2 + 2 * (x.f2.length : Int)) + emk B := by rw [hsp, emk_app]; simp only [emk]; omega
   have hPn := emk_nn P
   have hBn := emk_nn B
   have hJl : J.length = l.length := by rw [hJ, hsp]; simp [markEntry_len]
   have hJx : J.getD (i : Int).toNat z38 = x := by
    rw [hJ, Int.toNat_natCast, List.getD_eq_getElem?_getD, List.getElem?_append_right (by rw [markEntry_len]; omega), markEntry_len, hPl]; simp
   obtain ⟨kt, hkt⟩ := Ev.rounds (markText_ev K (by omega) (by omega))
   obtain ⟨kk, hmk⟩ := Ev.rounds (markToneS_ev x.f2 (K + 2) (by omega) (by omega) (by omega))
   obtain ⟨T, hT⟩ : ∃ T, T = mText K := ⟨_, rfl⟩
   obtain ⟨L, hL⟩ : ∃ L : Int, L = K + 2 + 2 * (x.f2.length : Int) := ⟨_, rfl⟩
   obtain ⟨M, hM⟩ : ∃ M, M = markTone x.f2.length (K + 2) := ⟨_, rfl⟩
   rw [← hL, ← hM] at hmk
   rw [← hT] at hkt
   rw [show K + 2 = K + 1 + 1 by omega] at hmk
   have HKT := Aside0.mk hkt
   have HMK := Aside0.mk hmk
   obtain ⟨J1, hJ1⟩ : ∃ J1, J1 = J.set (i : Int).toNat ⟨T, x.f1, x.f2⟩ := ⟨_, rfl⟩
   obtain ⟨J2, hJ2⟩ : ∃ J2, J2 = J1.set (i : Int).toNat ⟨T, K + 1, x.f2⟩ := ⟨_, rfl⟩
   obtain ⟨J3, hJ3⟩ : ∃ J3, J3 = J2.set (i : Int).toNat ⟨T, K + 1, M⟩ := ⟨_, rfl⟩
   have hJx1 : J1.getD (i : Int).toNat z38 = ⟨T, x.f1, x.f2⟩ := by rw [hJ1]; exact getD_set_self _ _ _ _ (by rw [Int.toNat_natCast, hJl]; omega)
   have hJx2 : J2.getD (i : Int).toNat z38 = ⟨T, K + 1, x.f2⟩ := by rw [hJ2]; exact getD_set_self _ _ _ _ (by rw [hJ1, List.length_set, Int.toNat_natCast, hJl]; omega)
   have NX : Aside0 (l.length - (i + 1) < gk ∧ i + 1 ≤ l.length ∧ L = a + emk (l.take (i + 1)) ∧ J3 = markEntry (l.take (i + 1)) a ++ l.drop (i + 1)) := by
    refine ⟨by omega, by omega, ?_, ?_⟩
    ·
     rw [hPt1, emk_app]
     simp only [emk]
     omega
    ·
     rw [hJ3, hJ2, hJ1, hPt1, hPd1, markEntry_app, List.set_set, List.set_set, hJ, Int.toNat_natCast, List.set_append_right _ _ (by rw [markEntry_len]; omega), markEntry_len, hPl, Nat.sub_self]
     simp only [List.set_cons_zero, markEntry, List.append_assoc, List.singleton_append]
     rw [hM, hT, hK]
   have HJ1 := Aside0.mk hJ1
   have HJ2 := Aside0.mk hJ2
   have HJ3 := Aside0.mk hJ3
   have HX0 := Aside0.mk hJx
   have HX1 := Aside0.mk hJx1
   have HX2 := Aside0.mk hJx2
   have bK : 0 ≤ K ∧ K ≤ 3000000000000 := by omega
   have bL : 0 ≤ L ∧ L ≤ 3000000000000 := by omega
   have bi : i ≤ 1000000000000 := by omega
   obtain ⟨g, cap, e0, _, _, _⟩ := Kd.S_form HO1.out (by omega)
   injection e0 with e1 e2 e3
   subst e1
   clear e2 e3
   have p0 : (0 : Int) ≤ (i : Int) := by omega
   have p1 : (i : Int) < ((l.length : Nat) : Int) := hi
   clear hT hL hM hmk hkt hJ1 hJ2 hJ3 hJx hJx1 hJx2 hJl hJ hsz hsp hPt hPd hPt1 hPd1 hPl hK hPn hBn hmm hll
   have q0 := eq_true p0
   have q1 := eq_true p1
   have w1K : K + 1 ≤ 9223372036854775807 := by omega
   go_wp2_with (first
    | (go_at_call 58; go_loud (refine (laws_markText.calls kt K T _ HKT.out).mono ?_; rintro e w1 ⟨rfl, hb1⟩; have hS1 := Kd.S_below HO1.out hb1; obtain ⟨oki, ce, _, hM0, hcc0, hfr0, _, hH0⟩ := Kd.S_elem hS1 z38 (i : Int) p0 p1; rw [HX0.out] at hM0; obtain ⟨v0, rfl, hR0⟩ := k38_openM hM0; have hseg := Kd.S_seg0 hH0 p0 p1 (seg := [.string T]) (j := 0) (show 0 + 1 ≤ 3 from by decide) (x' := (⟨T, x.f1, x.f2⟩ : S38)) (k38_mkM _ _ _ (⟨T, x.f1, x.f2⟩ : S38) hR0) (fun _ h => h); have hx0 := hcc0 0 _ rfl; have hf0 := hfr0 0; simp only [show (k38).sz = 3 from rfl, Nat.add_zero, Int.toNat_natCast] at hx0 hf0; have HS := Aside0.mk hseg; have HKa := Aside0.mk (HK.out.below hb1); have HBa := Aside0.mk (below_step HB1.out hb1); clear hseg hH0 hcc0 hfr0 hM0 hS1 hb1 hR0))
    | ((with_reducible refine gate_store (t := 9) (p := 17) rfl ?_); go_loud (refine store_event (t := 9) (p := 17) (v := ?vo_wa) (w1 := (w1.setCell ⟨g, i * 3, none⟩ (.string T))) ?hg ?ho ?hn ?hr ?_; (case ho => rfl); (case hg => rfl); (case hn => rfl); (case hr => first | (go_simp; done) | (go_simp; rfl)); intro w2 hw; have hS2 := (show Kd.S k38 38 w2 w0.heap.size (fun k => s ≤ k ∧ k < t) (.slice (some ⟨g, 0, none⟩) l.length c) J1 from (by rw [hw, HJ1.out]; exact HS.out.1)); have HBb := Aside0.mk (show Below w0.heap.size w0 w2 from (by rw [hw]; exact below_set HBa.out (by assumption))); have HKb := Aside0.mk (show Kept w w2 (fun k => s ≤ k ∧ k < t) from (by rw [hw]; exact Kept.of_grown HS.out.2 HKa.out (by rintro k rfl'; injection rfl' with e; subst e; exact .inl ((Kd.S_R HO1.out).1 _ rfl)))); obtain ⟨oki2, ce2, _, hM2, hcc2, hfr2, _, hH2⟩ := Kd.S_elem hS2 z38 (i : Int) p0 p1; rw [HX1.out] at hM2; obtain ⟨v2, rfl, hR2⟩ := k38_openM hM2; have hseg2 := Kd.S_seg0 hH2 p0 p1 (seg := [.int .i64 (K + 1)]) (j := 1) (show 1 + 1 ≤ 3 from by decide) (x' := (⟨T, K + 1, x.f2⟩ : S38)) (k38_mkM _ _ _ (⟨T, K + 1, x.f2⟩ : S38) hR2) (fun _ h => h); have hx1 := hcc2 1 _ rfl; have hf1 := hfr2 1; simp only [show (k38).sz = 3 from rfl, Int.toNat_natCast] at hx1 hf1; have HS2 := Aside0.mk hseg2; clear hw hS2 hM2 hcc2 hfr2 hH2 hseg2 hR2 hx0 hf0))
    | ((with_reducible refine gate_store (t := 3) (p := 24) rfl ?_); go_loud (refine store_event (t := 3) (p := 24) (v := ?vo_wb) (w1 := (w2.setCell ⟨g, i * 3 + 1, none⟩ (.int .i64 (K + 1)))) ?hg ?ho ?hn ?hr ?_; (case ho => rfl); (case hg => rfl); (case hn => rfl); (case hr => first | (go_simp; done) | (go_simp; rfl)); intro w3 hw; have hS3 := (show Kd.S k38 38 w3 w0.heap.size (fun k => s ≤ k ∧ k < t) (.slice (some ⟨g, 0, none⟩) l.length c) J2 from (by rw [hw, HJ2.out]; exact HS2.out.1)); have HBc := Aside0.mk (show Below w0.heap.size w0 w3 from (by rw [hw]; exact below_set HBb.out (by assumption))); have HKc := Aside0.mk (show Kept w w3 (fun k => s ≤ k ∧ k < t) from (by rw [hw]; exact Kept.of_grown HS2.out.2 HKb.out (by rintro k rfl'; injection rfl' with e; subst e; exact .inl ((Kd.S_R HO1.out).1 _ rfl)))); obtain ⟨oki3, ce3, _, hM3, hcc3, _, hoki3, hH3⟩ := Kd.S_elem hS3 z38 (i : Int) p0 p1; rw [HX2.out] at hM3; obtain ⟨v3, rfl, hR3⟩ := k38_openM hM3; obtain ⟨A3, c3, rfl⟩ := Kd.R_slice hR3; have hx2 := hcc3 2 _ rfl; simp only [show (k38).sz = 3 from rfl, Int.toNat_natCast] at hx2; have HR3 := Aside0.mk hR3; have HH3 := Aside0.mk hH3; have HOK3 := Aside0.mk hoki3; clear hw hS3 hM3 hcc3 hH3 hoki3 hR3 hx1 hf1))
    | (go_at_call 34; go_loud (refine (laws_markToneS.calls kk oki3 _ x.f2 (K + 1 + 1) _ _ w0 _ HBc.out HR3.out HMK.out).mono ?_; rintro e w4 ⟨rfl, hr4, hb4, hk4⟩; have hS4 := Kd.H_back (Kd.H_kept HH3.out hk4 (fun k _ hn => hn)) (x' := (⟨T, K + 1, M⟩ : S38)) (k38_mkM _ _ _ (⟨T, K + 1, M⟩ : S38) (Kd.R_reok rfl hr4 (fun k hk => HR3.out.1 k hk))) (fun _ hk => hk); have HO4 := Aside0.mk (show Kd.S k38 38 w4 w0.heap.size (fun k => s ≤ k ∧ k < t) (.slice (some ⟨g, 0, none⟩) l.length c) J3 from (by rw [HJ3.out]; exact hS4)); have HK4 := Aside0.mk (HKc.out.then_ hk4 (fun k hk => .inl (HOK3.out k hk).1)); have HB4 := Aside0.mk hb4; clear hS4 hr4 hb4 hk4 hx2)))
   go_roundg (l.length - (i + 1))
   case measure => exact NX.out.1
   case rel => exact ⟨i + 1, L, J3, by simp, rfl, ⟨rfl, NX.out.2⟩, HO4, HK4, HB4⟩
  ·
   have d1 : decide ((i : Int) < (l.length : Int)) = false := decide_eq_false hi
   obtain rfl : i = l.length := by omega
   rw [List.take_length] at hK
   rw [List.take_length, List.drop_length, List.append_nil] at hJ
   subst hK; subst hJ
   go_wp2
   go_ret
   exact ⟨_, rfl, rfl, HO1.out, HB1.out, HK.out⟩

theorem heldEntryS_ev (l : List S38) (a : Int) (ha : 0 ≤ a) (ha' : a ≤ 1000000000000) (hl : EntrySz l ≤ 1000000000000) : Ev (fun k => laws_heldEntryS.f k (markEntry l a) a) (a + emk l) := by
 unfold laws_heldEntryS.f
 have hll := EntrySz_len l
 have hmm := emk_sz l
 have := Ev.over z38 (markEntry l a) (fun k (s : Int) i => laws_heldEntryS.l0 k (markEntry l a) s i) (fun s rest => s + emk rest) (fun i s => (markEntry l a).drop i = markEntry (l.drop i) s ∧ 0 ≤ s ∧ s + emk (l.drop i) ≤ a + emk l) (by
  intro s hs
  refine Ev.succ ?_
  simp only [laws_heldEntryS.l0]
  refine Ev.eqr (Ev.neg (by omega) (Ev.now _)) ?_
  simp [emk]) (by
  intro s i rest hs hi hdr ih
  rw [markEntry_len] at hi
  obtain ⟨h1, h2, h3⟩ := hs
  obtain ⟨P, x, B, hsp, hPl⟩ := ent_split hi
  have hPd : l.drop i = x :: B := by rw [hsp, ← hPl]; simp
  have hPd1 : l.drop (i + 1) = B := by rw [hsp, ← hPl, List.drop_append]; simp
  rw [hPd] at h1 h3
  simp only [emk] at h3
  rw [hdr] at h1
  simp only [markEntry] at h1
  obtain ⟨h4, h5⟩ := List.cons.inj h1
  have hB := emk_nn B
  have hrd : rd_T38 (markEntry l a) (i : Int) = ⟨mText s, s + 1, markTone x.f2.length (s + 2)⟩ := h4
  refine Ev.succ ?_
  simp only [laws_heldEntryS.l0]
  rw [hrd, markEntry_len, h4]
  rw [w64 (x := s + 1) (by omega) (by omega), w64 (x := s + 1 + 1) (by omega) (by omega), w64 (x := (i : Int) + 1) (by omega) (by omega), show s + 1 + 1 = s + 2 by omega]
  refine Ev.pos (by omega) (Ev.pos (by omega) (Ev.bind (markText_ev s h2 (by omega)) (Ev.pos rfl (Ev.pos rfl (Ev.bind (heldToneS_ev x.f2.length (s + 2) (by omega) (by omega) (by omega)) (Ev.neg (by omega) ?_))))))
  refine Ev.eqr (ih _ ⟨?_, by omega, by rw [hPd1]; omega⟩) ?_
  ·
   rw [hPd1, show s + 2 + 2 * (x.f2.length : Int) = s + (2 + 2 * (x.f2.length : Int)) by omega, ← h5, ← List.drop_drop, hdr]; rfl
  ·
   simp only [emk, markTone_len]; omega) 0 a (Nat.zero_le _) ⟨rfl, ha, by simp⟩
 have e : ∀ l a, emk (markEntry l a) = emk l := by
  intro l
  induction l with
  | nil => intro a; rfl
  | cons x xs ih => intro a; simp only [markEntry, emk, markTone_len]; rw [ih]
 simpa [e] using this
theorem EntryS_held (l : List S38) (a : Int) (A : Option Addr) (c : Nat) (w : World) (ha : 0 ≤ a) (ha' : a ≤ 1000000000000) (hl : EntrySz l ≤ 1000000000000) (hr : Kd.C k38 w A l.length (markEntry l a)) (hc : l.length ≤ c) :
 Calls Tryd.prog 19 #[.slice A l.length c, .int .i64 a] w fun e w' => ∃ r, e = .returned (.int .i64 r) ∧ r = a + emk l ∧ Below w.heap.size w w' := by
 obtain ⟨k, h⟩ := Ev.rounds (heldEntryS_ev l a ha ha' hl)
 have hm := markEntry_len l a
 have hr' : Kd.C k38 w A (markEntry l a).length (markEntry l a) := by rw [hm]; exact hr
 have := laws_heldEntryS.calls k A c (markEntry l a) a _ w hr' (by omega) h
 rw [hm] at this
 refine this.mono ?_
 rintro e w' ⟨rfl, hd⟩
 exact ⟨_, rfl, rfl, hd⟩

end Go.Proofs.YtmacedbpdhkagaaDoor.Pure
namespace Go.Proofs.YtmacedbpdhkagaaDoor.Pure
set_option linter.unusedVariables false
set_option linter.unusedSimpArgs false
open Go Go.RowKit Go.Proofs.YtmacedbpdhkagaaDoor.PFnExactTonaryJoin Go.Proofs.YtmacedbpdhkagaaDoorW.PrintWords Go.Proofs.YtmacedbpdhkagaaDoorW.PrintLast Go.Proofs.YtmacedbpdhkagaaDoorW.PrintMore

theorem entSz_of {L : List S38} (h : EntrySz L ≤ 1000000000000) : entSz L = true :=
 List.all_eq_true.2 fun e he => decide_eq_true (by have := EntrySz_get he; omega)
theorem mrg_esz : ∀ (n : Nat) (a b Y : List S38), a.length + b.length ≤ n → mrg a b = some Y → EntrySz Y ≤ EntrySz a + EntrySz b
 | n, [], b, Y, _, h => by rw [mrg_nil] at h; cases h; have := EntrySz_nn ([] : List S38); omega
 | n, a :: us, [], Y, _, h => by rw [mrg_nil2] at h; cases h; have := EntrySz_nn ([] : List S38); omega
 | 0, a :: us, b :: ws, Y, hn, _ => by simp at hn
 | n + 1, a :: us, b :: ws, Y, hn, h => by
  simp only [List.length_cons] at hn
  have cons : ∀ (x : S38) (l : List S38), EntrySz (x :: l) = EntrySz l + 1 + ((x.f0.size : Int) + (x.f2.length : Int)) := fun x l => by unfold EntrySz; simp only [esz, List.length_cons]; omega
  rw [cons a us, cons b ws]
  cases h1 : befE a b
  ·
   cases h2 : befE b a
   ·
    rw [mrg_eq _ _ h1 h2] at h
    split at h
    ·
     obtain ⟨Z, hZ, rfl⟩ := Option.map_eq_some_iff.1 h
     have k1 := mrg_esz n us ws Z (by omega) hZ
     rw [cons a Z]
     omega
    ·
     cases h
   ·
    rw [mrg_gt _ _ h1 h2] at h
    obtain ⟨Z, hZ, rfl⟩ := Option.map_eq_some_iff.1 h
    have k1 := mrg_esz n (a :: us) ws Z (by simp only [List.length_cons]; omega) hZ
    rw [cons a us] at k1
    rw [cons b Z]
    omega
  ·
   rw [mrg_lt _ _ h1] at h
   obtain ⟨Z, hZ, rfl⟩ := Option.map_eq_some_iff.1 h
   have k1 := mrg_esz n us (b :: ws) Z (by simp only [List.length_cons]; omega) hZ
   rw [cons b ws] at k1
   rw [cons a Z]
   omega
theorem tonJoin_sz (a b : List S38) : EntrySz (tonJoin a b).1 ≤ EntrySz a + EntrySz b := by
 have h0 : EntrySz ([] : List S38) = 0 := rfl
 have ha := EntrySz_nn a
 have hb := EntrySz_nn b
 rw [tonJoin_eq]
 split
 ·
  split
  ·
   cases h : mrg a b with
   | none => show EntrySz [] ≤ _; omega
   | some Y =>
    have := mrg_esz _ a b Y (Nat.le_refl _) h
    show EntrySz (tonRes Y).1 ≤ _
    unfold tonRes
    split
    ·
     exact this
    ·
     show EntrySz [] ≤ _; omega
  ·
   show EntrySz [] ≤ _; omega
 ·
  show EntrySz [] ≤ _; omega
theorem spec_TonaryJoin_x (a b : List S38) (A0 : Option Addr) (c0 : Nat) (A1 : Option Addr) (c1 : Nat) (w : World) (hr0 : Kd.C k38 w A0 a.length a) (hc0 : a.length ≤ c0) (hr1 : Kd.C k38 w A1 b.length b) (hc1 : b.length ≤ c1) (hl0 : EntrySz a ≤ 10000000) (hl1 : EntrySz b ≤ 10000000) :
 Calls Tryd.prog 14 #[.slice A0 a.length c0, .slice A1 b.length c1] w fun r w' => ∃ v, r = .returned (.tuple #[v, .bool (tonJoin a b).2]) ∧ Kd.S k38 38 w' w.heap.size (fun _ => True) v (tonJoin a b).1 ∧ Below w.heap.size w w' := by
 obtain ⟨k, h⟩ := Ev.rounds (spec_TonaryJoin_ev a b (by have := EntrySz_len a; omega) (by have := EntrySz_len b; omega) (entSz_of (by omega)) (entSz_of (by omega)))
 exact (spec_TonaryJoin.calls k A0 c0 a A1 c1 b _ _ w hr0 hc0 hr1 hc1 h).mono (fun e w' h => h)
theorem impl_TonaryJoin_x (a b : List S38) (A0 : Option Addr) (c0 : Nat) (A1 : Option Addr) (c1 : Nat) (w : World) (ht : MTab w) (hr0 : Kd.C k38 w A0 a.length a) (hc0 : a.length ≤ c0) (hr1 : Kd.C k38 w A1 b.length b) (hc1 : b.length ≤ c1) (hl0 : EntrySz a ≤ 10000000) (hl1 : EntrySz b ≤ 10000000) :
 Calls Tryd.prog 16 #[.slice A0 a.length c0, .slice A1 b.length c1] w fun r w' => ∃ v, r = .returned (.tuple #[v, .bool (tonJoin a b).2]) ∧ Kd.S k38 38 w' w.heap.size (fun _ => True) v (tonJoin a b).1 ∧ Below w.heap.size w w' :=
 impl_TonaryJoin_calls a b A0 c0 A1 c1 w ht hr0 hc0 hr1 hc1 (entSz_of (by omega)) (entSz_of (by omega))

end Go.Proofs.YtmacedbpdhkagaaDoor.Pure
namespace Go.Proofs.YtmacedbpdhkagaaDoor.Pure
set_option linter.unusedVariables false
set_option linter.unusedSimpArgs false
open Go Go.RowKit Go.Proofs.YtmacedbpdhkagaaDoor.PFnExactTonaryJoin Go.Proofs.YtmacedbpdhkagaaDoorW.PrintWords Go.Proofs.YtmacedbpdhkagaaDoorW.PrintLast Go.Proofs.YtmacedbpdhkagaaDoorW.PrintMore

def Opn {α : Type} (P : Program) (t : TypeId) (d : Kd α) (ok : α → Prop) : Prop :=
 P.cellsOf t = d.sz ∧ ∀ {H : Type} (enc : TypeId × Value → H) (w : World) (base : Nat) (held : Bool) (fuel : Nat) (cs : List Value) (x : DataW H × List MemPlace), DataW.trod enc P w base (fun _ => true) held fuel t cs = some x → ∃ p, d.K w p cs ∧ ok p
theorem opn_int {P : Program} {t : TypeId} (k : IntKind) (ht : P.underlying t = some (.int k)) (hc : P.cellsOf t = 1) : Opn P t (Kd.int k) (fun n => (Lit.int k n).wf = true) :=
 ⟨hc, fun enc w base held fuel cs x h => by obtain ⟨n, rfl, _, hw⟩ := DataW.trod_int ht h; exact ⟨n, rfl, hw⟩⟩
theorem opn_bool {P : Program} {t : TypeId} (ht : P.underlying t = some .bool) (hc : P.cellsOf t = 1) : Opn P t Kd.bool (fun _ => True) :=
 ⟨hc, fun enc w base held fuel cs x h => by obtain ⟨n, rfl, _⟩ := DataW.trod_bool ht h; exact ⟨n, rfl, trivial⟩⟩
theorem opn_string {P : Program} {t : TypeId} (ht : P.underlying t = some .string) (hc : P.cellsOf t = 1) : Opn P t Kd.string (fun s => s.size ≤ maxLen) :=
 ⟨hc, fun enc w base held fuel cs x h => by obtain ⟨n, rfl, _, hs⟩ := DataW.trod_string ht h; exact ⟨n, rfl, hs⟩⟩
theorem opn_slice {α : Type} {P : Program} {t e : TypeId} {d : Kd α} {ok : α → Prop} (ht : P.underlying t = some (.slice e)) (hc : P.cellsOf t = 1) (he : Opn P e d ok) : Opn P t (Kd.slice e d) (fun l => (∀ x ∈ l, ok x) ∧ l.length ≤ maxLen) := by
 refine ⟨hc, fun enc w base held fuel cs x h => ?_⟩
 rcases Go.Deep.open_slice ht h with ⟨rfl, _⟩ | ⟨a, len, cap, m, n, D, Pl, rfl, _, hl, hm, hmm, _, hi⟩
 ·
  exact ⟨[], ⟨none, 0, rfl, Nat.le_refl _, rfl, by simp, fun h => by simp at h⟩, by simp, by simp⟩
 ·
  have hmc : m = cap := by simpa using hmm
  clear hmm
  have key : ∀ k, k ≤ len → ∃ l : List α, l.length = k ∧ (∀ x ∈ l, ok x) ∧ ∀ j p, l[j]? = some p → ∃ c, c.length = d.sz ∧ d.K w p c ∧ ∀ i u, c[i]? = some u → w.cell? (a.add (j * d.sz + i)) = some u := by
   intro k
   induction k with
   | zero => intro _; exact ⟨[], rfl, by simp, by simp⟩
   | succ k ih =>
    intro hk
    obtain ⟨l, hll, hlo, hlc⟩ := ih (by omega)
    obtain ⟨cs', hcs, ht'⟩ := hi k (by omega)
    rw [he.1] at hcs
    obtain ⟨p, hp, hop⟩ := he.2 enc w base held n cs' _ ht'
    obtain ⟨_, hcl, hat⟩ := World.cells?_some hcs
    refine ⟨l ++ [p], by simp [hll], ?_, ?_⟩
    ·
     intro x hx
     rcases List.mem_append.1 hx with hx | hx
     ·
      exact hlo x hx
     ·
      rw [List.mem_singleton.1 hx]; exact hop
    ·
     intro j q hq
     by_cases hj : j < l.length
     ·
      rw [List.getElem?_append_left hj] at hq
      exact hlc j q hq
     ·
      have hj2 : j = l.length := by
       have := (List.getElem?_eq_some_iff.1 hq).1
       simp at this; omega
      subst hj2
      rw [List.getElem?_append_right (Nat.le_refl _)] at hq
      simp at hq
      subst hq
      refine ⟨cs', hcl, hp, fun i u hu => ?_⟩
      have hil : i < d.sz := by rw [← hcl]; exact (List.getElem?_eq_some_iff.1 hu).1
      rw [hll, ← Go.Deep.add_add, hat i hil, hu]
  obtain ⟨l, hll, hlo, hlc⟩ := key len (Nat.le_refl _)
  subst hll
  exact ⟨l, ⟨some a, cap, rfl, hl, rfl, by unfold maxLen at hm; omega, fun _ => ⟨a, rfl, hlc⟩⟩, hlo, by omega⟩
theorem opn_iso {α β : Type} {P : Program} {t : TypeId} {d : Kd α} {ok : α → Prop} (h : Opn P t d ok) (f : β → α) (g : α → β) (hfg : ∀ x, f (g x) = x) : Opn P t (Kd.iso d f) (fun y => ok (f y)) :=
 ⟨h.1, fun enc w base held fuel cs x hx => by
  obtain ⟨p, hp, ho⟩ := h.2 enc w base held fuel cs x hx
  exact ⟨g p, by show d.K w (f (g p)) cs; rw [hfg]; exact hp, by show ok (f (g p)); rw [hfg]; exact ho⟩⟩
theorem opn_struct2 {α β : Type} {P : Program} {t : TypeId} {f0 f1 : Field} {a : Kd α} {b : Kd β} {oka : α → Prop} {okb : β → Prop} (ht : P.underlying t = some (.struct #[f0, f1])) (h0 : Opn P f0.type a oka) (h1 : Opn P f1.type b okb)
 (o0 : f0.offset = 0) (o1 : f1.offset = a.sz) (hc : P.cellsOf t = a.sz + b.sz) : Opn P t (Kd.pair a b) (fun p => oka p.1 ∧ okb p.2) := by
 refine ⟨hc, fun enc w base held fuel cs x h => ?_⟩
 obtain ⟨xs, n, _, _, hl, hxl, hg⟩ := DataW.trod_struct ht h
 have g0 := hg 0 f0 rfl
 have g1 := hg 1 f1 rfl
 rw [o0, h0.1, List.drop_zero] at g0
 rw [o1, h1.1] at g1
 rw [List.getElem?_eq_getElem (by rw [hxl]; simp)] at g0 g1
 obtain ⟨p, hp, hop⟩ := h0.2 enc w base held n _ _ g0
 obtain ⟨q, hq, hoq⟩ := h1.2 enc w base held n _ _ g1
 refine ⟨(p, q), ⟨cs.take a.sz, (cs.drop a.sz).take b.sz, ?_, hp, hq⟩, hop, hoq⟩
 rw [List.take_of_length_le (l := cs.drop a.sz) (by rw [List.length_drop, hl, hc]; omega), List.take_append_drop]
theorem opn_struct3 {α β γ : Type} {P : Program} {t : TypeId} {f0 f1 f2 : Field} {a : Kd α} {b : Kd β} {c : Kd γ} {oka : α → Prop} {okb : β → Prop} {okc : γ → Prop} (ht : P.underlying t = some (.struct #[f0, f1, f2])) (h0 : Opn P f0.type a oka) (h1 : Opn P f1.type b okb) (h2 : Opn P f2.type c okc)
 (o0 : f0.offset = 0) (o1 : f1.offset = a.sz) (o2 : f2.offset = a.sz + b.sz) (hc : P.cellsOf t = a.sz + (b.sz + c.sz)) : Opn P t (Kd.pair a (Kd.pair b c)) (fun p => oka p.1 ∧ okb p.2.1 ∧ okc p.2.2) := by
 refine ⟨hc, fun enc w base held fuel cs x h => ?_⟩
 obtain ⟨xs, n, _, _, hl, hxl, hg⟩ := DataW.trod_struct ht h
 have g0 := hg 0 f0 rfl
 have g1 := hg 1 f1 rfl
 have g2 := hg 2 f2 rfl
 rw [o0, h0.1, List.drop_zero] at g0
 rw [o1, h1.1] at g1
 rw [o2, h2.1] at g2
 rw [List.getElem?_eq_getElem (by rw [hxl]; simp)] at g0 g1 g2
 obtain ⟨p, hp, hop⟩ := h0.2 enc w base held n _ _ g0
 obtain ⟨q, hq, hoq⟩ := h1.2 enc w base held n _ _ g1
 obtain ⟨r, hr, hor⟩ := h2.2 enc w base held n _ _ g2
 refine ⟨(p, q, r), ⟨cs.take a.sz, cs.drop a.sz, by rw [List.take_append_drop], hp, (cs.drop a.sz).take b.sz, (cs.drop (a.sz + b.sz)).take c.sz, ?_, hq, hr⟩, hop, hoq, hor⟩
 rw [List.take_of_length_le (l := cs.drop (a.sz + b.sz)) (by rw [List.length_drop, hl, hc]; omega), ← List.drop_drop, List.take_append_drop]
/-- A slice argument. -/
theorem opn_arg {α : Type} {P : Program} {t e : TypeId} {d : Kd α} {ok : List α → Prop} (h : Opn P t (Kd.slice e d) ok) {H : Type} {enc : TypeId × Value → H} {w : World} {base : Nat} {held : Bool} {a : Option Addr} {len cap : Nat} {x : DataW H} {p : List MemPlace} (hr : DataW.Trod enc P w base (fun _ => true) held t (.slice a len cap) x p) :
 ∃ l : List α, len = l.length ∧ l.length ≤ cap ∧ d.C w a l.length l ∧ ok l := by
 obtain ⟨fuel, hf⟩ := hr
 obtain ⟨l, ⟨A, c, he, hc, hC⟩, ho⟩ := h.2 enc w base held fuel _ _ hf
 simp [Value.cells] at he
 obtain ⟨rfl, rfl, rfl⟩ := he
 exact ⟨l, rfl, hc, hC, ho⟩

set_option maxHeartbeats 8000000 in
set_option maxRecDepth 100000 in
theorem FnExactTonaryJoin_walk (a : List S62) (b : List S62) (Aa : Option Addr) (ca : Nat) (Ab : Option Addr) (cb : Nat) (w : World) (ht : MTab w) (hra : Kd.C k62 w Aa a.length a) (hca : a.length ≤ ca) (hwa : ∀ x ∈ a, x.f0.size ≤ maxLen ∧ (Lit.int .i64 x.f1).wf = true ∧ x.f2.length ≤ maxLen) (hma : a.length ≤ maxLen) (hrb : Kd.C k62 w Ab b.length b) (hcb : b.length ≤ cb) (hwb : ∀ x ∈ b, x.f0.size ≤ maxLen ∧ (Lit.int .i64 x.f1).wf = true ∧ x.f2.length ≤ maxLen) (hmb : b.length ≤ maxLen) :
 Calls Tryd.prog 3 #[.slice Aa a.length ca, .slice Ab b.length cb] w fun e w' => e = .returned (.bool true) ∧ Below w.heap.size w w' := by
 have HT := Aside0.mk ht
 clear ht
 have HRa := Aside0.mk hra
 have HCa := Aside0.mk hca
 unfold maxLen at hma
 clear hra hca
 have HWa := Aside0.mk hwa
 clear hwa
 have HRb := Aside0.mk hrb
 have HCb := Aside0.mk hcb
 unfold maxLen at hmb
 clear hrb hcb
 have HWb := Aside0.mk hwb
 clear hwb
 by_cases z0 : (1048576 : Int) - EntrySz (a.map convEntry) < 0
 ·
  go_enter Tryd.func3, Tryd.ntmps3
  go_wp2_with fail
  refine (EntryS_sz a _ _ _ _ (by omega) (by omega) (by omega) (fun x hx => by have := HWa.out x hx; unfold maxLen at this; omega) HRa.out HCa.out).mono ?_
  rintro _ ws0 ⟨e0', rfl, he0', hb⟩
  have hb0 := hb
  have u0 : decide (e0' < 0) = true := by rw [he0', if_pos z0]; rfl
  clear he0' z0
  go_wp2
  go_ret
  exact ⟨rfl, hb0⟩
 obtain ⟨e0, he0⟩ : ∃ e : Int, e = (1048576 : Int) - EntrySz (a.map convEntry) := ⟨_, rfl⟩
 have n0 := EntrySz_len (a.map convEntry)
 rw [List.length_map] at n0
 have t0 : decide (e0 < 0) = false := decide_eq_false (by omega)
 have y0 : a.length ≤ 1048576 := by omega
 have y0' : 0 ≤ e0 ∧ e0 ≤ 1048576 := by omega
 have q0 : EntrySz (a.map convEntry) ≤ 1048576 := by omega
 clear n0
 replace he0 := Aside0.mk he0
 by_cases z1 : e0 - EntrySz (b.map convEntry) < 0
 ·
  go_enter Tryd.func3, Tryd.ntmps3
  go_wp2_with fail
  refine (EntryS_sz a _ _ _ _ (by omega) (by omega) (by omega) (fun x hx => by have := HWa.out x hx; unfold maxLen at this; omega) HRa.out HCa.out).mono ?_
  rintro _ ws0 ⟨e0', rfl, he0', hb⟩
  have hb0 := hb
  obtain rfl : e0' = e0 := by rw [he0', if_neg (by omega), he0.out]
  clear he0'
  go_wp2_with fail
  refine (EntryS_sz b _ _ _ _ (by omega) (by omega) (by omega) (fun x hx => by have := HWb.out x hx; unfold maxLen at this; omega) (Kd.C_below HRb.out hb0) HCb.out).mono ?_
  rintro _ ws1 ⟨e1', rfl, he1', hb⟩
  have hb1 := below_step hb0 hb
  have u1 : decide (e1' < 0) = true := by rw [he1', if_pos z1]; rfl
  clear he1' z1
  go_wp2
  go_ret
  exact ⟨rfl, hb1⟩
 obtain ⟨e1, he1⟩ : ∃ e : Int, e = e0 - EntrySz (b.map convEntry) := ⟨_, rfl⟩
 have n1 := EntrySz_len (b.map convEntry)
 rw [List.length_map] at n1
 have t1 : decide (e1 < 0) = false := decide_eq_false (by omega)
 have y1 : b.length ≤ 1048576 := by omega
 have y1' : 0 ≤ e1 ∧ e1 ≤ 1048576 := by omega
 have q1 : EntrySz (b.map convEntry) ≤ 1048576 := by omega
 clear n1
 replace he1 := Aside0.mk he1
 obtain ⟨xa, hxa⟩ : ∃ x, x = a.map convEntry := ⟨_, rfl⟩
 have lxa : xa.length ≤ 1048576 := by rw [hxa, List.length_map]; omega
 have lza : EntrySz xa ≤ 1048576 := by rw [hxa]; omega
 have lya : 0 ≤ EntrySz xa := EntrySz_nn xa
 have lma := emk_sz xa
 have lna := emk_nn xa
 have Xa := Aside0.mk hxa
 clear hxa
 obtain ⟨xb, hxb⟩ : ∃ x, x = b.map convEntry := ⟨_, rfl⟩
 have lxb : xb.length ≤ 1048576 := by rw [hxb, List.length_map]; omega
 have lzb : EntrySz xb ≤ 1048576 := by rw [hxb]; omega
 have lyb : 0 ≤ EntrySz xb := EntrySz_nn xb
 have lmb := emk_sz xb
 have lnb := emk_nn xb
 have Xb := Aside0.mk hxb
 clear hxb
 skip
 obtain ⟨r0, r1, hres⟩ : ∃ r0 r1, tonJoin xa xb = (r0, r1) := ⟨_, _, rfl⟩
 have lr : EntrySz r0 ≤ 8000000 := by have := tonJoin_sz xa xb; rw [hres] at this; simp only [] at this; omega
 have lr1 : r0.length ≤ 8000000 := by have := EntrySz_len r0; omega
 have lr2 := EntrySz_nn r0
 have lr3 := emk_sz r0
 have lr4 := emk_nn r0
 have RES := Aside0.mk hres
 clear hres
 go_enter Tryd.func3, Tryd.ntmps3
 go_wp2_with fail
 refine (EntryS_sz a _ _ _ _ (by omega) (by omega) (by omega) (fun x hx => by have := HWa.out x hx; unfold maxLen at this; omega) HRa.out HCa.out).mono ?_
 rintro _ w1 ⟨e', rfl, he', hb⟩
 obtain rfl : e' = e0 := by have := he0.out; rw [he', if_neg (by omega), this]
 clear he'
 have HB := Aside0.mk hb
 have S1 := Aside0.mk hb.size
 go_wp2_with fail
 refine (EntryS_sz b _ _ _ _ (by omega) (by omega) (by omega) (fun x hx => by have := HWb.out x hx; unfold maxLen at this; omega) (Kd.C_below HRb.out HB.out) HCb.out).mono ?_
 rintro _ w2 ⟨e', rfl, he', hb⟩
 obtain rfl : e' = e1 := by have := he1.out; rw [he', if_neg (by omega), this]
 clear he'
 replace HB := Aside0.mk (below_step HB.out hb)
 have S2 := Aside0.mk hb.size
 go_wp2_with fail
 refine (EntryS_to a _ _ _ (by omega) (Kd.C_below HRa.out HB.out) HCa.out).mono ?_
 rintro _ w3 ⟨vsa, rfl, ho, hb⟩
 rw [← Xa.out] at ho
 obtain ⟨Asa, csa, rfl, _, _⟩ := Kd.S_reads ho
 have Osa := Aside0.mk (OwnS.make ho HB.out.size)
 clear ho
 replace HB := Aside0.mk (below_step HB.out hb)
 have S3 := Aside0.mk hb.size
 go_wp2_with fail
 refine (EntryS_to b _ _ _ (by omega) (Kd.C_below HRb.out HB.out) HCb.out).mono ?_
 rintro _ w4 ⟨vsb, rfl, ho, hb⟩
 rw [← Xb.out] at ho
 obtain ⟨Asb, csb, rfl, _, _⟩ := Kd.S_reads ho
 replace Osa := Aside0.mk (Osa.out.below hb)
 have Osb := Aside0.mk (OwnS.make ho HB.out.size)
 clear ho
 replace HB := Aside0.mk (below_step HB.out hb)
 have S4 := Aside0.mk hb.size
 go_wp2_with fail
 refine (spec_TonaryJoin_x xa xb _ _ _ _ _ Osa.out.C Osa.out.cap Osb.out.C Osb.out.cap (by omega) (by omega)).mono ?_
 rintro _ w5 ⟨v, rfl, ho, hb⟩
 simp only [RES.out] at ho ⊢
 obtain ⟨AW, cW, rfl, _, _⟩ := Kd.S_reads ho
 replace Osa := Aside0.mk (Osa.out.below hb)
 replace Osb := Aside0.mk (Osb.out.below hb)
 have OW := Aside0.mk (OwnS.make ho HB.out.size)
 clear ho
 replace HB := Aside0.mk (below_step HB.out hb)
 have S5 := Aside0.mk hb.size
 clear Osa
 clear Osb
 go_wp2_with fail
 refine (EntryS_to a _ _ _ (by omega) (Kd.C_below HRa.out HB.out) HCa.out).mono ?_
 rintro _ w6 ⟨vpa, rfl, ho, hb⟩
 rw [← Xa.out] at ho
 obtain ⟨Apa, cpa, rfl, _, _⟩ := Kd.S_reads ho
 replace OW := Aside0.mk (OW.out.below hb)
 have Opa := Aside0.mk (OwnS.make ho HB.out.size)
 clear ho
 replace HB := Aside0.mk (below_step HB.out hb)
 have S6 := Aside0.mk hb.size
 go_wp2_with fail
 refine (EntryS_to b _ _ _ (by omega) (Kd.C_below HRb.out HB.out) HCb.out).mono ?_
 rintro _ w7 ⟨vpb, rfl, ho, hb⟩
 rw [← Xb.out] at ho
 obtain ⟨Apb, cpb, rfl, _, _⟩ := Kd.S_reads ho
 replace OW := Aside0.mk (OW.out.below hb)
 replace Opa := Aside0.mk (Opa.out.below hb)
 have Opb := Aside0.mk (OwnS.make ho HB.out.size)
 clear ho
 replace HB := Aside0.mk (below_step HB.out hb)
 have S7 := Aside0.mk hb.size
 go_wp2_with fail
 refine (impl_TonaryJoin_x xa xb _ _ _ _ _ (HT.out.below HB.out) Opa.out.C Opa.out.cap Opb.out.C Opb.out.cap (by omega) (by omega)).mono ?_
 rintro _ w8 ⟨v, rfl, ho, hb⟩
 simp only [RES.out] at ho ⊢
 obtain ⟨AG, cG, rfl, _, _⟩ := Kd.S_reads ho
 replace OW := Aside0.mk (OW.out.below hb)
 replace Opa := Aside0.mk (Opa.out.below hb)
 replace Opb := Aside0.mk (Opb.out.below hb)
 have OG := Aside0.mk (OwnS.make ho HB.out.size)
 clear ho
 replace HB := Aside0.mk (below_step HB.out hb)
 have S8 := Aside0.mk hb.size
 go_wp2_with fail
 refine (EntryS_eq r0 _ _ _ _ _ (by omega) OG.out.C OG.out.cap OW.out.C OW.out.cap).mono ?_
 rintro _ w9 ⟨rfl, hb⟩
 replace OW := Aside0.mk (OW.out.below hb)
 replace Opa := Aside0.mk (Opa.out.below hb)
 replace Opb := Aside0.mk (Opb.out.below hb)
 replace OG := Aside0.mk (OG.out.below hb)
 replace HB := Aside0.mk (below_step HB.out hb)
 have S9 := Aside0.mk hb.size
 go_wp2_with fail
 refine (EntryS_to a _ _ _ (by omega) (Kd.C_below HRa.out HB.out) HCa.out).mono ?_
 rintro _ w10 ⟨vta, rfl, ho, hb⟩
 rw [← Xa.out] at ho
 obtain ⟨Ata, cta, rfl, _, _⟩ := Kd.S_reads ho
 replace OW := Aside0.mk (OW.out.below hb)
 replace Opa := Aside0.mk (Opa.out.below hb)
 replace Opb := Aside0.mk (Opb.out.below hb)
 replace OG := Aside0.mk (OG.out.below hb)
 have Ota := Aside0.mk (OwnS.make ho HB.out.size)
 clear ho
 replace HB := Aside0.mk (below_step HB.out hb)
 have S10 := Aside0.mk hb.size
 go_wp2_with fail
 refine (EntryS_eq xa _ _ _ _ _ (by omega) Opa.out.C Opa.out.cap Ota.out.C Ota.out.cap).mono ?_
 rintro _ w11 ⟨rfl, hb⟩
 replace OW := Aside0.mk (OW.out.below hb)
 replace Opa := Aside0.mk (Opa.out.below hb)
 replace Opb := Aside0.mk (Opb.out.below hb)
 replace OG := Aside0.mk (OG.out.below hb)
 replace Ota := Aside0.mk (Ota.out.below hb)
 replace HB := Aside0.mk (below_step HB.out hb)
 have S11 := Aside0.mk hb.size
 clear Ota
 go_wp2_with fail
 refine (EntryS_to b _ _ _ (by omega) (Kd.C_below HRb.out HB.out) HCb.out).mono ?_
 rintro _ w12 ⟨vtb, rfl, ho, hb⟩
 rw [← Xb.out] at ho
 obtain ⟨Atb, ctb, rfl, _, _⟩ := Kd.S_reads ho
 replace OW := Aside0.mk (OW.out.below hb)
 replace Opa := Aside0.mk (Opa.out.below hb)
 replace Opb := Aside0.mk (Opb.out.below hb)
 replace OG := Aside0.mk (OG.out.below hb)
 have Otb := Aside0.mk (OwnS.make ho HB.out.size)
 clear ho
 replace HB := Aside0.mk (below_step HB.out hb)
 have S12 := Aside0.mk hb.size
 go_wp2_with fail
 refine (EntryS_eq xb _ _ _ _ _ (by omega) Opb.out.C Opb.out.cap Otb.out.C Otb.out.cap).mono ?_
 rintro _ w13 ⟨rfl, hb⟩
 replace OW := Aside0.mk (OW.out.below hb)
 replace Opa := Aside0.mk (Opa.out.below hb)
 replace Opb := Aside0.mk (Opb.out.below hb)
 replace OG := Aside0.mk (OG.out.below hb)
 replace Otb := Aside0.mk (Otb.out.below hb)
 replace HB := Aside0.mk (below_step HB.out hb)
 have S13 := Aside0.mk hb.size
 clear Otb
 go_wp2_with fail
 refine (EntryS_mark xa _ _ _ _ w _ (by omega) (by omega) (by omega) HB.out Opa.out).mono ?_
 rintro _ w14 ⟨k0, rfl, hk0, ho, hb, hkept⟩
 clear Opa
 replace OW := Aside0.mk (OW.out.kept hkept (by intro k h1 h2 h3; have := S1.out; have := S2.out; have := S3.out; have := S4.out; have := S5.out; have := S6.out; have := S7.out; have := S8.out; have := S9.out; have := S10.out; have := S11.out; have := S12.out; have := S13.out; omega))
 replace Opb := Aside0.mk (Opb.out.kept hkept (by intro k h1 h2 h3; have := S1.out; have := S2.out; have := S3.out; have := S4.out; have := S5.out; have := S6.out; have := S7.out; have := S8.out; have := S9.out; have := S10.out; have := S11.out; have := S12.out; have := S13.out; omega))
 replace OG := Aside0.mk (OG.out.kept hkept (by intro k h1 h2 h3; have := S1.out; have := S2.out; have := S3.out; have := S4.out; have := S5.out; have := S6.out; have := S7.out; have := S8.out; have := S9.out; have := S10.out; have := S11.out; have := S12.out; have := S13.out; omega))
 replace HB := Aside0.mk hb
 have S14 := Aside0.mk hkept.1
 have b0 : 0 ≤ k0 ∧ k0 ≤ 2097153 := by omega
 clear hk0 ho hkept
 go_wp2_with fail
 refine (EntryS_mark xb _ _ _ _ w _ (by omega) (by omega) (by omega) HB.out Opb.out).mono ?_
 rintro _ w15 ⟨k1, rfl, hk1, ho, hb, hkept⟩
 clear Opb
 replace OW := Aside0.mk (OW.out.kept hkept (by intro k h1 h2 h3; have := S1.out; have := S2.out; have := S3.out; have := S4.out; have := S5.out; have := S6.out; have := S7.out; have := S8.out; have := S9.out; have := S10.out; have := S11.out; have := S12.out; have := S13.out; have := S14.out; omega))
 replace OG := Aside0.mk (OG.out.kept hkept (by intro k h1 h2 h3; have := S1.out; have := S2.out; have := S3.out; have := S4.out; have := S5.out; have := S6.out; have := S7.out; have := S8.out; have := S9.out; have := S10.out; have := S11.out; have := S12.out; have := S13.out; have := S14.out; omega))
 replace HB := Aside0.mk hb
 have S15 := Aside0.mk hkept.1
 have b1 : 0 ≤ k1 ∧ k1 ≤ 4194305 := by omega
 clear hk1 ho hkept
 have u : decide (k1 < 0) = false := decide_eq_false (by omega)
 go_wp2_with fail
 refine (EntryS_eq r0 _ _ _ _ _ (by omega) OG.out.C OG.out.cap OW.out.C OW.out.cap).mono ?_
 rintro _ w16 ⟨rfl, hb⟩
 replace OW := Aside0.mk (OW.out.below hb)
 replace OG := Aside0.mk (OG.out.below hb)
 replace HB := Aside0.mk (below_step HB.out hb)
 have S16 := Aside0.mk hb.size
 go_wp2_with fail
 refine (EntryS_mark r0 _ _ _ _ w _ (by omega) (by omega) (by omega) HB.out OG.out).mono ?_
 rintro _ w17 ⟨mk_, rfl, hm_, ho, hb, hkept⟩
 replace OW := Aside0.mk (OW.out.kept hkept (by intro k h1 h2 h3; have := S1.out; have := S2.out; have := S3.out; have := S4.out; have := S5.out; have := S6.out; have := S7.out; have := S8.out; have := S9.out; have := S10.out; have := S11.out; have := S12.out; have := S13.out; have := S14.out; have := S15.out; have := S16.out; omega))
 replace OG := Aside0.mk ho
 replace HB := Aside0.mk hb
 have S17 := Aside0.mk hkept.1
 clear ho hkept
 have um : decide (mk_ < 0) = false := decide_eq_false (by omega)
 have HM_ := Aside0.mk hm_
 clear hm_
 go_wp2_with fail
 refine (EntryS_held r0 1 _ _ _ (by omega) (by omega) (by omega) (by have h := (Kd.S_reads' OG.out).2.2; rw [markEntry_len] at h; exact h) OG.out.cap).mono ?_
 rintro _ w18 ⟨q, rfl, hq, hb⟩
 obtain rfl : mk_ = q := by rw [hq, HM_.out]
 clear hq
 replace OW := Aside0.mk (OW.out.below hb)
 replace OG := Aside0.mk (OG.out.below hb)
 replace HB := Aside0.mk (below_step HB.out hb)
 have S18 := Aside0.mk hb.size
 go_wp2_with fail
 refine (EntryS_to a _ _ _ (by omega) (Kd.C_below HRa.out HB.out) HCa.out).mono ?_
 rintro _ w19 ⟨vha, rfl, ho, hb⟩
 rw [← Xa.out] at ho
 obtain ⟨Aha, cha, rfl, _, _⟩ := Kd.S_reads ho
 replace OW := Aside0.mk (OW.out.below hb)
 replace OG := Aside0.mk (OG.out.below hb)
 have Oha := Aside0.mk (OwnS.make ho HB.out.size)
 clear ho
 replace HB := Aside0.mk (below_step HB.out hb)
 have S19 := Aside0.mk hb.size
 go_wp2_with fail
 refine (EntryS_to b _ _ _ (by omega) (Kd.C_below HRb.out HB.out) HCb.out).mono ?_
 rintro _ w20 ⟨vhb, rfl, ho, hb⟩
 rw [← Xb.out] at ho
 obtain ⟨Ahb, chb, rfl, _, _⟩ := Kd.S_reads ho
 replace OW := Aside0.mk (OW.out.below hb)
 replace OG := Aside0.mk (OG.out.below hb)
 replace Oha := Aside0.mk (Oha.out.below hb)
 have Ohb := Aside0.mk (OwnS.make ho HB.out.size)
 clear ho
 replace HB := Aside0.mk (below_step HB.out hb)
 have S20 := Aside0.mk hb.size
 go_wp2_with fail
 refine (impl_TonaryJoin_x xa xb _ _ _ _ _ (HT.out.below HB.out) Oha.out.C Oha.out.cap Ohb.out.C Ohb.out.cap (by omega) (by omega)).mono ?_
 rintro _ w21 ⟨v, rfl, ho, hb⟩
 simp only [RES.out] at ho ⊢
 obtain ⟨AH, cH, rfl, _, _⟩ := Kd.S_reads ho
 replace OW := Aside0.mk (OW.out.below hb)
 replace OG := Aside0.mk (OG.out.below hb)
 replace Oha := Aside0.mk (Oha.out.below hb)
 replace Ohb := Aside0.mk (Ohb.out.below hb)
 have OH := Aside0.mk (OwnS.make ho HB.out.size)
 clear ho
 replace HB := Aside0.mk (below_step HB.out hb)
 have S21 := Aside0.mk hb.size
 clear Oha
 clear Ohb
 go_wp2_with fail
 refine (EntryS_eq r0 _ _ _ _ _ (by omega) OH.out.C OH.out.cap OW.out.C OW.out.cap).mono ?_
 rintro _ w22 ⟨rfl, hb⟩
 replace OW := Aside0.mk (OW.out.below hb)
 replace OG := Aside0.mk (OG.out.below hb)
 replace OH := Aside0.mk (OH.out.below hb)
 replace HB := Aside0.mk (below_step HB.out hb)
 have S22 := Aside0.mk hb.size
 go_wp2_with fail
 refine (EntryS_held r0 1 _ _ _ (by omega) (by omega) (by omega) (by have h := (Kd.S_reads' OG.out).2.2; rw [markEntry_len] at h; exact h) OG.out.cap).mono ?_
 rintro _ w23 ⟨q, rfl, hq, hb⟩
 obtain rfl : mk_ = q := by rw [hq, HM_.out]
 clear hq
 replace OW := Aside0.mk (OW.out.below hb)
 replace OG := Aside0.mk (OG.out.below hb)
 replace OH := Aside0.mk (OH.out.below hb)
 replace HB := Aside0.mk (below_step HB.out hb)
 have S23 := Aside0.mk hb.size
 go_wp2
 go_ret
 exact ⟨rfl, HB.out⟩

end Go.Proofs.YtmacedbpdhkagaaDoor.Pure
