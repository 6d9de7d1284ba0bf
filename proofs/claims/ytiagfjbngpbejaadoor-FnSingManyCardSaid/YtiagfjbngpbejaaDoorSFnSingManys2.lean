/- Lemmas for the law FnSingMany. -/
import Derived.Test.YtiagfjbngpbejaaDoorSFnSingManys1
namespace Go.Proofs.YtiagfjbngpbejaaDoor.PFnSingMany
open Go.RowKit Go.Proofs.YtiagfjbngpbejaaDoorW.PrintWords Go.Proofs.YtiagfjbngpbejaaDoorW.PrintLast Go.Proofs.YtiagfjbngpbejaaDoorW.PrintMore
attribute [local go_sem] max2_int min2_int max_two min_two max_three min_three max_four min_four   -- for this text's walks alone
set_option linter.unusedVariables false
set_option linter.unusedSimpArgs false

def spec_HexTone.f (a0 : Int) (a1 : Int) : Option (Int × Bool × Bool) := (spec_HexValid.f a0).bind fun t168 => (if t168 = true then ((spec_l6In.f a1 0 5).bind fun t169 => (if t169 = true then ((spec_l1Letter.f a0).bind fun t170 => (if t170 = 6 then (some (wrap64 (a0 + a1), (a1 == 3), true)) else (some (wrap64 (a0 + a1), false, true)))) else (some (0, false, false)))) else (some (0, false, false)))
set_option maxHeartbeats 8000000 in
set_option maxRecDepth 100000 in
theorem spec_HexTone.calls (a0 : Int) (a1 : Int) (r1 : Int) (r2 : Bool) (r3 : Bool) (w : World) (h : spec_HexTone.f a0 a1 = some (r1, r2, r3)) :
 Calls Tryd.prog 40 #[.int .i64 a0, .int .i64 a1] w fun e w' => e = .returned (.tuple #[.agg #[.int .i64 r1, .bool r2], .bool r3]) ∧ Below w.heap.size w w' := by
 have hu29 := Tryd.underlying29; have HB := Aside0.mk (Below.refl w.heap.size w); have H : ((spec_HexValid.f a0).bind fun t168 => (if t168 = true then ((spec_l6In.f a1 0 5).bind fun t169 => (if t169 = true then ((spec_l1Letter.f a0).bind fun t170 => (if t170 = 6 then (some (wrap64 (a0 + a1), (a1 == 3), true)) else (some (wrap64 (a0 + a1), false, true)))) else (some (0, false, false)))) else (some (0, false, false)))) = some (r1, r2, r3) := h; clear h; replace H := Option.bind_eq_some_iff.mp H; obtain ⟨t168, A30, H⟩ := H; replace H : (if t168 = true then ((spec_l6In.f a1 0 5).bind fun t169 => (if t169 = true then ((spec_l1Letter.f a0).bind fun t170 => (if t170 = 6 then (some (wrap64 (a0 + a1), (a1 == 3), true)) else (some (wrap64 (a0 + a1), false, true)))) else (some (0, false, false)))) else (some (0, false, false))) = some (r1, r2, r3) := H; have A3 := Aside0.mk A30; clear A30; by_cases c4 : t168 = true
 ·
  subst c4; have H1 : ((spec_l6In.f a1 0 5).bind fun t169 => (if t169 = true then ((spec_l1Letter.f a0).bind fun t170 => (if t170 = 6 then (some (wrap64 (a0 + a1), (a1 == 3), true)) else (some (wrap64 (a0 + a1), false, true)))) else (some (0, false, false)))) = some (r1, r2, r3) := by rw [if_pos rfl] at H; exact H
  clear H; have H := H1; clear H1; replace H := Option.bind_eq_some_iff.mp H; obtain ⟨t169, A50, H⟩ := H; replace H : (if t169 = true then ((spec_l1Letter.f a0).bind fun t170 => (if t170 = 6 then (some (wrap64 (a0 + a1), (a1 == 3), true)) else (some (wrap64 (a0 + a1), false, true)))) else (some (0, false, false))) = some (r1, r2, r3) := H; have A5 := Aside0.mk A50; clear A50; by_cases c6 : t169 = true
  ·
   subst c6; have H1 : ((spec_l1Letter.f a0).bind fun t170 => (if t170 = 6 then (some (wrap64 (a0 + a1), (a1 == 3), true)) else (some (wrap64 (a0 + a1), false, true)))) = some (r1, r2, r3) := by rw [if_pos rfl] at H; exact H
   clear H; have H := H1; clear H1; replace H := Option.bind_eq_some_iff.mp H; obtain ⟨t170, A70, H⟩ := H; replace H : (if t170 = 6 then (some (wrap64 (a0 + a1), (a1 == 3), true)) else (some (wrap64 (a0 + a1), false, true))) = some (r1, r2, r3) := H; have A7 := Aside0.mk A70; clear A70; by_cases c8 : t170 = 6
   ·
    rw [if_pos c8] at H; have c8b0 : (t170 == 6) = true := beq_iff_eq.mpr c8; have c8b1 : (t170 != 6) = false := bne_eq_false_iff_eq.mpr c8; clear c8; simp only [Option.some.injEq, Prod.mk.injEq] at H; obtain ⟨rfl, rfl, rfl⟩ := H; go_enter Tryd.func40, Tryd.ntmps40
    go_wp2_with (first | ((with_reducible refine gate_dst (N := 4) rfl ?_); refine box_event ?hg (N := 4) ?hd (cs := #[.int .i64 0, .bool false]) (t := 29) ?hr ?_; (case hd => rfl); (case hg => rfl); (case hr => first | (go_simp; done) | (go_simp; rfl)); intro gb167 hg w9 hbox hb; have n0_ := Aside0.mk (below_step (by repeat (first | (with_reducible first | exact HB.out | apply below_alloc | apply pw_below_drewN | apply below_drew1) | exact HB.out)) hb); have n1_ := Aside0.mk (hbox); have n2_ := Aside0.mk ((by rw [hg]; exact (below_size (by repeat (first | (with_reducible first | exact HB.out | apply below_alloc | apply pw_below_drewN | apply below_drew1) | exact HB.out))) : w.heap.size ≤ gb167)); have n3_ := Aside0.mk ((by rw [hg]; exact (below_size (by repeat (first | (with_reducible first | exact HB.out | apply below_alloc | apply pw_below_drewN | apply below_drew1) | exact HB.out))) : w.heap.size ≤ gb167)); clear HB; have HB := n0_; have BK167 := n1_; have GW167 := n2_; have GE167 := n3_; clear n0_ n1_ n2_ n3_; clear hb hbox hg) | ((with_reducible refine gate_callee (f := 41) rfl ?_); refine goesL_ (some 8) rfl rfl Tryd.func41 (by kernel_rfl) rfl #[.int .i64 a0] rfl (by (try simp only [List.map_toArray, List.map_cons, List.map_nil]); first | done | rfl | (simp only [List.length_drop, List.length_take]; rfl)) ?_; (with_reducible refine (spec_HexValid.calls a0 true _ A3.out).mono ?_); rintro e w' ⟨rfl, ⟨nd, rfl⟩⟩; refine ⟨_, rfl, ?_⟩; (try (rw [drewN_self w9]; generalize hq_ : World.drewN w9 _ = w9; have n0_ : Aside0 (w9.heap[gb167]? = some (.cells #[.int .i64 0, .bool false] 29 (0, 0))) := ⟨by rw [← hq_]; exact (by (with_reducible repeat (first | refine blk_drewN ?_ _ | refine blk_drew ?_ | refine blk_alloc ?_ _)); exact BK167.out)⟩; have n1_ : Aside0 (Below w.heap.size w w9) := ⟨by rw [← hq_]; exact (by repeat (first | (with_reducible first | exact HB.out | apply below_alloc | apply pw_below_drewN | apply below_drew1 | refine below_set ?_ GE167.out) | exact HB.out))⟩; clear BK167 HB hq_; have BK167 := n0_; have HB := n1_; clear n0_ n1_))) | (go_at_call 39; (with_reducible refine (spec_l6In.calls a1 0 5 true _ A5.out).mono ?_); rintro e w' ⟨rfl, ⟨nd, rfl⟩⟩; (try (rw [drewN_self w9]; generalize hq_ : World.drewN w9 _ = w9; have n0_ : Aside0 (w9.heap[gb167]? = some (.cells #[.int .i64 0, .bool false] 29 (0, 0))) := ⟨by rw [← hq_]; exact (by (with_reducible repeat (first | refine blk_drewN ?_ _ | refine blk_drew ?_ | refine blk_alloc ?_ _)); exact BK167.out)⟩; have n1_ : Aside0 (Below w.heap.size w w9) := ⟨by rw [← hq_]; exact (by repeat (first | (with_reducible first | exact HB.out | apply below_alloc | apply pw_below_drewN | apply below_drew1 | refine below_set ?_ GE167.out) | exact HB.out))⟩; clear BK167 HB hq_; have BK167 := n0_; have HB := n1_; clear n0_ n1_))) | ((with_reducible refine gate_callee (f := 31) rfl ?_); refine goesL_ (some 17) rfl rfl Tryd.func31 (by kernel_rfl) rfl #[.int .i64 a0] rfl (by (try simp only [List.map_toArray, List.map_cons, List.map_nil]); first | done | rfl | (simp only [List.length_drop, List.length_take]; rfl)) ?_; (with_reducible refine (spec_l1Letter.calls a0 t170 _ A7.out).mono ?_); rintro e w' ⟨rfl, ⟨nd, rfl⟩⟩; refine ⟨_, rfl, ?_⟩; (try (rw [drewN_self w9]; generalize hq_ : World.drewN w9 _ = w9; have n0_ : Aside0 (w9.heap[gb167]? = some (.cells #[.int .i64 0, .bool false] 29 (0, 0))) := ⟨by rw [← hq_]; exact (by (with_reducible repeat (first | refine blk_drewN ?_ _ | refine blk_drew ?_ | refine blk_alloc ?_ _)); exact BK167.out)⟩; have n1_ : Aside0 (Below w.heap.size w w9) := ⟨by rw [← hq_]; exact (by repeat (first | (with_reducible first | exact HB.out | apply below_alloc | apply pw_below_drewN | apply below_drew1 | refine below_set ?_ GE167.out) | exact HB.out))⟩; clear BK167 HB hq_; have BK167 := n0_; have HB := n1_; clear n0_ n1_)); have hcz10_0 : w9.cell? ⟨gb167, 0, none⟩ = some (.int .i64 0) := (blk_cell BK167.out 0).trans rfl; have hcz10_1 : w9.cell? ⟨gb167, 1, none⟩ = some (.bool false) := (blk_cell BK167.out 1).trans rfl; have hfz10_0 := blk_frozen BK167.out 0; have hfz10_1 := blk_frozen BK167.out 1))
    refine bodyPost_ret (results_ct rfl _ _ gb167 29 #[.int .i64 (wrap64 (a0 + a1)), .bool (a1 == 3)] (0, 0) _ rfl (by (with_reducible repeat (first | refine blk_drewN ?_ _ | refine blk_drew ?_ | refine blk_alloc ?_ _)); refine blk_put (cs := #[.int .i64 (wrap64 (a0 + a1)), .bool false]) ?_ 1 _ rfl; (with_reducible repeat (first | refine blk_drewN ?_ _ | refine blk_drew ?_ | refine blk_alloc ?_ _)); refine blk_put (cs := #[.int .i64 0, .bool false]) ?_ 0 _ rfl; (with_reducible repeat (first | refine blk_drewN ?_ _ | refine blk_drew ?_ | refine blk_alloc ?_ _)); exact BK167.out) Tryd.underlying29 rfl (by kernel_rfl)) rfl ?_; exact ⟨by first | rfl | (simp [errW_none, errW_some] <;> rfl) | (simp [*, errW_none, errW_some] <;> rfl), by repeat (first | (with_reducible first | exact HB.out | apply below_alloc | apply pw_below_drewN | apply below_drew1 | refine below_set ?_ GE167.out) | exact HB.out)⟩
   ·
    rw [if_neg c8] at H; have c8b0 : (t170 == 6) = false := beq_eq_false_iff_ne.mpr c8; have c8b1 : (t170 != 6) = true := bne_iff_ne.mpr c8; simp only [Option.some.injEq, Prod.mk.injEq] at H; obtain ⟨rfl, rfl, rfl⟩ := H; go_enter Tryd.func40, Tryd.ntmps40
    go_wp2_with (first | ((with_reducible refine gate_dst (N := 4) rfl ?_); refine box_event ?hg (N := 4) ?hd (cs := #[.int .i64 0, .bool false]) (t := 29) ?hr ?_; (case hd => rfl); (case hg => rfl); (case hr => first | (go_simp; done) | (go_simp; rfl)); intro gb167 hg w11 hbox hb; have n0_ := Aside0.mk (below_step (by repeat (first | (with_reducible first | exact HB.out | apply below_alloc | apply pw_below_drewN | apply below_drew1) | exact HB.out)) hb); have n1_ := Aside0.mk (hbox); have n2_ := Aside0.mk ((by rw [hg]; exact (below_size (by repeat (first | (with_reducible first | exact HB.out | apply below_alloc | apply pw_below_drewN | apply below_drew1) | exact HB.out))) : w.heap.size ≤ gb167)); have n3_ := Aside0.mk ((by rw [hg]; exact (below_size (by repeat (first | (with_reducible first | exact HB.out | apply below_alloc | apply pw_below_drewN | apply below_drew1) | exact HB.out))) : w.heap.size ≤ gb167)); clear HB; have HB := n0_; have BK167 := n1_; have GW167 := n2_; have GE167 := n3_; clear n0_ n1_ n2_ n3_; clear hb hbox hg) | ((with_reducible refine gate_callee (f := 41) rfl ?_); refine goesL_ (some 8) rfl rfl Tryd.func41 (by kernel_rfl) rfl #[.int .i64 a0] rfl (by (try simp only [List.map_toArray, List.map_cons, List.map_nil]); first | done | rfl | (simp only [List.length_drop, List.length_take]; rfl)) ?_; (with_reducible refine (spec_HexValid.calls a0 true _ A3.out).mono ?_); rintro e w' ⟨rfl, ⟨nd, rfl⟩⟩; refine ⟨_, rfl, ?_⟩; (try (rw [drewN_self w11]; generalize hq_ : World.drewN w11 _ = w11; have n0_ : Aside0 (w11.heap[gb167]? = some (.cells #[.int .i64 0, .bool false] 29 (0, 0))) := ⟨by rw [← hq_]; exact (by (with_reducible repeat (first | refine blk_drewN ?_ _ | refine blk_drew ?_ | refine blk_alloc ?_ _)); exact BK167.out)⟩; have n1_ : Aside0 (Below w.heap.size w w11) := ⟨by rw [← hq_]; exact (by repeat (first | (with_reducible first | exact HB.out | apply below_alloc | apply pw_below_drewN | apply below_drew1 | refine below_set ?_ GE167.out) | exact HB.out))⟩; clear BK167 HB hq_; have BK167 := n0_; have HB := n1_; clear n0_ n1_))) | (go_at_call 39; (with_reducible refine (spec_l6In.calls a1 0 5 true _ A5.out).mono ?_); rintro e w' ⟨rfl, ⟨nd, rfl⟩⟩; (try (rw [drewN_self w11]; generalize hq_ : World.drewN w11 _ = w11; have n0_ : Aside0 (w11.heap[gb167]? = some (.cells #[.int .i64 0, .bool false] 29 (0, 0))) := ⟨by rw [← hq_]; exact (by (with_reducible repeat (first | refine blk_drewN ?_ _ | refine blk_drew ?_ | refine blk_alloc ?_ _)); exact BK167.out)⟩; have n1_ : Aside0 (Below w.heap.size w w11) := ⟨by rw [← hq_]; exact (by repeat (first | (with_reducible first | exact HB.out | apply below_alloc | apply pw_below_drewN | apply below_drew1 | refine below_set ?_ GE167.out) | exact HB.out))⟩; clear BK167 HB hq_; have BK167 := n0_; have HB := n1_; clear n0_ n1_))) | ((with_reducible refine gate_callee (f := 31) rfl ?_); refine goesL_ (some 17) rfl rfl Tryd.func31 (by kernel_rfl) rfl #[.int .i64 a0] rfl (by (try simp only [List.map_toArray, List.map_cons, List.map_nil]); first | done | rfl | (simp only [List.length_drop, List.length_take]; rfl)) ?_; (with_reducible refine (spec_l1Letter.calls a0 t170 _ A7.out).mono ?_); rintro e w' ⟨rfl, ⟨nd, rfl⟩⟩; refine ⟨_, rfl, ?_⟩; (try (rw [drewN_self w11]; generalize hq_ : World.drewN w11 _ = w11; have n0_ : Aside0 (w11.heap[gb167]? = some (.cells #[.int .i64 0, .bool false] 29 (0, 0))) := ⟨by rw [← hq_]; exact (by (with_reducible repeat (first | refine blk_drewN ?_ _ | refine blk_drew ?_ | refine blk_alloc ?_ _)); exact BK167.out)⟩; have n1_ : Aside0 (Below w.heap.size w w11) := ⟨by rw [← hq_]; exact (by repeat (first | (with_reducible first | exact HB.out | apply below_alloc | apply pw_below_drewN | apply below_drew1 | refine below_set ?_ GE167.out) | exact HB.out))⟩; clear BK167 HB hq_; have BK167 := n0_; have HB := n1_; clear n0_ n1_)); have hcz12_0 : w11.cell? ⟨gb167, 0, none⟩ = some (.int .i64 0) := (blk_cell BK167.out 0).trans rfl; have hcz12_1 : w11.cell? ⟨gb167, 1, none⟩ = some (.bool false) := (blk_cell BK167.out 1).trans rfl; have hfz12_0 := blk_frozen BK167.out 0; have hfz12_1 := blk_frozen BK167.out 1))
    refine bodyPost_ret (results_ct rfl _ _ gb167 29 #[.int .i64 (wrap64 (a0 + a1)), .bool false] (0, 0) _ rfl (by (with_reducible repeat (first | refine blk_drewN ?_ _ | refine blk_drew ?_ | refine blk_alloc ?_ _)); refine blk_put (cs := #[.int .i64 (wrap64 (a0 + a1)), .bool false]) ?_ 1 _ rfl; (with_reducible repeat (first | refine blk_drewN ?_ _ | refine blk_drew ?_ | refine blk_alloc ?_ _)); refine blk_put (cs := #[.int .i64 0, .bool false]) ?_ 0 _ rfl; (with_reducible repeat (first | refine blk_drewN ?_ _ | refine blk_drew ?_ | refine blk_alloc ?_ _)); exact BK167.out) Tryd.underlying29 rfl (by kernel_rfl)) rfl ?_; exact ⟨by first | rfl | (simp [errW_none, errW_some] <;> rfl) | (simp [*, errW_none, errW_some] <;> rfl), by repeat (first | (with_reducible first | exact HB.out | apply below_alloc | apply pw_below_drewN | apply below_drew1 | refine below_set ?_ GE167.out) | exact HB.out)⟩
  ·
   replace c6 := Bool.eq_false_iff.mpr c6; subst c6; have H1 : (some (0, false, false)) = some (r1, r2, r3) := by rw [if_neg (show ¬ (false = true) by decide)] at H; exact H
   clear H; have H := H1; clear H1; simp only [Option.some.injEq, Prod.mk.injEq] at H; obtain ⟨rfl, rfl, rfl⟩ := H; go_enter Tryd.func40, Tryd.ntmps40
   go_wp2_with (first | ((with_reducible refine gate_dst (N := 4) rfl ?_); refine box_event ?hg (N := 4) ?hd (cs := #[.int .i64 0, .bool false]) (t := 29) ?hr ?_; (case hd => rfl); (case hg => rfl); (case hr => first | (go_simp; done) | (go_simp; rfl)); intro gb167 hg w13 hbox hb; have n0_ := Aside0.mk (below_step (by repeat (first | (with_reducible first | exact HB.out | apply below_alloc | apply pw_below_drewN | apply below_drew1) | exact HB.out)) hb); have n1_ := Aside0.mk (hbox); have n2_ := Aside0.mk ((by rw [hg]; exact (below_size (by repeat (first | (with_reducible first | exact HB.out | apply below_alloc | apply pw_below_drewN | apply below_drew1) | exact HB.out))) : w.heap.size ≤ gb167)); have n3_ := Aside0.mk ((by rw [hg]; exact (below_size (by repeat (first | (with_reducible first | exact HB.out | apply below_alloc | apply pw_below_drewN | apply below_drew1) | exact HB.out))) : w.heap.size ≤ gb167)); clear HB; have HB := n0_; have BK167 := n1_; have GW167 := n2_; have GE167 := n3_; clear n0_ n1_ n2_ n3_; clear hb hbox hg) | ((with_reducible refine gate_callee (f := 41) rfl ?_); refine goesL_ (some 8) rfl rfl Tryd.func41 (by kernel_rfl) rfl #[.int .i64 a0] rfl (by (try simp only [List.map_toArray, List.map_cons, List.map_nil]); first | done | rfl | (simp only [List.length_drop, List.length_take]; rfl)) ?_; (with_reducible refine (spec_HexValid.calls a0 true _ A3.out).mono ?_); rintro e w' ⟨rfl, ⟨nd, rfl⟩⟩; refine ⟨_, rfl, ?_⟩; (try (rw [drewN_self w13]; generalize hq_ : World.drewN w13 _ = w13; have n0_ : Aside0 (w13.heap[gb167]? = some (.cells #[.int .i64 0, .bool false] 29 (0, 0))) := ⟨by rw [← hq_]; exact (by (with_reducible repeat (first | refine blk_drewN ?_ _ | refine blk_drew ?_ | refine blk_alloc ?_ _)); exact BK167.out)⟩; have n1_ : Aside0 (Below w.heap.size w w13) := ⟨by rw [← hq_]; exact (by repeat (first | (with_reducible first | exact HB.out | apply below_alloc | apply pw_below_drewN | apply below_drew1 | refine below_set ?_ GE167.out) | exact HB.out))⟩; clear BK167 HB hq_; have BK167 := n0_; have HB := n1_; clear n0_ n1_))) | (go_at_call 39; (with_reducible refine (spec_l6In.calls a1 0 5 false _ A5.out).mono ?_); rintro e w' ⟨rfl, ⟨nd, rfl⟩⟩; (try (rw [drewN_self w13]; generalize hq_ : World.drewN w13 _ = w13; have n0_ : Aside0 (w13.heap[gb167]? = some (.cells #[.int .i64 0, .bool false] 29 (0, 0))) := ⟨by rw [← hq_]; exact (by (with_reducible repeat (first | refine blk_drewN ?_ _ | refine blk_drew ?_ | refine blk_alloc ?_ _)); exact BK167.out)⟩; have n1_ : Aside0 (Below w.heap.size w w13) := ⟨by rw [← hq_]; exact (by repeat (first | (with_reducible first | exact HB.out | apply below_alloc | apply pw_below_drewN | apply below_drew1 | refine below_set ?_ GE167.out) | exact HB.out))⟩; clear BK167 HB hq_; have BK167 := n0_; have HB := n1_; clear n0_ n1_)); have hcz14_0 : w13.cell? ⟨gb167, 0, none⟩ = some (.int .i64 0) := (blk_cell BK167.out 0).trans rfl; have hcz14_1 : w13.cell? ⟨gb167, 1, none⟩ = some (.bool false) := (blk_cell BK167.out 1).trans rfl; have hfz14_0 := blk_frozen BK167.out 0; have hfz14_1 := blk_frozen BK167.out 1))
   refine bodyPost_ret (results_ct rfl _ _ gb167 29 #[.int .i64 0, .bool false] (0, 0) _ rfl (by (with_reducible repeat (first | refine blk_drewN ?_ _ | refine blk_drew ?_ | refine blk_alloc ?_ _)); refine blk_put (cs := #[.int .i64 0, .bool false]) ?_ 1 _ rfl; (with_reducible repeat (first | refine blk_drewN ?_ _ | refine blk_drew ?_ | refine blk_alloc ?_ _)); refine blk_put (cs := #[.int .i64 0, .bool false]) ?_ 0 _ rfl; (with_reducible repeat (first | refine blk_drewN ?_ _ | refine blk_drew ?_ | refine blk_alloc ?_ _)); exact BK167.out) Tryd.underlying29 rfl (by kernel_rfl)) rfl ?_; exact ⟨by first | rfl | (simp [errW_none, errW_some] <;> rfl) | (simp [*, errW_none, errW_some] <;> rfl), by repeat (first | (with_reducible first | exact HB.out | apply below_alloc | apply pw_below_drewN | apply below_drew1 | refine below_set ?_ GE167.out) | exact HB.out)⟩
 ·
  replace c4 := Bool.eq_false_iff.mpr c4; subst c4; have H1 : (some (0, false, false)) = some (r1, r2, r3) := by rw [if_neg (show ¬ (false = true) by decide)] at H; exact H
  clear H; have H := H1; clear H1; simp only [Option.some.injEq, Prod.mk.injEq] at H; obtain ⟨rfl, rfl, rfl⟩ := H; go_enter Tryd.func40, Tryd.ntmps40
  go_wp2_with (first | ((with_reducible refine gate_dst (N := 4) rfl ?_); refine box_event ?hg (N := 4) ?hd (cs := #[.int .i64 0, .bool false]) (t := 29) ?hr ?_; (case hd => rfl); (case hg => rfl); (case hr => first | (go_simp; done) | (go_simp; rfl)); intro gb167 hg w15 hbox hb; have n0_ := Aside0.mk (below_step (by repeat (first | (with_reducible first | exact HB.out | apply below_alloc | apply pw_below_drewN | apply below_drew1) | exact HB.out)) hb); have n1_ := Aside0.mk (hbox); have n2_ := Aside0.mk ((by rw [hg]; exact (below_size (by repeat (first | (with_reducible first | exact HB.out | apply below_alloc | apply pw_below_drewN | apply below_drew1) | exact HB.out))) : w.heap.size ≤ gb167)); have n3_ := Aside0.mk ((by rw [hg]; exact (below_size (by repeat (first | (with_reducible first | exact HB.out | apply below_alloc | apply pw_below_drewN | apply below_drew1) | exact HB.out))) : w.heap.size ≤ gb167)); clear HB; have HB := n0_; have BK167 := n1_; have GW167 := n2_; have GE167 := n3_; clear n0_ n1_ n2_ n3_; clear hb hbox hg) | ((with_reducible refine gate_callee (f := 41) rfl ?_); refine goesL_ (some 8) rfl rfl Tryd.func41 (by kernel_rfl) rfl #[.int .i64 a0] rfl (by (try simp only [List.map_toArray, List.map_cons, List.map_nil]); first | done | rfl | (simp only [List.length_drop, List.length_take]; rfl)) ?_; (with_reducible refine (spec_HexValid.calls a0 false _ A3.out).mono ?_); rintro e w' ⟨rfl, ⟨nd, rfl⟩⟩; refine ⟨_, rfl, ?_⟩; (try (rw [drewN_self w15]; generalize hq_ : World.drewN w15 _ = w15; have n0_ : Aside0 (w15.heap[gb167]? = some (.cells #[.int .i64 0, .bool false] 29 (0, 0))) := ⟨by rw [← hq_]; exact (by (with_reducible repeat (first | refine blk_drewN ?_ _ | refine blk_drew ?_ | refine blk_alloc ?_ _)); exact BK167.out)⟩; have n1_ : Aside0 (Below w.heap.size w w15) := ⟨by rw [← hq_]; exact (by repeat (first | (with_reducible first | exact HB.out | apply below_alloc | apply pw_below_drewN | apply below_drew1 | refine below_set ?_ GE167.out) | exact HB.out))⟩; clear BK167 HB hq_; have BK167 := n0_; have HB := n1_; clear n0_ n1_)); have hcz16_0 : w15.cell? ⟨gb167, 0, none⟩ = some (.int .i64 0) := (blk_cell BK167.out 0).trans rfl; have hcz16_1 : w15.cell? ⟨gb167, 1, none⟩ = some (.bool false) := (blk_cell BK167.out 1).trans rfl; have hfz16_0 := blk_frozen BK167.out 0; have hfz16_1 := blk_frozen BK167.out 1))
  refine bodyPost_ret (results_ct rfl _ _ gb167 29 #[.int .i64 0, .bool false] (0, 0) _ rfl (by (with_reducible repeat (first | refine blk_drewN ?_ _ | refine blk_drew ?_ | refine blk_alloc ?_ _)); refine blk_put (cs := #[.int .i64 0, .bool false]) ?_ 1 _ rfl; (with_reducible repeat (first | refine blk_drewN ?_ _ | refine blk_drew ?_ | refine blk_alloc ?_ _)); refine blk_put (cs := #[.int .i64 0, .bool false]) ?_ 0 _ rfl; (with_reducible repeat (first | refine blk_drewN ?_ _ | refine blk_drew ?_ | refine blk_alloc ?_ _)); exact BK167.out) Tryd.underlying29 rfl (by kernel_rfl)) rfl ?_; exact ⟨by first | rfl | (simp [errW_none, errW_some] <;> rfl) | (simp [*, errW_none, errW_some] <;> rfl), by repeat (first | (with_reducible first | exact HB.out | apply below_alloc | apply pw_below_drewN | apply below_drew1 | refine below_set ?_ GE167.out) | exact HB.out)⟩

end Go.Proofs.YtiagfjbngpbejaaDoor.PFnSingMany
namespace Go.Proofs.YtiagfjbngpbejaaDoor.PFnSingMany
open Go.RowKit Go.Proofs.YtiagfjbngpbejaaDoorW.PrintWords Go.Proofs.YtiagfjbngpbejaaDoorW.PrintLast Go.Proofs.YtiagfjbngpbejaaDoorW.PrintMore
attribute [local go_sem] max2_int min2_int max_two min_two max_three min_three max_four min_four   -- for this text's walks alone
set_option linter.unusedVariables false
set_option linter.unusedSimpArgs false

attribute [local go_sem high] eqA29
def spec_HexSyllable.l0 : Nat → Int → Int → Int → Bool → Option (Int)
 | 0, _, _, _, _ => none
 | k + 1, x0, x5, x172000, x172001 => if x5 < 6 then ((spec_HexTone.f x0 x5).bind fun bt172 => (if bt172.2.2 = true then (if (bt172.1 == x172000 && (bt172.2.1 == x172001)) = true then ((spec_ToneValid.f x172000 x172001).bind fun t176 => (if t176 = true then (some x5) else (spec_HexSyllable.l0 k x0 (wrap64 (x5 + 1)) x172000 x172001))) else (spec_HexSyllable.l0 k x0 (wrap64 (x5 + 1)) x172000 x172001)) else (spec_HexSyllable.l0 k x0 (wrap64 (x5 + 1)) x172000 x172001))) else (some (-1))
def spec_HexSyllable.f (k : Nat) (a0 : Int) (a1_0 : Int) (a1_1 : Bool) : Option (Int) := spec_HexSyllable.l0 k a0 0 a1_0 a1_1
theorem spec_HexSyllable.mono_l : ∀ k, (∀ y0 y1 y2 y3, LeO (spec_HexSyllable.l0 k y0 y1 y2 y3) (spec_HexSyllable.l0 (k + 1) y0 y1 y2 y3))
 | 0 => fun _ _ _ _ r h => by simp [spec_HexSyllable.l0] at h
 | k + 1 => by
  have ih0 := spec_HexSyllable.mono_l k
  ·
   intro y0 y1 y2 y3; unfold spec_HexSyllable.l0; repeat' first
   | (with_reducible exact ih0 _ _ _ _)
   | (with_reducible exact LeO.refl _)
   | (with_reducible exact LeO.none _)
   | (with_reducible refine LeO.ite ?_ ?_)
   | (with_reducible refine LeO.bind ?_ (fun _ => ?_))
   | exact ih0 _ _ _ _
   | exact LeO.none _
   | refine LeO.ite ?_ ?_
   | refine LeO.bind ?_ (fun _ => ?_)
theorem spec_HexSyllable.mono : ∀ a0 a1 a2 k, LeO (spec_HexSyllable.f k a0 a1 a2) (spec_HexSyllable.f (k + 1) a0 a1 a2) := by
 intro a0 a1 a2 k; have ih0 := spec_HexSyllable.mono_l k; unfold spec_HexSyllable.f; repeat' first
  | (with_reducible exact ih0 _ _ _ _)
  | (with_reducible exact LeO.refl _)
  | (with_reducible exact LeO.none _)
  | (with_reducible refine LeO.ite ?_ ?_)
  | (with_reducible refine LeO.bind ?_ (fun _ => ?_))
  | exact ih0 _ _ _ _
  | exact LeO.none _
  | refine LeO.ite ?_ ?_
  | refine LeO.bind ?_ (fun _ => ?_)
set_option maxHeartbeats 8000000 in
set_option maxRecDepth 100000 in
theorem spec_HexSyllable.calls (k : Nat) (a0 : Int) (a1_0 : Int) (a1_1 : Bool) (r : Int) (w : World) (h : spec_HexSyllable.f k a0 a1_0 a1_1 = some r) :
 Calls Tryd.prog 34 #[.int .i64 a0, .agg #[.int .i64 a1_0, .bool a1_1]] w fun e w' => e = .returned (.int .i64 r) ∧ Below w.heap.size w w' := by
 have hu29 := Tryd.underlying29; have HB := Aside0.mk (Below.refl w.heap.size w); have H : (spec_HexSyllable.l0 k a0 0 a1_0 a1_1) = some r := h; clear h; have H' := Aside0.mk H; clear H; go_enter Tryd.func34, Tryd.ntmps34
 go_wp2_with (first | ((with_reducible refine gate_dst (N := 3) rfl ?_); refine box_event ?hg (N := 3) ?hd (cs := #[.int .i64 a1_0, .bool a1_1]) (t := 29) ?hr ?_; (case hd => rfl); (case hg => rfl); (case hr => first | (go_simp; done) | (go_simp; rfl)); intro gb171 hg w3 hbox hb; have n0_ := Aside0.mk (below_step (by repeat (first | (with_reducible first | exact HB.out | apply below_alloc | apply pw_below_drewN | apply below_drew1) | exact HB.out)) hb); have n1_ := Aside0.mk (hbox); have n2_ := Aside0.mk ((by rw [hg]; exact (below_size (by repeat (first | (with_reducible first | exact HB.out | apply below_alloc | apply pw_below_drewN | apply below_drew1) | exact HB.out))) : w.heap.size ≤ gb171)); have n3_ := Aside0.mk ((by rw [hg]; exact (below_size (by repeat (first | (with_reducible first | exact HB.out | apply below_alloc | apply pw_below_drewN | apply below_drew1) | exact HB.out))) : w.heap.size ≤ gb171)); clear HB; have HB := n0_; have BK171 := n1_; have GW171 := n2_; have GE171 := n3_; clear n0_ n1_ n2_ n3_; clear hb hbox hg))
 go_loopg [5] k (fun kq v5 w' => ∃ (x5_1 : Int), v5 = .int .i64 x5_1 ∧ Aside0 (spec_HexSyllable.l0 kq a0 x5_1 a1_0 a1_1 = some r) ∧ Aside0 (kq ≤ k) ∧ Aside0 (w'.heap[gb171]? = some (.cells #[.int .i64 a1_0, .bool a1_1] 29 (0, 0))) ∧ Aside0 (Below w.heap.size w w'))
 case atStart => exact ⟨(0), (by first | rfl | (simp; done) | (simp [*]; done)), H', ⟨Nat.le_refl _⟩, ⟨by (with_reducible repeat (first | refine blk_drewN ?_ _ | refine blk_drew ?_ | refine blk_alloc ?_ _)); exact BK171.out⟩, ⟨by repeat (first | (with_reducible first | exact HB.out | apply below_alloc | apply pw_below_drewN | apply below_drew1 | refine below_set ?_ GE171.out) | exact HB.out)⟩⟩
 case round =>
  clear H'; try clear p2
  try clear c3
  obtain ⟨x5_1, rfl, HA, HK1, BK171, HB⟩ := hrel; cases gk with
  | zero => exact absurd HA.out (by simp [spec_HexSyllable.l0])
  | succ k1 =>
   have H := HA.out; clear HA; simp only [spec_HexSyllable.l0] at H; by_cases c4 : x5_1 < 6
   ·
    rw [if_pos c4] at H; have c4b0 : decide (x5_1 < 6) = true := decide_eq_true c4; clear c4; replace H := Option.bind_eq_some_iff.mp H; obtain ⟨⟨t172, t173, t174⟩, A50, H⟩ := H; replace H : (if t174 = true then (if (t172 == a1_0 && (t173 == a1_1)) = true then ((spec_ToneValid.f a1_0 a1_1).bind fun t176 => (if t176 = true then (some x5_1) else (spec_HexSyllable.l0 k1 a0 (wrap64 (x5_1 + 1)) a1_0 a1_1))) else (spec_HexSyllable.l0 k1 a0 (wrap64 (x5_1 + 1)) a1_0 a1_1)) else (spec_HexSyllable.l0 k1 a0 (wrap64 (x5_1 + 1)) a1_0 a1_1)) = some r := H; have A5 := Aside0.mk A50; clear A50; by_cases c6 : t174 = true
    ·
     subst c6; have H1 : (if (t172 == a1_0 && (t173 == a1_1)) = true then ((spec_ToneValid.f a1_0 a1_1).bind fun t176 => (if t176 = true then (some x5_1) else (spec_HexSyllable.l0 k1 a0 (wrap64 (x5_1 + 1)) a1_0 a1_1))) else (spec_HexSyllable.l0 k1 a0 (wrap64 (x5_1 + 1)) a1_0 a1_1)) = some r := by rw [if_pos rfl] at H; exact H
     clear H; have H := H1; clear H1; by_cases c7 : (t172 == a1_0 && (t173 == a1_1)) = true
     ·
      rw [if_pos c7] at H; have c7b0 : (t172 == a1_0 && (t173 == a1_1)) = true := c7; (try (have c7b1 : decide (t172 = a1_0 && (t173 == a1_1)) = true := by simpa using c7))
      (try (have c7b2 : (t172 == a1_0 && (t173 == a1_1)) = true := by simpa using c7))
      clear c7; replace H := Option.bind_eq_some_iff.mp H; obtain ⟨t176, A80, H⟩ := H; replace H : (if t176 = true then (some x5_1) else (spec_HexSyllable.l0 k1 a0 (wrap64 (x5_1 + 1)) a1_0 a1_1)) = some r := H; have A8 := Aside0.mk A80; clear A80; by_cases c9 : t176 = true
      ·
       subst c9; have H1 : (some x5_1) = some r := by rw [if_pos rfl] at H; exact H
       clear H; have H := H1; clear H1; obtain rfl := Option.some.inj H; go_wp2_with (first | ((with_reducible refine gate_callee (f := 40) rfl ?_); refine goesL_ (some 15) rfl rfl Tryd.func40 (by kernel_rfl) rfl #[.int .i64 a0, .int .i64 x5_1] rfl (by (try simp only [List.map_toArray, List.map_cons, List.map_nil]); first | done | rfl | (simp only [List.length_drop, List.length_take]; rfl)) ?_; (with_reducible refine (spec_HexTone.calls a0 x5_1 t172 t173 true _ A5.out).mono ?_); rintro e w10 ⟨rfl, hb⟩; refine ⟨_, rfl, ?_⟩; have n0_ := Aside0.mk (blk_below (g := gb171) (o := .cells #[.int .i64 a1_0, .bool a1_1] 29 (0, 0)) (by (with_reducible repeat (first | refine blk_drewN ?_ _ | refine blk_drew ?_ | refine blk_alloc ?_ _)); exact BK171.out) hb); have n1_ := Aside0.mk (below_step (by repeat (first | (with_reducible first | exact HB.out | apply below_alloc | apply pw_below_drewN | apply below_drew1 | refine below_set ?_ GE171.out) | exact HB.out)) hb); clear BK171; clear HB; have BK171 := n0_; have HB := n1_; clear n0_ n1_; (try clear hb); (try clear hb2); (try clear hk); (try clear hi)) | ((with_reducible refine gate_dst (N := 6) rfl ?_); refine box_event ?hg (N := 6) ?hd (cs := #[.int .i64 0, .bool false]) (t := 29) ?hr ?_; (case hd => rfl); (case hg => rfl); (case hr => first | (go_simp; done) | (go_simp; rfl)); intro gb175 hg w11 hbox hb; have n0_ := Aside0.mk (blk_below (g := gb171) (o := .cells #[.int .i64 a1_0, .bool a1_1] 29 (0, 0)) (by (with_reducible repeat (first | refine blk_drewN ?_ _ | refine blk_drew ?_ | refine blk_alloc ?_ _)); exact BK171.out) hb); have n1_ := Aside0.mk (below_step (by repeat (first | (with_reducible first | exact HB.out | apply below_alloc | apply pw_below_drewN | apply below_drew1 | refine below_set ?_ GE171.out) | exact HB.out)) hb); have n2_ := Aside0.mk (hbox); have n3_ := Aside0.mk ((by rw [hg]; exact (below_size (by repeat (first | (with_reducible first | exact HB.out | apply below_alloc | apply pw_below_drewN | apply below_drew1 | refine below_set ?_ GE171.out) | exact HB.out))) : w.heap.size ≤ gb175)); have n4_ := Aside0.mk ((by rw [hg]; exact (below_size (by repeat (first | (with_reducible first | exact HB.out | apply below_alloc | apply pw_below_drewN | apply below_drew1 | refine below_set ?_ GE171.out) | exact HB.out))) : w.heap.size ≤ gb175)); have n5_ := Aside0.mk ((by rw [hg]; exact Nat.ne_of_lt (blk_lt (g := gb171) (o := .cells #[.int .i64 a1_0, .bool a1_1] 29 (0, 0)) (by (with_reducible repeat (first | refine blk_drewN ?_ _ | refine blk_drew ?_ | refine blk_alloc ?_ _)); exact BK171.out)) : gb171 ≠ gb175)); have n6_ := Aside0.mk ((by rw [hg]; exact Nat.ne_of_gt (blk_lt (g := gb171) (o := .cells #[.int .i64 a1_0, .bool a1_1] 29 (0, 0)) (by (with_reducible repeat (first | refine blk_drewN ?_ _ | refine blk_drew ?_ | refine blk_alloc ?_ _)); exact BK171.out)) : gb175 ≠ gb171)); clear BK171; clear HB; have BK171 := n0_; have HB := n1_; have BK175 := n2_; have GW175 := n3_; have GE175 := n4_; have NB171_175 := n5_; have NB175_171 := n6_; clear n0_ n1_ n2_ n3_ n4_ n5_ n6_; clear hb hbox hg; have hnb12 := NB175_171.out; have hnc12 := NB171_175.out; have hcz13_0 : w11.cell? ⟨gb175, 0, none⟩ = some (.int .i64 0) := (blk_cell BK175.out 0).trans rfl; have hcz13_1 : w11.cell? ⟨gb175, 1, none⟩ = some (.bool false) := (blk_cell BK175.out 1).trans rfl; have hfz13_0 := blk_frozen BK175.out 0; have hfz13_1 := blk_frozen BK175.out 1; have hcz14_0 : w11.cell? ⟨gb171, 0, none⟩ = some (.int .i64 a1_0) := (blk_cell BK171.out 0).trans rfl; have hcz14_1 : w11.cell? ⟨gb171, 1, none⟩ = some (.bool a1_1) := (blk_cell BK171.out 1).trans rfl; have hfz14_0 := blk_frozen BK171.out 0; have hfz14_1 := blk_frozen BK171.out 1) | (go_at_call 33; (with_reducible refine (spec_ToneValid.calls a1_0 a1_1 true _ A8.out).mono ?_); rintro e w15 ⟨rfl, hb⟩; have n0_ := Aside0.mk (blk_below (g := gb171) (o := .cells #[.int .i64 a1_0, .bool a1_1] 29 (0, 0)) (by (with_reducible repeat (first | refine blk_drewN ?_ _ | refine blk_drew ?_ | refine blk_alloc ?_ _)); refine blk_far ?_ NB171_175.out _; (with_reducible repeat (first | refine blk_drewN ?_ _ | refine blk_drew ?_ | refine blk_alloc ?_ _)); refine blk_far ?_ NB171_175.out _; (with_reducible repeat (first | refine blk_drewN ?_ _ | refine blk_drew ?_ | refine blk_alloc ?_ _)); exact BK171.out) hb); have n1_ := Aside0.mk (blk_below (g := gb175) (o := .cells #[.int .i64 t172, .bool t173] 29 (0, 0)) (by (with_reducible repeat (first | refine blk_drewN ?_ _ | refine blk_drew ?_ | refine blk_alloc ?_ _)); refine blk_put (cs := #[.int .i64 t172, .bool false]) ?_ 1 _ rfl; (with_reducible repeat (first | refine blk_drewN ?_ _ | refine blk_drew ?_ | refine blk_alloc ?_ _)); refine blk_put (cs := #[.int .i64 0, .bool false]) ?_ 0 _ rfl; (with_reducible repeat (first | refine blk_drewN ?_ _ | refine blk_drew ?_ | refine blk_alloc ?_ _)); exact BK175.out) hb); have n2_ := Aside0.mk (below_step (by repeat (first | (with_reducible first | exact HB.out | apply below_alloc | apply pw_below_drewN | apply below_drew1 | refine below_set ?_ GE171.out | refine below_set ?_ GE175.out) | exact HB.out)) hb); clear BK171; clear BK175; clear HB; have BK171 := n0_; have BK175 := n1_; have HB := n2_; clear n0_ n1_ n2_; (try clear hb); (try clear hb2); (try clear hk); (try clear hi)))
       go_ret
       exact ⟨by first | rfl | (simp [errW_none, errW_some] <;> rfl) | (simp [*, errW_none, errW_some] <;> rfl), by repeat (first | (with_reducible first | exact HB.out | apply below_alloc | apply pw_below_drewN | apply below_drew1 | refine below_set ?_ GE171.out | refine below_set ?_ GE175.out) | exact HB.out)⟩
      ·
       replace c9 := Bool.eq_false_iff.mpr c9; subst c9; have H1 : (spec_HexSyllable.l0 k1 a0 (wrap64 (x5_1 + 1)) a1_0 a1_1) = some r := by rw [if_neg (show ¬ (false = true) by decide)] at H; exact H
       clear H; have H := H1; clear H1; have H' := Aside0.mk H; clear H; go_wp2_with (first | ((with_reducible refine gate_callee (f := 40) rfl ?_); refine goesL_ (some 15) rfl rfl Tryd.func40 (by kernel_rfl) rfl #[.int .i64 a0, .int .i64 x5_1] rfl (by (try simp only [List.map_toArray, List.map_cons, List.map_nil]); first | done | rfl | (simp only [List.length_drop, List.length_take]; rfl)) ?_; (with_reducible refine (spec_HexTone.calls a0 x5_1 t172 t173 true _ A5.out).mono ?_); rintro e w16 ⟨rfl, hb⟩; refine ⟨_, rfl, ?_⟩; have n0_ := Aside0.mk (blk_below (g := gb171) (o := .cells #[.int .i64 a1_0, .bool a1_1] 29 (0, 0)) (by (with_reducible repeat (first | refine blk_drewN ?_ _ | refine blk_drew ?_ | refine blk_alloc ?_ _)); exact BK171.out) hb); have n1_ := Aside0.mk (below_step (by repeat (first | (with_reducible first | exact HB.out | apply below_alloc | apply pw_below_drewN | apply below_drew1 | refine below_set ?_ GE171.out) | exact HB.out)) hb); clear BK171; clear HB; have BK171 := n0_; have HB := n1_; clear n0_ n1_; (try clear hb); (try clear hb2); (try clear hk); (try clear hi)) | ((with_reducible refine gate_dst (N := 6) rfl ?_); refine box_event ?hg (N := 6) ?hd (cs := #[.int .i64 0, .bool false]) (t := 29) ?hr ?_; (case hd => rfl); (case hg => rfl); (case hr => first | (go_simp; done) | (go_simp; rfl)); intro gb175 hg w17 hbox hb; have n0_ := Aside0.mk (blk_below (g := gb171) (o := .cells #[.int .i64 a1_0, .bool a1_1] 29 (0, 0)) (by (with_reducible repeat (first | refine blk_drewN ?_ _ | refine blk_drew ?_ | refine blk_alloc ?_ _)); exact BK171.out) hb); have n1_ := Aside0.mk (below_step (by repeat (first | (with_reducible first | exact HB.out | apply below_alloc | apply pw_below_drewN | apply below_drew1 | refine below_set ?_ GE171.out) | exact HB.out)) hb); have n2_ := Aside0.mk (hbox); have n3_ := Aside0.mk ((by rw [hg]; exact (below_size (by repeat (first | (with_reducible first | exact HB.out | apply below_alloc | apply pw_below_drewN | apply below_drew1 | refine below_set ?_ GE171.out) | exact HB.out))) : w.heap.size ≤ gb175)); have n4_ := Aside0.mk ((by rw [hg]; exact (below_size (by repeat (first | (with_reducible first | exact HB.out | apply below_alloc | apply pw_below_drewN | apply below_drew1 | refine below_set ?_ GE171.out) | exact HB.out))) : w.heap.size ≤ gb175)); have n5_ := Aside0.mk ((by rw [hg]; exact Nat.ne_of_lt (blk_lt (g := gb171) (o := .cells #[.int .i64 a1_0, .bool a1_1] 29 (0, 0)) (by (with_reducible repeat (first | refine blk_drewN ?_ _ | refine blk_drew ?_ | refine blk_alloc ?_ _)); exact BK171.out)) : gb171 ≠ gb175)); have n6_ := Aside0.mk ((by rw [hg]; exact Nat.ne_of_gt (blk_lt (g := gb171) (o := .cells #[.int .i64 a1_0, .bool a1_1] 29 (0, 0)) (by (with_reducible repeat (first | refine blk_drewN ?_ _ | refine blk_drew ?_ | refine blk_alloc ?_ _)); exact BK171.out)) : gb175 ≠ gb171)); clear BK171; clear HB; have BK171 := n0_; have HB := n1_; have BK175 := n2_; have GW175 := n3_; have GE175 := n4_; have NB171_175 := n5_; have NB175_171 := n6_; clear n0_ n1_ n2_ n3_ n4_ n5_ n6_; clear hb hbox hg; have hnb18 := NB175_171.out; have hnc18 := NB171_175.out; have hcz19_0 : w17.cell? ⟨gb175, 0, none⟩ = some (.int .i64 0) := (blk_cell BK175.out 0).trans rfl; have hcz19_1 : w17.cell? ⟨gb175, 1, none⟩ = some (.bool false) := (blk_cell BK175.out 1).trans rfl; have hfz19_0 := blk_frozen BK175.out 0; have hfz19_1 := blk_frozen BK175.out 1; have hcz20_0 : w17.cell? ⟨gb171, 0, none⟩ = some (.int .i64 a1_0) := (blk_cell BK171.out 0).trans rfl; have hcz20_1 : w17.cell? ⟨gb171, 1, none⟩ = some (.bool a1_1) := (blk_cell BK171.out 1).trans rfl; have hfz20_0 := blk_frozen BK171.out 0; have hfz20_1 := blk_frozen BK171.out 1) | (go_at_call 33; (with_reducible refine (spec_ToneValid.calls a1_0 a1_1 false _ A8.out).mono ?_); rintro e w21 ⟨rfl, hb⟩; have n0_ := Aside0.mk (blk_below (g := gb171) (o := .cells #[.int .i64 a1_0, .bool a1_1] 29 (0, 0)) (by (with_reducible repeat (first | refine blk_drewN ?_ _ | refine blk_drew ?_ | refine blk_alloc ?_ _)); refine blk_far ?_ NB171_175.out _; (with_reducible repeat (first | refine blk_drewN ?_ _ | refine blk_drew ?_ | refine blk_alloc ?_ _)); refine blk_far ?_ NB171_175.out _; (with_reducible repeat (first | refine blk_drewN ?_ _ | refine blk_drew ?_ | refine blk_alloc ?_ _)); exact BK171.out) hb); have n1_ := Aside0.mk (blk_below (g := gb175) (o := .cells #[.int .i64 t172, .bool t173] 29 (0, 0)) (by (with_reducible repeat (first | refine blk_drewN ?_ _ | refine blk_drew ?_ | refine blk_alloc ?_ _)); refine blk_put (cs := #[.int .i64 t172, .bool false]) ?_ 1 _ rfl; (with_reducible repeat (first | refine blk_drewN ?_ _ | refine blk_drew ?_ | refine blk_alloc ?_ _)); refine blk_put (cs := #[.int .i64 0, .bool false]) ?_ 0 _ rfl; (with_reducible repeat (first | refine blk_drewN ?_ _ | refine blk_drew ?_ | refine blk_alloc ?_ _)); exact BK175.out) hb); have n2_ := Aside0.mk (below_step (by repeat (first | (with_reducible first | exact HB.out | apply below_alloc | apply pw_below_drewN | apply below_drew1 | refine below_set ?_ GE171.out | refine below_set ?_ GE175.out) | exact HB.out)) hb); clear BK171; clear BK175; clear HB; have BK171 := n0_; have BK175 := n1_; have HB := n2_; clear n0_ n1_ n2_; (try clear hb); (try clear hb2); (try clear hk); (try clear hi)))
       go_roundg k1
       case measure => have := HK1.out; omega
       case rel => exact ⟨(wrap64 (x5_1 + 1)), (by first | rfl | (simp; done) | (simp [*]; done)), H', ⟨by have := HK1.out; omega⟩, ⟨by (with_reducible repeat (first | refine blk_drewN ?_ _ | refine blk_drew ?_ | refine blk_alloc ?_ _)); exact BK171.out⟩, ⟨by repeat (first | (with_reducible first | exact HB.out | apply below_alloc | apply pw_below_drewN | apply below_drew1 | refine below_set ?_ GE171.out | refine below_set ?_ GE175.out) | exact HB.out)⟩⟩
     ·
      rw [if_neg c7] at H; have c7b0 : (t172 == a1_0 && (t173 == a1_1)) = false := by simpa using c7
      (try (have c7b1 : decide (t172 = a1_0 && (t173 == a1_1)) = false := by simpa using c7))
      (try (have c7b2 : (t172 == a1_0 && (t173 == a1_1)) = false := by simpa using c7))
      (try (have c7b3 : ¬ (t172 = a1_0 && (t173 == a1_1)) := by simpa using c7))
      clear c7; have H' := Aside0.mk H; clear H; go_wp2_with (first | ((with_reducible refine gate_callee (f := 40) rfl ?_); refine goesL_ (some 15) rfl rfl Tryd.func40 (by kernel_rfl) rfl #[.int .i64 a0, .int .i64 x5_1] rfl (by (try simp only [List.map_toArray, List.map_cons, List.map_nil]); first | done | rfl | (simp only [List.length_drop, List.length_take]; rfl)) ?_; (with_reducible refine (spec_HexTone.calls a0 x5_1 t172 t173 true _ A5.out).mono ?_); rintro e w22 ⟨rfl, hb⟩; refine ⟨_, rfl, ?_⟩; have n0_ := Aside0.mk (blk_below (g := gb171) (o := .cells #[.int .i64 a1_0, .bool a1_1] 29 (0, 0)) (by (with_reducible repeat (first | refine blk_drewN ?_ _ | refine blk_drew ?_ | refine blk_alloc ?_ _)); exact BK171.out) hb); have n1_ := Aside0.mk (below_step (by repeat (first | (with_reducible first | exact HB.out | apply below_alloc | apply pw_below_drewN | apply below_drew1 | refine below_set ?_ GE171.out) | exact HB.out)) hb); clear BK171; clear HB; have BK171 := n0_; have HB := n1_; clear n0_ n1_; (try clear hb); (try clear hb2); (try clear hk); (try clear hi)) | ((with_reducible refine gate_dst (N := 6) rfl ?_); refine box_event ?hg (N := 6) ?hd (cs := #[.int .i64 0, .bool false]) (t := 29) ?hr ?_; (case hd => rfl); (case hg => rfl); (case hr => first | (go_simp; done) | (go_simp; rfl)); intro gb175 hg w23 hbox hb; have n0_ := Aside0.mk (blk_below (g := gb171) (o := .cells #[.int .i64 a1_0, .bool a1_1] 29 (0, 0)) (by (with_reducible repeat (first | refine blk_drewN ?_ _ | refine blk_drew ?_ | refine blk_alloc ?_ _)); exact BK171.out) hb); have n1_ := Aside0.mk (below_step (by repeat (first | (with_reducible first | exact HB.out | apply below_alloc | apply pw_below_drewN | apply below_drew1 | refine below_set ?_ GE171.out) | exact HB.out)) hb); have n2_ := Aside0.mk (hbox); have n3_ := Aside0.mk ((by rw [hg]; exact (below_size (by repeat (first | (with_reducible first | exact HB.out | apply below_alloc | apply pw_below_drewN | apply below_drew1 | refine below_set ?_ GE171.out) | exact HB.out))) : w.heap.size ≤ gb175)); have n4_ := Aside0.mk ((by rw [hg]; exact (below_size (by repeat (first | (with_reducible first | exact HB.out | apply below_alloc | apply pw_below_drewN | apply below_drew1 | refine below_set ?_ GE171.out) | exact HB.out))) : w.heap.size ≤ gb175)); have n5_ := Aside0.mk ((by rw [hg]; exact Nat.ne_of_lt (blk_lt (g := gb171) (o := .cells #[.int .i64 a1_0, .bool a1_1] 29 (0, 0)) (by (with_reducible repeat (first | refine blk_drewN ?_ _ | refine blk_drew ?_ | refine blk_alloc ?_ _)); exact BK171.out)) : gb171 ≠ gb175)); have n6_ := Aside0.mk ((by rw [hg]; exact Nat.ne_of_gt (blk_lt (g := gb171) (o := .cells #[.int .i64 a1_0, .bool a1_1] 29 (0, 0)) (by (with_reducible repeat (first | refine blk_drewN ?_ _ | refine blk_drew ?_ | refine blk_alloc ?_ _)); exact BK171.out)) : gb175 ≠ gb171)); clear BK171; clear HB; have BK171 := n0_; have HB := n1_; have BK175 := n2_; have GW175 := n3_; have GE175 := n4_; have NB171_175 := n5_; have NB175_171 := n6_; clear n0_ n1_ n2_ n3_ n4_ n5_ n6_; clear hb hbox hg; have hnb24 := NB175_171.out; have hnc24 := NB171_175.out; have hcz25_0 : w23.cell? ⟨gb175, 0, none⟩ = some (.int .i64 0) := (blk_cell BK175.out 0).trans rfl; have hcz25_1 : w23.cell? ⟨gb175, 1, none⟩ = some (.bool false) := (blk_cell BK175.out 1).trans rfl; have hfz25_0 := blk_frozen BK175.out 0; have hfz25_1 := blk_frozen BK175.out 1; have hcz26_0 : w23.cell? ⟨gb171, 0, none⟩ = some (.int .i64 a1_0) := (blk_cell BK171.out 0).trans rfl; have hcz26_1 : w23.cell? ⟨gb171, 1, none⟩ = some (.bool a1_1) := (blk_cell BK171.out 1).trans rfl; have hfz26_0 := blk_frozen BK171.out 0; have hfz26_1 := blk_frozen BK171.out 1))
      go_roundg k1
      case measure => have := HK1.out; omega
      case rel => exact ⟨(wrap64 (x5_1 + 1)), (by first | rfl | (simp; done) | (simp [*]; done)), H', ⟨by have := HK1.out; omega⟩, ⟨by (with_reducible repeat (first | refine blk_drewN ?_ _ | refine blk_drew ?_ | refine blk_alloc ?_ _)); refine blk_far ?_ NB171_175.out _; (with_reducible repeat (first | refine blk_drewN ?_ _ | refine blk_drew ?_ | refine blk_alloc ?_ _)); refine blk_far ?_ NB171_175.out _; (with_reducible repeat (first | refine blk_drewN ?_ _ | refine blk_drew ?_ | refine blk_alloc ?_ _)); exact BK171.out⟩, ⟨by repeat (first | (with_reducible first | exact HB.out | apply below_alloc | apply pw_below_drewN | apply below_drew1 | refine below_set ?_ GE171.out | refine below_set ?_ GE175.out) | exact HB.out)⟩⟩
    ·
     replace c6 := Bool.eq_false_iff.mpr c6; subst c6; have H1 : (spec_HexSyllable.l0 k1 a0 (wrap64 (x5_1 + 1)) a1_0 a1_1) = some r := by rw [if_neg (show ¬ (false = true) by decide)] at H; exact H
     clear H; have H := H1; clear H1; have H' := Aside0.mk H; clear H; go_wp2_with (first | ((with_reducible refine gate_callee (f := 40) rfl ?_); refine goesL_ (some 15) rfl rfl Tryd.func40 (by kernel_rfl) rfl #[.int .i64 a0, .int .i64 x5_1] rfl (by (try simp only [List.map_toArray, List.map_cons, List.map_nil]); first | done | rfl | (simp only [List.length_drop, List.length_take]; rfl)) ?_; (with_reducible refine (spec_HexTone.calls a0 x5_1 t172 t173 false _ A5.out).mono ?_); rintro e w27 ⟨rfl, hb⟩; refine ⟨_, rfl, ?_⟩; have n0_ := Aside0.mk (blk_below (g := gb171) (o := .cells #[.int .i64 a1_0, .bool a1_1] 29 (0, 0)) (by (with_reducible repeat (first | refine blk_drewN ?_ _ | refine blk_drew ?_ | refine blk_alloc ?_ _)); exact BK171.out) hb); have n1_ := Aside0.mk (below_step (by repeat (first | (with_reducible first | exact HB.out | apply below_alloc | apply pw_below_drewN | apply below_drew1 | refine below_set ?_ GE171.out) | exact HB.out)) hb); clear BK171; clear HB; have BK171 := n0_; have HB := n1_; clear n0_ n1_; (try clear hb); (try clear hb2); (try clear hk); (try clear hi)) | ((with_reducible refine gate_dst (N := 6) rfl ?_); refine box_event ?hg (N := 6) ?hd (cs := #[.int .i64 0, .bool false]) (t := 29) ?hr ?_; (case hd => rfl); (case hg => rfl); (case hr => first | (go_simp; done) | (go_simp; rfl)); intro gb175 hg w28 hbox hb; have n0_ := Aside0.mk (blk_below (g := gb171) (o := .cells #[.int .i64 a1_0, .bool a1_1] 29 (0, 0)) (by (with_reducible repeat (first | refine blk_drewN ?_ _ | refine blk_drew ?_ | refine blk_alloc ?_ _)); exact BK171.out) hb); have n1_ := Aside0.mk (below_step (by repeat (first | (with_reducible first | exact HB.out | apply below_alloc | apply pw_below_drewN | apply below_drew1 | refine below_set ?_ GE171.out) | exact HB.out)) hb); have n2_ := Aside0.mk (hbox); have n3_ := Aside0.mk ((by rw [hg]; exact (below_size (by repeat (first | (with_reducible first | exact HB.out | apply below_alloc | apply pw_below_drewN | apply below_drew1 | refine below_set ?_ GE171.out) | exact HB.out))) : w.heap.size ≤ gb175)); have n4_ := Aside0.mk ((by rw [hg]; exact (below_size (by repeat (first | (with_reducible first | exact HB.out | apply below_alloc | apply pw_below_drewN | apply below_drew1 | refine below_set ?_ GE171.out) | exact HB.out))) : w.heap.size ≤ gb175)); have n5_ := Aside0.mk ((by rw [hg]; exact Nat.ne_of_lt (blk_lt (g := gb171) (o := .cells #[.int .i64 a1_0, .bool a1_1] 29 (0, 0)) (by (with_reducible repeat (first | refine blk_drewN ?_ _ | refine blk_drew ?_ | refine blk_alloc ?_ _)); exact BK171.out)) : gb171 ≠ gb175)); have n6_ := Aside0.mk ((by rw [hg]; exact Nat.ne_of_gt (blk_lt (g := gb171) (o := .cells #[.int .i64 a1_0, .bool a1_1] 29 (0, 0)) (by (with_reducible repeat (first | refine blk_drewN ?_ _ | refine blk_drew ?_ | refine blk_alloc ?_ _)); exact BK171.out)) : gb175 ≠ gb171)); clear BK171; clear HB; have BK171 := n0_; have HB := n1_; have BK175 := n2_; have GW175 := n3_; have GE175 := n4_; have NB171_175 := n5_; have NB175_171 := n6_; clear n0_ n1_ n2_ n3_ n4_ n5_ n6_; clear hb hbox hg; have hnb29 := NB175_171.out; have hnc29 := NB171_175.out; have hcz30_0 : w28.cell? ⟨gb175, 0, none⟩ = some (.int .i64 0) := (blk_cell BK175.out 0).trans rfl; have hcz30_1 : w28.cell? ⟨gb175, 1, none⟩ = some (.bool false) := (blk_cell BK175.out 1).trans rfl; have hfz30_0 := blk_frozen BK175.out 0; have hfz30_1 := blk_frozen BK175.out 1))
     go_roundg k1
     case measure => have := HK1.out; omega
     case rel => exact ⟨(wrap64 (x5_1 + 1)), (by first | rfl | (simp; done) | (simp [*]; done)), H', ⟨by have := HK1.out; omega⟩, ⟨by (with_reducible repeat (first | refine blk_drewN ?_ _ | refine blk_drew ?_ | refine blk_alloc ?_ _)); refine blk_far ?_ NB171_175.out _; (with_reducible repeat (first | refine blk_drewN ?_ _ | refine blk_drew ?_ | refine blk_alloc ?_ _)); refine blk_far ?_ NB171_175.out _; (with_reducible repeat (first | refine blk_drewN ?_ _ | refine blk_drew ?_ | refine blk_alloc ?_ _)); exact BK171.out⟩, ⟨by repeat (first | (with_reducible first | exact HB.out | apply below_alloc | apply pw_below_drewN | apply below_drew1 | refine below_set ?_ GE171.out | refine below_set ?_ GE175.out) | exact HB.out)⟩⟩
   ·
    rw [if_neg c4] at H; have c4b0 : decide (x5_1 < 6) = false := decide_eq_false c4; clear c4; obtain rfl := Option.some.inj H; go_wp2; go_ret
    exact ⟨by first | rfl | (simp [errW_none, errW_some] <;> rfl) | (simp [*, errW_none, errW_some] <;> rfl), by repeat (first | (with_reducible first | exact HB.out | apply below_alloc | apply pw_below_drewN | apply below_drew1 | refine below_set ?_ GE171.out) | exact HB.out)⟩

end Go.Proofs.YtiagfjbngpbejaaDoor.PFnSingMany
namespace Go.Proofs.YtiagfjbngpbejaaDoor.PFnSingMany
open Go.RowKit Go.Proofs.YtiagfjbngpbejaaDoorW.PrintWords Go.Proofs.YtiagfjbngpbejaaDoorW.PrintLast Go.Proofs.YtiagfjbngpbejaaDoorW.PrintMore
attribute [local go_sem] max2_int min2_int max_two min_two max_three min_three max_four min_four   -- for this text's walks alone
set_option linter.unusedVariables false
set_option linter.unusedSimpArgs false

def spec_HexAll.l0 : Nat → List Int → Int → Int → Bool → Option (List Int)
 | 0, _, _, _, _ => none
 | k + 1, x3, x4, x178000, x178001 => if x4 ≤ 20 then ((spec_HexSyllable.f k x4 x178000 x178001).bind fun t181 => (if t181 ≥ 0 then (if x3.length < 17592186044416 then (spec_HexAll.l0 k (x3 ++ [x4]) (wrap64 (x4 + 1)) x178000 x178001) else (none)) else (spec_HexAll.l0 k x3 (wrap64 (x4 + 1)) x178000 x178001))) else (some x3)
def spec_HexAll.f (k : Nat) (a0_0 : Int) (a0_1 : Bool) : Option (List Int) := spec_HexAll.l0 k (([] : List Int)) 0 a0_0 a0_1
theorem spec_HexAll.mono_l : ∀ k, (∀ y0 y1 y2 y3, LeO (spec_HexAll.l0 k y0 y1 y2 y3) (spec_HexAll.l0 (k + 1) y0 y1 y2 y3))
 | 0 => fun _ _ _ _ r h => by simp [spec_HexAll.l0] at h
 | k + 1 => by
  have ih0 := spec_HexAll.mono_l k
  ·
   intro y0 y1 y2 y3; unfold spec_HexAll.l0; repeat' first
   | (with_reducible exact ih0 _ _ _ _)
   | (with_reducible exact spec_HexSyllable.mono _ _ _ _)
   | (with_reducible exact LeO.refl _)
   | (with_reducible exact LeO.none _)
   | (with_reducible refine LeO.ite ?_ ?_)
   | (with_reducible refine LeO.bind ?_ (fun _ => ?_))
   | exact ih0 _ _ _ _
   | exact spec_HexSyllable.mono _ _ _ _
   | exact LeO.none _
   | refine LeO.ite ?_ ?_
   | refine LeO.bind ?_ (fun _ => ?_)
theorem spec_HexAll.mono : ∀ a0 a1 k, LeO (spec_HexAll.f k a0 a1) (spec_HexAll.f (k + 1) a0 a1) := by
 intro a0 a1 k; have ih0 := spec_HexAll.mono_l k; unfold spec_HexAll.f; repeat' first
  | (with_reducible exact ih0 _ _ _ _)
  | (with_reducible exact spec_HexSyllable.mono _ _ _ _)
  | (with_reducible exact LeO.refl _)
  | (with_reducible exact LeO.none _)
  | (with_reducible refine LeO.ite ?_ ?_)
  | (with_reducible refine LeO.bind ?_ (fun _ => ?_))
  | exact ih0 _ _ _ _
  | exact spec_HexSyllable.mono _ _ _ _
  | exact LeO.none _
  | refine LeO.ite ?_ ?_
  | refine LeO.bind ?_ (fun _ => ?_)
set_option maxHeartbeats 8000000 in
set_option maxRecDepth 100000 in
theorem spec_HexAll.calls (k : Nat) (a0_0 : Int) (a0_1 : Bool) (r : List Int) (w : World) (h : spec_HexAll.f k a0_0 a0_1 = some r) :
 Calls Tryd.prog 22 #[.agg #[.int .i64 a0_0, .bool a0_1]] w fun e w' => ∃ v0_ : Value, e = .returned (v0_) ∧ Kd.R (Kd.int .i64) 3 w' w.heap.size (fun _ => True) v0_ r ∧ Below w.heap.size w w' := by
 have hu29 := Tryd.underlying29; have HB := Aside0.mk (Below.refl w.heap.size w); have H : (spec_HexAll.l0 k (([] : List Int)) 0 a0_0 a0_1) = some r := h; clear h; obtain ⟨y178, hy178⟩ : ∃ y_ : List Int, y_ = (([] : List Int)) := ⟨_, rfl⟩
 replace H : (spec_HexAll.l0 k y178 0 a0_0 a0_1) = some r := by first | (rw [hy178]; with_reducible exact H) | (have H2_ := (Option.bind_some _ _).symm.trans H; rw [hy178]; with_reducible exact H2_) | (have H2_ := (Option.bind_some _ _).symm.trans H; with_reducible exact H2_) | with_reducible exact H | (rw [hy178]; exact H) | exact H
 have Ny178 := Aside0.mk hy178; clear hy178; have H' := Aside0.mk H; clear H; go_enter Tryd.func22, Tryd.ntmps22
 go_wp2_with (first | ((with_reducible refine gate_dst (N := 1) rfl ?_); refine box_event ?hg (N := 1) ?hd (cs := #[.int .i64 a0_0, .bool a0_1]) (t := 29) ?hr ?_; (case hd => rfl); (case hg => rfl); (case hr => first | (go_simp; done) | (go_simp; rfl)); intro gb177 hg w2 hbox hb; have n0_ := Aside0.mk (below_step (by repeat (first | (with_reducible first | exact HB.out | apply below_alloc | apply pw_below_drewN | apply below_drew1) | exact HB.out)) hb); have n1_ := Aside0.mk (hbox); have n2_ := Aside0.mk ((by rw [hg]; exact (below_size (by repeat (first | (with_reducible first | exact HB.out | apply below_alloc | apply pw_below_drewN | apply below_drew1) | exact HB.out))) : w.heap.size ≤ gb177)); have n3_ := Aside0.mk ((by rw [hg]; exact (below_size (by repeat (first | (with_reducible first | exact HB.out | apply below_alloc | apply pw_below_drewN | apply below_drew1) | exact HB.out))) : w.heap.size ≤ gb177)); clear HB; have HB := n0_; have BK177 := n1_; have GW177 := n2_; have GE177 := n3_; clear n0_ n1_ n2_ n3_; clear hb hbox hg) | ((with_reducible refine gate_dst (N := 5) rfl ?_); refine Kd.R_lit (Kd.int .i64) _ 3 ?hg (N := 5) ?hd (xs := ([] : List Int)) (inner := []) (ok := fun _ => True) (okp := fun _ => True) ?hr ?hp (fun _ hk => hk) trivial (Below.refl _ _) (Nat.le_refl _) (by simp) ?_; (case hd => rfl); (case hg => rfl); (case hr => first | (go_simp; done) | (go_simp; rfl)); (case hp => exact (Reps.none _ _)); intro v179 w3 ho4 hb hg_ hnew_; clear hg_ hnew_; (first | rw [← Ny178.out] at ho4 | (simp only [Int.reduceToNat] at ho4; rw [← Ny178.out] at ho4)); have n0_ := Aside0.mk (Kd.R_lower ho4 (below_size (by repeat (first | (with_reducible first | exact HB.out | apply below_alloc | apply pw_below_drewN | apply below_drew1 | refine below_set ?_ GE177.out) | exact HB.out)))); have n1_ := Aside0.mk (blk_below (g := gb177) (o := .cells #[.int .i64 a0_0, .bool a0_1] 29 (0, 0)) (by (with_reducible repeat (first | refine blk_drewN ?_ _ | refine blk_drew ?_ | refine blk_alloc ?_ _)); exact BK177.out) hb); have n2_ := Aside0.mk (below_step (by repeat (first | (with_reducible first | exact HB.out | apply below_alloc | apply pw_below_drewN | apply below_drew1 | refine below_set ?_ GE177.out) | exact HB.out)) hb); clear BK177; clear HB; have HO180 := n0_; have BK177 := n1_; have HB := n2_; clear n0_ n1_ n2_; clear hb ho4))
 go_loopg [3, 4] k (fun kq v3 v4 w' => ∃ (x3_1 : List Int) (x4_1 : Int), v4 = .int .i64 x4_1 ∧ Aside0 (spec_HexAll.l0 kq x3_1 x4_1 a0_0 a0_1 = some r) ∧ Aside0 (kq ≤ k) ∧ Aside0 (Kd.R (Kd.int .i64) 3 w' w.heap.size (fun _ => True) v3 x3_1) ∧ Aside0 (w'.heap[gb177]? = some (.cells #[.int .i64 a0_0, .bool a0_1] 29 (0, 0))) ∧ Aside0 (Below w.heap.size w w'))
 case atStart => exact ⟨(y178), (0), (by first | rfl | (simp; done) | (simp [*]; done)), H', ⟨Nat.le_refl _⟩, ⟨by (with_reducible repeat (first | apply Kd.R_alloc | apply Kd.R_drewN | apply Kd.R_drew)); exact HO180.out⟩, ⟨by (with_reducible repeat (first | refine blk_drewN ?_ _ | refine blk_drew ?_ | refine blk_alloc ?_ _)); exact BK177.out⟩, ⟨by repeat (first | (with_reducible first | exact HB.out | apply below_alloc | apply pw_below_drewN | apply below_drew1 | refine below_set ?_ GE177.out) | exact HB.out)⟩⟩
 case round =>
  clear H'; try clear c2
  try clear p2
  obtain ⟨x3_1, x4_1, rfl, HA, HK1, HO_3, BK177, HB⟩ := hrel; cases gk with
  | zero => exact absurd HA.out (by simp [spec_HexAll.l0])
  | succ k1 =>
   have H := HA.out; clear HA; simp only [spec_HexAll.l0] at H; by_cases c5 : x4_1 ≤ 20
   ·
    rw [if_pos c5] at H; have c5b0 : decide (x4_1 ≤ 20) = true := decide_eq_true c5; clear c5; replace H := Option.bind_eq_some_iff.mp H; obtain ⟨t181, A60, H⟩ := H; replace H : (if t181 ≥ 0 then (if x3_1.length < 17592186044416 then (spec_HexAll.l0 k1 (x3_1 ++ [x4_1]) (wrap64 (x4_1 + 1)) a0_0 a0_1) else (none)) else (spec_HexAll.l0 k1 x3_1 (wrap64 (x4_1 + 1)) a0_0 a0_1)) = some r := H; have A6 := Aside0.mk A60; clear A60; by_cases c7 : t181 ≥ 0
    ·
     rw [if_pos c7] at H; have c7b0 : decide (0 ≤ t181) = true := decide_eq_true c7; clear c7; by_cases c8 : x3_1.length < 17592186044416
     ·
      rw [if_pos c8] at H; have LMc8 := Aside0.mk c8; clear c8; obtain ⟨y182, hy182⟩ : ∃ y_ : List Int, y_ = (x3_1 ++ [x4_1]) := ⟨_, rfl⟩
      replace H : (spec_HexAll.l0 k1 y182 (wrap64 (x4_1 + 1)) a0_0 a0_1) = some r := by first | (rw [hy182]; with_reducible exact H) | (have H2_ := (Option.bind_some _ _).symm.trans H; rw [hy182]; with_reducible exact H2_) | (have H2_ := (Option.bind_some _ _).symm.trans H; with_reducible exact H2_) | with_reducible exact H | (rw [hy182]; exact H) | exact H
      have Ny182 := Aside0.mk hy182; clear hy182; have H' := Aside0.mk H; clear H; have hcz9_0 : wr.cell? ⟨gb177, 0, none⟩ = some (.int .i64 a0_0) := (blk_cell BK177.out 0).trans rfl; have hcz9_1 : wr.cell? ⟨gb177, 1, none⟩ = some (.bool a0_1) := (blk_cell BK177.out 1).trans rfl; have hfz9_0 := blk_frozen BK177.out 0; have hfz9_1 := blk_frozen BK177.out 1; go_wp2_with (first | ((with_reducible refine gate_callee (f := 34) rfl ?_); refine goesL_ (some 12) rfl rfl Tryd.func34 (by kernel_rfl) rfl #[.int .i64 x4_1, .agg #[.int .i64 a0_0, .bool a0_1]] rfl (by (try simp only [List.map_toArray, List.map_cons, List.map_nil]); first | done | rfl | (simp only [List.length_drop, List.length_take]; rfl)) ?_; (with_reducible refine (spec_HexSyllable.calls k1 x4_1 a0_0 a0_1 t181 _ A6.out).mono ?_); rintro e w10 ⟨rfl, hb⟩; refine ⟨_, rfl, ?_⟩; have n0_ := Aside0.mk (Kd.R_below (by (with_reducible repeat (first | apply Kd.R_alloc | apply Kd.R_drewN | apply Kd.R_drew)); exact HO_3.out) hb); have n1_ := Aside0.mk (blk_below (g := gb177) (o := .cells #[.int .i64 a0_0, .bool a0_1] 29 (0, 0)) (by (with_reducible repeat (first | refine blk_drewN ?_ _ | refine blk_drew ?_ | refine blk_alloc ?_ _)); exact BK177.out) hb); have n2_ := Aside0.mk (below_step (by repeat (first | (with_reducible first | exact HB.out | apply below_alloc | apply pw_below_drewN | apply below_drew1 | refine below_set ?_ GE177.out) | exact HB.out)) hb); clear HO_3; clear BK177; clear HB; have HO_3 := n0_; have BK177 := n1_; have HB := n2_; clear n0_ n1_ n2_; (try clear hb); (try clear hb2); (try clear hk); (try clear hi)) | ((with_reducible refine gate_builtin (b := .append) (xs := #[.tmp 14, .tmp 16]) rfl ?_); at_builtin; refine Kd.R_append (Kd.int .i64) (w0 := w) w.heap.size rfl (.tmp 14) (.tmp 16) 26 3 (.int .i64 0) 8 rfl Tryd.underlying26 info3 rfl (by decide) (by omega) u3 x3_1 x4_1 [.int .i64 x4_1] (fun _ => True) (fun _ => False) rfl rfl ?aP (fun _ hk => hk.elim) ?aF ?aO ?aB ?aS ?aL ?_; (case aP => exact rfl); (case aB => exact (by repeat (first | (with_reducible first | exact HB.out | apply below_alloc | apply pw_below_drewN | apply below_drew1 | refine below_set ?_ GE177.out) | exact HB.out))); (case aF => exact (fun _ _ => trivial)); (case aO => exact (by (with_reducible repeat (first | apply Kd.R_alloc | apply Kd.R_drewN | apply Kd.R_drew)); exact HO_3.out)); (case aS => exact (below_size (by repeat (first | (with_reducible first | exact HB.out | apply below_alloc | apply pw_below_drewN | apply below_drew1 | refine below_set ?_ GE177.out) | exact HB.out)))); (case aL => have := LMc8.out; omega); intro v183 w11 ho hb hg hat; rw [← Ny182.out] at ho; have n0_ := Aside0.mk (blk_grown (g := gb177) (o := .cells #[.int .i64 a0_0, .bool a0_1] 29 (0, 0)) (by (with_reducible repeat (first | refine blk_drewN ?_ _ | refine blk_drew ?_ | refine blk_alloc ?_ _)); exact BK177.out) hg (Kd.R_ne HO_3.out BK177.out (by decide))); have n1_ := Aside0.mk (hb); have n2_ := Aside0.mk (ho); clear BK177; clear HB; clear HO_3; have BK177 := n0_; have HB := n1_; have HO184 := n2_; clear n0_ n1_ n2_; clear ho hb hg hat))
      go_roundg k1
      case measure => have := HK1.out; omega
      case rel => exact ⟨(y182), (wrap64 (x4_1 + 1)), (by first | rfl | (simp; done) | (simp [*]; done)), H', ⟨by have := HK1.out; omega⟩, ⟨by (with_reducible repeat (first | apply Kd.R_alloc | apply Kd.R_drewN | apply Kd.R_drew)); exact HO184.out⟩, ⟨by (with_reducible repeat (first | refine blk_drewN ?_ _ | refine blk_drew ?_ | refine blk_alloc ?_ _)); exact BK177.out⟩, ⟨by repeat (first | (with_reducible first | exact HB.out | apply below_alloc | apply pw_below_drewN | apply below_drew1 | refine below_set ?_ GE177.out) | exact HB.out)⟩⟩
     ·
      rw [if_neg c8] at H; exact absurd H (by simp)
    ·
     rw [if_neg c7] at H; have c7b0 : decide (0 ≤ t181) = false := decide_eq_false c7; clear c7; have H' := Aside0.mk H; clear H; have hcz12_0 : wr.cell? ⟨gb177, 0, none⟩ = some (.int .i64 a0_0) := (blk_cell BK177.out 0).trans rfl; have hcz12_1 : wr.cell? ⟨gb177, 1, none⟩ = some (.bool a0_1) := (blk_cell BK177.out 1).trans rfl; have hfz12_0 := blk_frozen BK177.out 0; have hfz12_1 := blk_frozen BK177.out 1; go_wp2_with (first | ((with_reducible refine gate_callee (f := 34) rfl ?_); refine goesL_ (some 12) rfl rfl Tryd.func34 (by kernel_rfl) rfl #[.int .i64 x4_1, .agg #[.int .i64 a0_0, .bool a0_1]] rfl (by (try simp only [List.map_toArray, List.map_cons, List.map_nil]); first | done | rfl | (simp only [List.length_drop, List.length_take]; rfl)) ?_; (with_reducible refine (spec_HexSyllable.calls k1 x4_1 a0_0 a0_1 t181 _ A6.out).mono ?_); rintro e w13 ⟨rfl, hb⟩; refine ⟨_, rfl, ?_⟩; have n0_ := Aside0.mk (Kd.R_below (by (with_reducible repeat (first | apply Kd.R_alloc | apply Kd.R_drewN | apply Kd.R_drew)); exact HO_3.out) hb); have n1_ := Aside0.mk (blk_below (g := gb177) (o := .cells #[.int .i64 a0_0, .bool a0_1] 29 (0, 0)) (by (with_reducible repeat (first | refine blk_drewN ?_ _ | refine blk_drew ?_ | refine blk_alloc ?_ _)); exact BK177.out) hb); have n2_ := Aside0.mk (below_step (by repeat (first | (with_reducible first | exact HB.out | apply below_alloc | apply pw_below_drewN | apply below_drew1 | refine below_set ?_ GE177.out) | exact HB.out)) hb); clear HO_3; clear BK177; clear HB; have HO_3 := n0_; have BK177 := n1_; have HB := n2_; clear n0_ n1_ n2_; (try clear hb); (try clear hb2); (try clear hk); (try clear hi)))
     go_roundg k1
     case measure => have := HK1.out; omega
     case rel => exact ⟨(x3_1), (wrap64 (x4_1 + 1)), (by first | rfl | (simp; done) | (simp [*]; done)), H', ⟨by have := HK1.out; omega⟩, ⟨by (with_reducible repeat (first | apply Kd.R_alloc | apply Kd.R_drewN | apply Kd.R_drew)); exact HO_3.out⟩, ⟨by (with_reducible repeat (first | refine blk_drewN ?_ _ | refine blk_drew ?_ | refine blk_alloc ?_ _)); exact BK177.out⟩, ⟨by repeat (first | (with_reducible first | exact HB.out | apply below_alloc | apply pw_below_drewN | apply below_drew1 | refine below_set ?_ GE177.out) | exact HB.out)⟩⟩
   ·
    rw [if_neg c5] at H; have c5b0 : decide (x4_1 ≤ 20) = false := decide_eq_false c5; clear c5; obtain rfl := Option.some.inj H; go_wp2; go_ret
    exact ⟨_, by first | rfl | (simp [errW_none, errW_some] <;> rfl) | (simp [*, errW_none, errW_some] <;> rfl), by (with_reducible repeat (first | apply Kd.R_alloc | apply Kd.R_drewN | apply Kd.R_drew)); exact HO_3.out, by repeat (first | (with_reducible first | exact HB.out | apply below_alloc | apply pw_below_drewN | apply below_drew1 | refine below_set ?_ GE177.out) | exact HB.out)⟩

end Go.Proofs.YtiagfjbngpbejaaDoor.PFnSingMany
namespace Go.Proofs.YtiagfjbngpbejaaDoor.PFnSingMany
open Go.RowKit Go.Proofs.YtiagfjbngpbejaaDoorW.PrintWords Go.Proofs.YtiagfjbngpbejaaDoorW.PrintLast Go.Proofs.YtiagfjbngpbejaaDoorW.PrintMore
attribute [local go_sem] max2_int min2_int max_two min_two max_three min_three max_four min_four   -- for this text's walks alone
set_option linter.unusedVariables false
set_option linter.unusedSimpArgs false

def spec_SingMany.l0 : Nat → List (S29) → Int → Int → Option (Int)
 | 0, _, _, _ => none
 | k + 1, x0, x3, x4 => if x4 < (x0.length : Int) then (if 0 ≤ x4 then ((spec_HexAll.f k ((rd_T29 x0 x4).f0) ((rd_T29 x0 x4).f1)).bind fun t187 => (spec_SingMany.l0 k x0 (wrap64 (x3 * (t187.length : Int))) (wrap64 (x4 + 1)))) else (none)) else (some x3)
def spec_SingMany.f (k : Nat) (l0 : List (S29)) : Option (Int) := (spec_MelodyValid.f k l0).bind fun t185 => (if t185 = true then (spec_SingMany.l0 k l0 1 0) else (some (-1)))
set_option maxHeartbeats 8000000 in
set_option maxRecDepth 100000 in
theorem spec_SingMany.calls (k : Nat) (A0 : Option Addr) (c0 : Nat) (l0 : List (S29)) (r : Int) (w : World) (hr0 : Kd.C k29 w A0 l0.length l0) (hc0 : l0.length ≤ c0) (h : spec_SingMany.f k l0 = some r) :
 Calls Tryd.prog 7 #[.slice A0 l0.length c0] w fun e w' => e = .returned (.int .i64 r) ∧ Below w.heap.size w w' := by
 have hu29 := Tryd.underlying29; have HR0 := Aside0.mk hr0; have HC0 := Aside0.mk hc0; clear hr0 hc0; have HB := Aside0.mk (Below.refl w.heap.size w); have H : ((spec_MelodyValid.f k l0).bind fun t185 => (if t185 = true then (spec_SingMany.l0 k l0 1 0) else (some (-1)))) = some r := h; clear h; replace H := Option.bind_eq_some_iff.mp H; obtain ⟨t185, A20, H⟩ := H; replace H : (if t185 = true then (spec_SingMany.l0 k l0 1 0) else (some (-1))) = some r := H; have A2 := Aside0.mk A20; clear A20; by_cases c3 : t185 = true
 ·
  subst c3; have H1 : (spec_SingMany.l0 k l0 1 0) = some r := by rw [if_pos rfl] at H; exact H
  clear H; have H := H1; clear H1; have H' := Aside0.mk H; clear H; go_enter Tryd.func7, Tryd.ntmps7
  go_wp2_with (first | ((with_reducible refine gate_callee (f := 21) rfl ?_); refine goesL_ (some 6) rfl rfl Tryd.func21 (by kernel_rfl) rfl #[.slice A0 l0.length c0] rfl (by (try simp only [List.map_toArray, List.map_cons, List.map_nil]); first | done | rfl | (simp only [List.length_drop, List.length_take]; rfl)) ?_; (with_reducible refine (spec_MelodyValid.calls k _ _ l0 true _ ?side1 ?side2 A2.out).mono ?_); (case side1 => repeat (first | exact HR0.out | (with_reducible refine Kd.C_alloc ?_ _) | (with_reducible refine Kd.C_drewN ?_ _) | (with_reducible refine Kd.C_drew ?_))); (case side2 => exact HC0.out); rintro e w4 ⟨rfl, hb⟩; refine ⟨_, rfl, ?_⟩; have n0_ := Aside0.mk (below_step (by repeat (first | (with_reducible first | exact HB.out | apply below_alloc | apply pw_below_drewN | apply below_drew1) | exact HB.out)) hb); clear HB; have HB := n0_; clear n0_; (try clear hb); (try clear hb2); (try clear hk); (try clear hi)))
  go_loopg [3, 4] k (fun kq v3 v4 w' => ∃ (x3_1 : Int) (x4_1 : Int), v3 = .int .i64 x3_1 ∧ v4 = .int .i64 x4_1 ∧ Aside0 (spec_SingMany.l0 kq l0 x3_1 x4_1 = some r) ∧ Aside0 (kq ≤ k) ∧ Aside0 (Below w.heap.size w w'))
  case atStart => exact ⟨(1), (0), (by first | rfl | (simp; done) | (simp [*]; done)), (by first | rfl | (simp; done) | (simp [*]; done)), H', ⟨Nat.le_refl _⟩, ⟨by repeat (first | (with_reducible first | exact HB.out | apply below_alloc | apply pw_below_drewN | apply below_drew1) | exact HB.out)⟩⟩
  case round =>
   clear H'; try clear c2
   try clear p2
   try clear c3
   obtain ⟨x3_1, x4_1, rfl, rfl, HA, HK1, HB⟩ := hrel; cases gk with
   | zero => exact absurd HA.out (by simp [spec_SingMany.l0])
   | succ k1 =>
    have H := HA.out; clear HA; simp only [spec_SingMany.l0] at H; by_cases c5 : x4_1 < (l0.length : Int)
    ·
     rw [if_pos c5] at H; have c5b0 : decide (x4_1 < (l0.length : Int)) = true := decide_eq_true c5; clear c5; by_cases c6 : 0 ≤ x4_1
     ·
      rw [if_pos c6] at H; have c6b0 : decide (0 ≤ x4_1) = true := decide_eq_true c6; clear c6; replace H := Option.bind_eq_some_iff.mp H; obtain ⟨t187, A70, H⟩ := H; replace H : (spec_SingMany.l0 k1 l0 (wrap64 (x3_1 * (t187.length : Int))) (wrap64 (x4_1 + 1))) = some r := H; have A7 := Aside0.mk A70; clear A70; have H' := Aside0.mk H; clear H; have p186 : 0 ≤ (x4_1 : Int) := of_decide_eq_true (by first | (with_reducible assumption) | assumption); have q186 : x4_1 < (l0.length : Int) := of_decide_eq_true (by first | (with_reducible assumption) | assumption); obtain ⟨ad186, e186, hx186_0, hx186_1⟩ := at_T29 HR0.out x4_1 p186 q186; cases e186; replace hx186_0 := (HB.out.cell (World.block_lt_of_cell? w _ hx186_0)).trans hx186_0; replace hx186_1 := (HB.out.cell (World.block_lt_of_cell? w _ hx186_1)).trans hx186_1; replace p186 := eq_true p186; replace q186 := eq_true q186; go_wp2_with (first | ((with_reducible refine gate_callee (f := 22) rfl ?_); refine goesL_ (some 19) rfl rfl Tryd.func22 (by kernel_rfl) rfl #[.agg #[.int .i64 ((rd_T29 l0 x4_1).f0), .bool ((rd_T29 l0 x4_1).f1)]] rfl (by (try simp only [List.map_toArray, List.map_cons, List.map_nil]); first | done | rfl | (simp only [List.length_drop, List.length_take]; rfl)) ?_; (with_reducible refine (spec_HexAll.calls k1 ((rd_T29 l0 x4_1).f0) ((rd_T29 l0 x4_1).f1) t187 _ A7.out).mono ?_); rintro e w8 ⟨v188, rfl, ho0, hb⟩; refine ⟨_, rfl, ?_⟩; have n0_ := Aside0.mk (Kd.R_lower ho0 (below_size (by repeat (first | (with_reducible first | exact HB.out | apply below_alloc | apply pw_below_drewN | apply below_drew1) | exact HB.out)))); have n1_ := Aside0.mk (below_step (by repeat (first | (with_reducible first | exact HB.out | apply below_alloc | apply pw_below_drewN | apply below_drew1) | exact HB.out)) hb); clear HB; have HO189 := n0_; have HB := n1_; clear n0_ n1_; (try clear hb); (try clear hb2); (try clear hk); (try clear hi); (try clear ho0); obtain ⟨Ao9, co9, eo9⟩ := Kd.R_slice HO189.out; subst eo9))
      go_roundg k1
      case measure => have := HK1.out; omega
      case rel => exact ⟨(wrap64 (x3_1 * (t187.length : Int))), (wrap64 (x4_1 + 1)), (by first | rfl | (simp; done) | (simp [*]; done)), (by first | rfl | (simp; done) | (simp [*]; done)), H', ⟨by have := HK1.out; omega⟩, ⟨by repeat (first | (with_reducible first | exact HB.out | apply below_alloc | apply pw_below_drewN | apply below_drew1) | exact HB.out)⟩⟩
     ·
      rw [if_neg c6] at H; exact absurd H (by simp)
    ·
     rw [if_neg c5] at H; have c5b0 : decide (x4_1 < (l0.length : Int)) = false := decide_eq_false c5; clear c5; obtain rfl := Option.some.inj H; go_wp2; go_ret
     exact ⟨by first | rfl | (simp [errW_none, errW_some] <;> rfl) | (simp [*, errW_none, errW_some] <;> rfl), by repeat (first | (with_reducible first | exact HB.out | apply below_alloc | apply pw_below_drewN | apply below_drew1) | exact HB.out)⟩
 ·
  replace c3 := Bool.eq_false_iff.mpr c3; subst c3; have H1 : (some (-1)) = some r := by rw [if_neg (show ¬ (false = true) by decide)] at H; exact H
  clear H; have H := H1; clear H1; obtain rfl := Option.some.inj H; go_enter Tryd.func7, Tryd.ntmps7
  go_wp2_with (first | ((with_reducible refine gate_callee (f := 21) rfl ?_); refine goesL_ (some 6) rfl rfl Tryd.func21 (by kernel_rfl) rfl #[.slice A0 l0.length c0] rfl (by (try simp only [List.map_toArray, List.map_cons, List.map_nil]); first | done | rfl | (simp only [List.length_drop, List.length_take]; rfl)) ?_; (with_reducible refine (spec_MelodyValid.calls k _ _ l0 false _ ?side1 ?side2 A2.out).mono ?_); (case side1 => repeat (first | exact HR0.out | (with_reducible refine Kd.C_alloc ?_ _) | (with_reducible refine Kd.C_drewN ?_ _) | (with_reducible refine Kd.C_drew ?_))); (case side2 => exact HC0.out); rintro e w10 ⟨rfl, hb⟩; refine ⟨_, rfl, ?_⟩; have n0_ := Aside0.mk (below_step (by repeat (first | (with_reducible first | exact HB.out | apply below_alloc | apply pw_below_drewN | apply below_drew1) | exact HB.out)) hb); clear HB; have HB := n0_; clear n0_; (try clear hb); (try clear hb2); (try clear hk); (try clear hi)))
  go_ret
  exact ⟨by first | rfl | (simp [errW_none, errW_some] <;> rfl) | (simp [*, errW_none, errW_some] <;> rfl), by repeat (first | (with_reducible first | exact HB.out | apply below_alloc | apply pw_below_drewN | apply below_drew1) | exact HB.out)⟩

end Go.Proofs.YtiagfjbngpbejaaDoor.PFnSingMany
namespace Go.Proofs.YtiagfjbngpbejaaDoor.Pure
set_option linter.unusedVariables false
set_option linter.unusedSimpArgs false
open Go Go.RowKit Go.Proofs.YtiagfjbngpbejaaDoor.PFnSingMany Go.Proofs.YtiagfjbngpbejaaDoorW.PrintWords Go.Proofs.YtiagfjbngpbejaaDoorW.PrintLast Go.Proofs.YtiagfjbngpbejaaDoorW.PrintMore

section
variable {α : Type} {d : Kd α} {e : Nat} {W W' w0 : World} {B a b n c : Nat} {v : Value} {A : Option Addr} {xs ys : List α} {S : Nat → Prop}
end
section
variable {α : Type} {d : Kd α} {e : Nat} {W W' w0 : World} {B a b n c : Nat} {v : Value} {A : Option Addr} {xs ys : List α} {S : Nat → Prop}
end

end Go.Proofs.YtiagfjbngpbejaaDoor.Pure
namespace Go.Proofs.YtiagfjbngpbejaaDoor.Pure
set_option linter.unusedVariables false
set_option linter.unusedSimpArgs false
open Go Go.RowKit Go.Proofs.YtiagfjbngpbejaaDoor.PFnSingMany Go.Proofs.YtiagfjbngpbejaaDoorW.PrintWords Go.Proofs.YtiagfjbngpbejaaDoorW.PrintLast Go.Proofs.YtiagfjbngpbejaaDoorW.PrintMore

def kpl : Kd (Int × Int) := Kd.pair (Kd.int .i64) (Kd.int .i64)
theorem info_pl : (Tryd.prog.info? 57).map (fun i => (i.zero, i.size, i.bytes)) = some (some (.agg #[.int .i64 0, .int .i64 0]), 2, 16) := by kernel_rfl
theorem kpl_M {w : World} {base : Nat} {ok : Nat → Prop} (a b : Int) : kpl.M w base ok (a, b) [.int .i64 a, .int .i64 b] := ⟨[.int .i64 a], [.int .i64 b], rfl, rfl, rfl⟩
theorem kpl_open {w : World} {base : Nat} {ok : Nat → Prop} {x : Int × Int} {c : List Value} (h : kpl.M w base ok x c) : c = [.int .i64 x.1, .int .i64 x.2] := by
 obtain ⟨c0, c1, rfl, h0, h1⟩ := h
 have e0 : c0 = [.int .i64 x.1] := h0
 have e1 : c1 = [.int .i64 x.2] := h1
 rw [e0, e1]
 rfl
/-- The queue at gq holds xs. -/
def QHas (W : World) (B gq : Nat) (vq : Value) (xs : List (Int × Int)) : Prop := B ≤ gq ∧ W.heap[gq]? = some (.cells #[vq] 77 (0, 0)) ∧ kpl.Q 57 W B (fun _ => True) vq xs
/-- The queue's two blocks. -/
def QBl (gq : Nat) (vq : Value) (k : Nat) : Prop := k = gq ∨ vq.ownBlock = some k
theorem QHas.below {W W' : World} {B gq : Nat} {vq : Value} {xs : List (Int × Int)} (h : QHas W B gq vq xs) (hb : Below W.heap.size W W') : QHas W' B gq vq xs := ⟨h.1, blk_below h.2.1 hb, Kd.Q_below h.2.2 hb⟩
theorem QHas.kept {W W' : World} {B gq : Nat} {vq : Value} {xs : List (Int × Int)} {S : Nat → Prop} (h : QHas W B gq vq xs) (hk : Kept W W' S) (hS : ∀ k, QBl gq vq k → ¬ S k) : QHas W' B gq vq xs :=
 ⟨h.1, blk_kept h.2.1 hk (hS _ (.inl rfl)), Kd.Q_mono (Kd.Q_kept (Kd.Q_tight rfl h.2.2) hk (fun k hk => hS k (.inr hk.symm))) (fun _ _ => trivial)⟩
theorem QHas.ty {W : World} {B gq : Nat} {vq : Value} {xs : List (Int × Int)} (h : QHas W B gq vq xs) (k : Nat) (hk : QBl gq vq k) : B ≤ k ∧ ∃ cells e, W.heap[k]? = some (.cells cells e (0, 0)) ∧ (e = 77 ∨ e = 57) := by
 rcases hk with rfl | hk
 ·
  exact ⟨h.1, _, _, h.2.1, .inl rfl⟩
 ·
  obtain ⟨cells, hc⟩ := Kd.Q_typed h.2.2 k hk
  exact ⟨Kd.Q_base h.2.2 k hk, _, _, hc, .inr rfl⟩
set_option maxHeartbeats 4000000 in
set_option maxRecDepth 100000 in
theorem queue_push_calls (a b : Int) (gq : Nat) (vq : Value) (B : Nat) (xs : List (Int × Int)) (w : World) (hq : QHas w B gq vq xs) (hn : xs.length ≤ 100000) :
 Calls Tryd.prog 36 #[.pointer (some ⟨gq, 0, none⟩), .agg #[.int .i64 a, .int .i64 b]] w fun e w' => e = .returned (.tuple #[]) ∧ ∃ vq', QHas w' B gq vq' (xs ++ [(a, b)]) ∧ Below B w w' ∧ Kept w w' (QBl gq vq) ∧ (vq'.ownBlock = vq.ownBlock ∨ ∃ k, vq'.ownBlock = some k ∧ w.heap.size ≤ k) := by
 have GE := Aside0.mk hq.1
 have HG := Aside0.mk hq.2.1
 have HQ := Aside0.mk hq.2.2
 have hle := blk_lt hq.2.1
 have BL : Aside0 (B ≤ w.heap.size) := ⟨by have := hq.1; omega⟩
 have HN := Aside0.mk hn
 clear hq hle hn
 go_enter Tryd.func36, Tryd.ntmps36
 go_upto_region 1 with (first
  | ((with_reducible refine gate_dst (N := 3) rfl ?_); refine box_event ?hg (N := 3) ?hd (cs := #[.int .i64 a, .int .i64 b]) (t := 57) ?hr ?_; (case hd => rfl); (case hg => rfl); (case hr => first | (go_simp; done) | (go_simp; rfl)); intro g3 hg w1 hbox hb; have HB1 := Aside0.mk hb; have BK1 := Aside0.mk hbox; have HG1 := Aside0.mk (blk_below HG.out hb); have HQ1 := Aside0.mk (Kd.Q_below HQ.out hb); have BL1 : Aside0 (B ≤ w1.heap.size) := ⟨Nat.le_trans BL.out hb.size⟩; clear hb hbox hg)
  | fail)
 (try simp only [Act.put, List.setIfInBounds_toArray, List.set_cons_zero, List.set_cons_succ])
 refine start_ (n := 11) (S := (fun w' => w'.cell? ⟨gq, 0, none⟩ = some vq ∧ w'.cell? ⟨g3, 0, none⟩ = some (.int .i64 a) ∧ w'.cell? ⟨g3, 1, none⟩ = some (.int .i64 b))) (ds := [7, 10]) (rowB 11 0) (by kernel_rfl) rfl rfl ⟨blk_cell (blk_drew HG1.out) 0, (blk_cell (blk_drew BK1.out) 0).trans rfl, (blk_cell (blk_drew BK1.out) 1).trans rfl⟩ (fun hHeld => ?_)
 refine pure_ (i := 0) (N := some 4) (v := ?_) (a' := ?_) (rowB 11 1) rfl rfl (by kernel_rfl) (fun _ _ _ h => h) (Or.inl ⟨by rfl, ?_⟩) ?_ ?_
 rotate_left
 ·
  intro w'
  go_simp
  with_reducible rfl
 rotate_left
 ·
  simp only [Act.put, List.setIfInBounds_toArray, List.set_cons_zero, List.set_cons_succ, i64_w, i32_w]
  rfl
 refine pure_ (i := 1) (N := some 5) (v := ?_) (a' := ?_) (rowB 11 3) rfl rfl (by kernel_rfl) (fun _ _ _ h => h) (Or.inl ⟨by rfl, ?_⟩) ?_ ?_
 rotate_left
 ·
  intro w'
  go_simp
  with_reducible rfl
 rotate_left
 ·
  simp only [Act.put, List.setIfInBounds_toArray, List.set_cons_zero, List.set_cons_succ, i64_w, i32_w]
  rfl
 refine pure_ (i := 2) (N := some 6) (v := ?_) (a' := ?_) (rowB 11 7) rfl rfl (by kernel_rfl) (fun _ _ _ h => h) (Or.inl ⟨by rfl, ?_⟩) ?_ ?_
 rotate_left
 ·
  intro w'
  go_simp
  with_reducible rfl
 rotate_left
 ·
  simp only [Act.put, List.setIfInBounds_toArray, List.set_cons_zero, List.set_cons_succ, i64_w, i32_w]
  rfl
 refine pure_ (i := 3) (N := some 7) (v := ?_) (a' := ?_) (rowB 11 15) rfl rfl (by kernel_rfl) (fun _ _ _ h => h) (Or.inl ⟨by rfl, ?_⟩) ?_ ?_
 rotate_left
 ·
  intro w'
  go_simp
  with_reducible rfl
 rotate_left
 ·
  simp only [Act.put, List.setIfInBounds_toArray, List.set_cons_zero, List.set_cons_succ, i64_w, i32_w]
  rfl
 refine take_ (i := 4) (N := some 8) (v := ?_) (a' := ?_) (rowB 11 31) rfl rfl (by kernel_rfl) (fun _ _ _ h => h) (Or.inl ⟨by rfl, ?_⟩) hHeld ?_ ?_
 rotate_left
 ·
  rintro w' ⟨s0, s1, s2⟩
  go_simp
  with_reducible rfl
 rotate_left
 ·
  simp only [Act.put, List.setIfInBounds_toArray, List.set_cons_zero, List.set_cons_succ, i64_w, i32_w]
  rfl
 refine take_ (i := 5) (N := some 9) (v := ?_) (a' := ?_) (rowB 11 63) rfl rfl (by kernel_rfl) (fun _ _ _ h => h) (Or.inl ⟨by rfl, ?_⟩) hHeld ?_ ?_
 rotate_left
 ·
  rintro w' ⟨s0, s1, s2⟩
  go_simp
  with_reducible rfl
 rotate_left
 ·
  simp only [Act.put, List.setIfInBounds_toArray, List.set_cons_zero, List.set_cons_succ, i64_w, i32_w]
  rfl
 refine one_ (i := 6) (N := some 10) (rowB 11 127) rfl rfl (by kernel_rfl) (by decide) (fun K hK => ?_)
 refine event_step (w1 := ?_) (v := ?_) (by rfl) ?_ ?_
 rotate_left 2
 ·
  go_simp
  constructor
  ·
   rfl
  ·
   rfl
 refine hK.out _ _ (by have hb := below_alloc (Below.refl w1.drew.heap.size w1.drew) (.cells (#[.int .i64 a, .int .i64 b]) 57 (0, 0)); exact ⟨blk_cell (blk_below (blk_drew HG1.out) hb) 0, (blk_cell (blk_below (blk_drew BK1.out) hb) 0).trans rfl, (blk_cell (blk_below (blk_drew BK1.out) hb) 1).trans rfl⟩) (fun hHeld => ?_)
 clear hK K
 refine norm_ (a' := ?_) ?_ ?_
 rotate_left
 ·
  show Act.put _ (some 10) _ = _
  simp only [Act.put, List.setIfInBounds_toArray, List.set_cons_zero, List.set_cons_succ, i64_w, i32_w]
  rfl
 refine last_ (i := 7) (N := some 11) (rowB 11 255) rfl rfl (by kernel_rfl) (by decide) (fun K hK => ?_)
 refine Kd.Q_append_step kpl (w0 := w) (W := w1.drew) B (by rfl) (.tmp 8) (.tmp 10) 75 57 (.agg #[.int .i64 0, .int .i64 0]) 16 rfl Tryd.underlying75 info_pl rfl (by decide) (by omega) vq xs (a, b) [.int .i64 a, .int .i64 b] (fun _ => True) (fun _ => False) rfl rfl (kpl_M a b) (fun _ h => h.elim) (fun _ _ => trivial) ?aO ?aB ?aS ?aL ?_
 (case aO => exact Kd.Q_drew HQ1.out)
 (case aB => exact below_drew (HB1.out.mono BL.out))
 (case aS => exact BL1.out)
 (case aL => have := HN.out; omega)
 intro v11 w8 ho hb hg hat
 have HO8 := Aside0.mk ho
 have HB8 := Aside0.mk hb
 have HG8 := Aside0.mk (blk_grown (blk_drew HG1.out) hg (Kd.Q_ne HQ1.out HG1.out (by decide)))
 have HK8 := Aside0.mk (Kept.of_grown hg (Kept.drew (Kept.of_below HB1.out (QBl gq vq))) (fun k hk => .inl (.inr hk)))
 have HAT := Aside0.mk hat
 clear ho hb hg hat
 refine hK.out _ _ ?_
 clear hK K
 refine norm_ (a' := ?_) ?_ ?_
 rotate_left
 ·
  show Act.put _ (some 11) _ = _
  simp only [Act.put, List.setIfInBounds_toArray, List.set_cons_zero, List.set_cons_succ, i64_w, i32_w]
  rfl
 refine pure_ (i := 8) (N := some 12) (v := ?_) (a' := ?_) (rowB 11 511) rfl rfl (by kernel_rfl) (fun _ _ _ h => h) (Or.inl ⟨by rfl, ?_⟩) ?_ ?_
 rotate_left
 ·
  intro w'
  go_simp
  with_reducible rfl
 rotate_left
 ·
  simp only [Act.put, List.setIfInBounds_toArray, List.set_cons_zero, List.set_cons_succ, i64_w, i32_w]
  rfl
 refine pure_ (i := 9) (N := some 13) (v := ?_) (a' := ?_) (rowB 11 1023) rfl rfl (by kernel_rfl) (fun _ _ _ h => h) (Or.inl ⟨by rfl, ?_⟩) ?_ ?_
 rotate_left
 ·
  intro w'
  go_simp
  with_reducible rfl
 rotate_left
 ·
  simp only [Act.put, List.setIfInBounds_toArray, List.set_cons_zero, List.set_cons_succ, i64_w, i32_w]
  rfl
 refine last_ (i := 10) (N := none) (rowB 11 2047) rfl rfl (by kernel_rfl) (by decide) (fun K hK => ?_)
 refine box_store_step (by rfl) rfl 75 (.tmp 13) (.tmp 11) rfl (g := gq) (off := 0) (new := #[v11]) v11 [v11] HG8.out rfl rfl (by obtain ⟨_, _, rfl, _⟩ := Kd.Q_slice HO8.out; rfl) (by kernel_rfl) (by obtain ⟨_, _, rfl, _⟩ := Kd.Q_slice HO8.out; simp [Value.oneCell']) (Nat.le_of_ble_eq_true rfl) rfl ?_
 intro w9 hh9 hg9 hz9
 have HG9 := Aside0.mk hh9
 have HB9 := Aside0.mk (below_grown HB8.out hg9 GE.out (Nat.le_trans BL.out HB8.out.size))
 have HO9 := Aside0.mk (Kd.Q_grown1 HO8.out rfl hg9 (Kd.Q_ne HO8.out HG8.out (by decide)))
 have HK9 := Aside0.mk (Kept.of_grown hg9 HK8.out (fun k hk => .inl (.inl (Option.some.inj hk).symm)))
 clear hh9 hg9 hz9
 refine hK.out _ _ ?_
 clear hK K
 refine done_ (by kernel_rfl) ?_
 go_end0
 exact ⟨rfl, v11, ⟨GE.out, HG9.out, HO9.out⟩, HB9.out, HK9.out, HAT.out.imp id (fun ⟨k, h1, h2⟩ => ⟨k, h1, Nat.le_trans HB1.out.size h2⟩)⟩

end Go.Proofs.YtiagfjbngpbejaaDoor.Pure
namespace Go.Proofs.YtiagfjbngpbejaaDoor.Pure
set_option linter.unusedVariables false
set_option linter.unusedSimpArgs false
open Go Go.RowKit Go.Proofs.YtiagfjbngpbejaaDoor.PFnSingMany Go.Proofs.YtiagfjbngpbejaaDoorW.PrintWords Go.Proofs.YtiagfjbngpbejaaDoorW.PrintLast Go.Proofs.YtiagfjbngpbejaaDoorW.PrintMore

set_option maxHeartbeats 4000000 in
set_option maxRecDepth 100000 in
theorem queue_pop_nil (gq : Nat) (vq : Value) (B : Nat) (w : World) (hq : QHas w B gq vq []) :
 Calls Tryd.prog 37 #[.pointer (some ⟨gq, 0, none⟩)] w fun e w' => e = .returned (.tuple #[.agg #[.int .i64 0, .int .i64 0], .bool false]) ∧ Below w.heap.size w w' := by
 have HG := Aside0.mk hq.2.1
 obtain ⟨A, c, hv, hc⟩ := Kd.Q_slice hq.2.2
 subst hv
 clear hq hc
 go_enter Tryd.func37, Tryd.ntmps37
 go_wp2_with (first
  | ((with_reducible refine gate_dst (N := 2) rfl ?_); refine box_event ?hg (N := 2) ?hd (cs := #[.int .i64 0, .int .i64 0]) (t := 57) ?hr ?_; (case hd => rfl); (case hg => rfl); (case hr => first | (go_simp; done) | (go_simp; rfl)); intro g2 hg w1 hbox hb; have HB1 := Aside0.mk hb; have K2 := Aside0.mk hbox; have HG1 := Aside0.mk (blk_below HG.out hb); have hlt2 := blk_lt hbox; have G2 : Aside0 (w.heap.size ≤ g2) := ⟨Nat.le_of_eq hg.symm⟩; clear hb hbox hg)
  | ((with_reducible refine gate_dst (N := 4) rfl ?_); refine box_event ?hg (N := 4) ?hd (cs := #[.int .i64 0, .int .i64 0]) (t := 57) ?hr ?_; (case hd => rfl); (case hg => rfl); (case hr => first | (go_simp; done) | (go_simp; rfl)); intro g4 hg w2 hbox hb; have HB2 := Aside0.mk (below_step HB1.out hb); have K4 := Aside0.mk hbox; have K2 := Aside0.mk (blk_below K2.out hb); have HG2 := Aside0.mk (blk_below HG1.out hb); have G4 : Aside0 (w.heap.size ≤ g4) := ⟨by rw [hg]; exact HB1.out.size⟩; have NE : Aside0 (g4 ≠ g2) := ⟨by have h2 := hlt2; rw [hg]; omega⟩; have hv0 : w2.cell? ⟨gq, 0, none⟩ = some (.slice A ([] : List (Int × Int)).length c) := (blk_cell HG2.out 0).trans rfl; have z40 : w2.cell? ⟨g4, 0, none⟩ = some (.int .i64 0) := (blk_cell K4.out 0).trans rfl; have z41 : w2.cell? ⟨g4, 1, none⟩ = some (.int .i64 0) := (blk_cell K4.out 1).trans rfl; clear hb hbox hg)
  | ((with_reducible refine gate_ (.store 57 (.tmp 2) (.tmp 11)) rfl ?_); (refine box_store rfl rfl 57 (.tmp 2) (.tmp 11) rfl (g := g2) (off := 0) (new := #[.int .i64 0, .int .i64 0]) _ [.int .i64 0, .int .i64 0] K2.out rfl rfl rfl (by kernel_rfl) (by simp [Value.oneCell']) (Nat.le_of_ble_eq_true rfl) rfl ?_); intro w3 hh hg hz; have HB3 := Aside0.mk (below_grown HB2.out hg G2.out HB2.out.size); have K23 := Aside0.mk hh; clear hh hg hz))
 refine bodyPost_ret (results_ct rfl _ _ g2 57 #[.int .i64 0, .int .i64 0] (0, 0) _ rfl K23.out Tryd.underlying57 rfl (by kernel_rfl)) rfl ?_
 exact ⟨rfl, HB3.out⟩
set_option maxHeartbeats 4000000 in
set_option maxRecDepth 100000 in
theorem queue_pop_cons (a b : Int) (gq : Nat) (vq : Value) (B : Nat) (xs : List (Int × Int)) (w : World) (hq : QHas w B gq vq ((a, b) :: xs)) :
 Calls Tryd.prog 37 #[.pointer (some ⟨gq, 0, none⟩)] w fun e w' => e = .returned (.tuple #[.agg #[.int .i64 a, .int .i64 b], .bool true]) ∧ ∃ vq', QHas w' B gq vq' xs ∧ Below B w w' ∧ Kept w w' (fun k => k = gq) ∧ vq'.ownBlock = vq.ownBlock := by
 have GE := Aside0.mk hq.1
 have HG := Aside0.mk hq.2.1
 have HQ := Aside0.mk hq.2.2
 obtain ⟨g, off, cap, hv, hBg, hgl, cellsq, hgb⟩ := Kd.Q_form HQ.out (Nat.succ_pos _)
 subst hv
 obtain ⟨c, hcl, hcM, hcc, -⟩ := Kd.Q_elem HQ.out (0, 0) 0 (Int.le_refl _) (by simp only [List.length_cons]; omega)
 have hc : c = [.int .i64 a, .int .i64 b] := kpl_open hcM
 subst hc
 have e0 : w.cell? ⟨g, off, none⟩ = some (.int .i64 a) := hcc 0 _ rfl
 have e1 : w.cell? ⟨g, off + 1, none⟩ = some (.int .i64 b) := hcc 1 _ rfl
 have E0 := Aside0.mk e0
 have E1 := Aside0.mk e1
 have GB := Aside0.mk hgb
 obtain ⟨i0, hi0, hz0⟩ := Option.map_eq_some_iff.1 info_pl
 have hs0 : i0.size = kpl.sz := by simp only [Prod.mk.injEq] at hz0; exact hz0.2.1
 have hcut := cut_from (P := Tryd.prog) 75 57 .i64 Tryd.underlying75 hi0 kpl.sz hs0 (some ⟨g, off, none⟩) ((a, b) :: xs).length cap 1 (by decide) (by simp only [List.length_cons]; omega)
 have hdrop := Kd.Q_drop (k := 1) HQ.out (by simp only [List.length_cons]; omega)
 obtain ⟨vn, hvn⟩ : ∃ vn : Value, vn = .slice (if cap = 1 then some ⟨g, off, none⟩ else (some (⟨g, off, none⟩ : Addr)).map (·.add (1 * kpl.sz))) (((a, b) :: xs).length - 1) (cap - 1) := ⟨_, rfl⟩
 have hcut2 : ∀ W : World, (Instr.slice 75 (.slice (some ⟨g, off, none⟩) ((a, b) :: xs).length cap) (some (.int .i64 1)) none none).run Tryd.prog W = .ok vn W := by rw [hvn]; exact hcut
 rw [← hvn] at hdrop
 have HD := Aside0.mk (show kpl.Q 57 w B (fun _ => True) vn xs from hdrop)
 have HOB : Aside0 (vn.ownBlock = some g) := ⟨by rw [hvn]; split <;> rfl⟩
 have BL : Aside0 (B ≤ w.heap.size) := ⟨by have := GE.out; have := blk_lt HG.out; omega⟩
 have hlen : ((a, b) :: xs).length = xs.length + 1 := rfl
 rw [hlen] at hcut2 HQ HG
 have HCUT := Aside0.mk hcut2
 have d1 : decide (((xs.length + 1 : Nat) : Int) = 0) = false := decide_eq_false (by omega)
 have d2 : (((xs.length + 1 : Nat) : Int) == 0) = false := beq_eq_false_iff_ne.mpr (by omega)
 have q0 := eq_true (show (0 : Int) < ((xs.length + 1 : Nat) : Int) by omega)
 clear hq hBg hgl hgb hcl hcM hcc hi0 hz0 hs0 hcut hdrop hvn hlen hcut2
 go_enter Tryd.func37, Tryd.ntmps37
 go_wp2_with (first
  | ((with_reducible refine gate_dst (N := 2) rfl ?_); refine box_event ?hg (N := 2) ?hd (cs := #[.int .i64 0, .int .i64 0]) (t := 57) ?hr ?_; (case hd => rfl); (case hg => rfl); (case hr => first | (go_simp; done) | (go_simp; rfl)); intro g2 hg w1 hbox hb; have HB1 := Aside0.mk hb; have K2 := Aside0.mk hbox; have HG1 := Aside0.mk (blk_below HG.out hb); have hlt2 := blk_lt hbox; have G2 : Aside0 (w.heap.size ≤ g2) := ⟨Nat.le_of_eq hg.symm⟩; clear hb hbox hg)
  | ((with_reducible refine gate_dst (N := 4) rfl ?_); refine box_event ?hg (N := 4) ?hd (cs := #[.int .i64 0, .int .i64 0]) (t := 57) ?hr ?_; (case hd => rfl); (case hg => rfl); (case hr => first | (go_simp; done) | (go_simp; rfl)); intro g4 hg w2 hbox hb; have HB2 := Aside0.mk (below_step HB1.out hb); have K4 := Aside0.mk hbox; have K2 := Aside0.mk (blk_below K2.out hb); have HG2 := Aside0.mk (blk_below HG1.out hb); have G4 : Aside0 (w.heap.size ≤ g4) := ⟨by rw [hg]; exact HB1.out.size⟩; have NE : Aside0 (g4 ≠ g2) := ⟨by have h2 := hlt2; rw [hg]; omega⟩; have hv0 : w2.cell? ⟨gq, 0, none⟩ = some (.slice (some ⟨g, off, none⟩) (xs.length + 1) cap) := (blk_cell HG2.out 0).trans rfl; have z40 : w2.cell? ⟨g4, 0, none⟩ = some (.int .i64 0) := (blk_cell K4.out 0).trans rfl; have z41 : w2.cell? ⟨g4, 1, none⟩ = some (.int .i64 0) := (blk_cell K4.out 1).trans rfl; have hcut2 := HCUT.out; have e0 : w2.cell? ⟨g, off, none⟩ = some (.int .i64 a) := pw_cell_below (HB2.out) E0.out; have e1 : w2.cell? ⟨g, off + 1, none⟩ = some (.int .i64 b) := pw_cell_below (HB2.out) E1.out; clear hb hbox hg)
  | ((with_reducible refine gate_ (.store 57 (.tmp 4) (.tmp 17)) rfl ?_); (refine box_store rfl rfl 57 (.tmp 4) (.tmp 17) rfl (g := g4) (off := 0) (new := #[.int .i64 a, .int .i64 b]) _ [.int .i64 a, .int .i64 b] K4.out rfl rfl rfl (by kernel_rfl) (by simp [Value.oneCell']) (Nat.le_of_ble_eq_true rfl) rfl ?_); intro w3 hh hg hz; have HB3 := Aside0.mk (below_grown HB2.out hg G4.out HB2.out.size); have K43 := Aside0.mk hh; have K23 := Aside0.mk (blk_grown K2.out hg (fun h => NE.out (Option.some.inj h).symm)); have HG3 := Aside0.mk (blk_below HG.out HB3.out); have hv0 : w3.cell? ⟨gq, 0, none⟩ = some (.slice (some ⟨g, off, none⟩) (xs.length + 1) cap) := (blk_cell HG3.out 0).trans rfl; clear hh hg hz)
  | ((with_reducible refine gate_ (.store 75 (.tmp 25) (.tmp 23)) rfl ?_); (refine box_store rfl rfl 75 (.tmp 25) (.tmp 23) rfl (g := gq) (off := 0) (new := #[vn]) _ [vn] HG3.out rfl rfl (by obtain ⟨_, _, hh, _⟩ := Kd.Q_slice HD.out; rw [hh]; rfl) (by kernel_rfl) (by obtain ⟨_, _, hh, _⟩ := Kd.Q_slice HD.out; rw [hh]; simp [Value.oneCell']) (Nat.le_of_ble_eq_true rfl) rfl ?_); intro w4 hh hg hz; have HB4 := Aside0.mk (below_grown (HB3.out.mono BL.out) hg GE.out (Nat.le_trans BL.out HB3.out.size)); have hltq := blk_lt HG.out; have K44 := Aside0.mk (blk_grown K43.out hg (fun h => by have h2 := Option.some.inj h; have := G4.out; omega)); have K24 := Aside0.mk (blk_grown K23.out hg (fun h => by have h2 := Option.some.inj h; have := G2.out; omega)); have HD3 := Aside0.mk (Kd.Q_grown1 (Kd.Q_below HD.out HB3.out) rfl hg (by rw [HOB.out]; intro h; have h2 := Option.some.inj h; have h3 := GB.out; rw [← h2, HG.out] at h3; injection h3 with h3; injection h3 with _ h3; revert h3; decide)); have HG4 := Aside0.mk hh; have HK4 := Aside0.mk (Kept.of_grown hg (Kept.of_below HB3.out (fun k => k = gq)) (fun k hk => .inl (Option.some.inj hk).symm)); have f40 : w4.cell? ⟨g4, 0, none⟩ = some (.int .i64 a) := (blk_cell K44.out 0).trans rfl; have f41 : w4.cell? ⟨g4, 1, none⟩ = some (.int .i64 b) := (blk_cell K44.out 1).trans rfl; have hz4 := Aside0.mk hz; clear hltq; clear hh hg hz)
  | ((with_reducible refine gate_ (.store 57 (.tmp 2) (.tmp 26)) rfl ?_); (refine box_store rfl rfl 57 (.tmp 2) (.tmp 26) rfl (g := g2) (off := 0) (new := #[.int .i64 a, .int .i64 b]) _ [.int .i64 a, .int .i64 b] K24.out rfl rfl rfl (by kernel_rfl) (by simp [Value.oneCell']) (Nat.le_of_ble_eq_true rfl) rfl ?_); intro w5 hh hg hz; have HB5 := Aside0.mk (below_grown HB4.out hg (Nat.le_trans BL.out G2.out) (Nat.le_trans BL.out (Nat.le_trans HB3.out.size (by rw [hz4.out]; exact Nat.le_refl _)))); have K25 := Aside0.mk hh; have HK5 := Aside0.mk (Kept.of_grown hg HK4.out (fun k hk => .inr (by have := G2.out; have := Option.some.inj hk; omega))); have HG5 := Aside0.mk (blk_grown HG4.out hg (fun h => by have h2 := Option.some.inj h; have h3 := G2.out; have h4 := blk_lt HG.out; omega)); have HD5 := Aside0.mk (Kd.Q_grown1 HD3.out rfl hg (by rw [HOB.out]; intro h; have h2 := Option.some.inj h; have h3 := G2.out; have h4 := blk_lt GB.out; omega)); clear hh hg hz))
 refine bodyPost_ret (results_ct rfl _ _ g2 57 #[.int .i64 a, .int .i64 b] (0, 0) _ rfl K25.out Tryd.underlying57 rfl (by kernel_rfl)) rfl ?_
 exact ⟨rfl, vn, ⟨GE.out, HG5.out, HD5.out⟩, HB5.out, HK5.out, HOB.out⟩

end Go.Proofs.YtiagfjbngpbejaaDoor.Pure
namespace Go.Proofs.YtiagfjbngpbejaaDoor.Pure
set_option linter.unusedVariables false
set_option linter.unusedSimpArgs false
open Go Go.RowKit Go.Proofs.YtiagfjbngpbejaaDoor.PFnSingMany Go.Proofs.YtiagfjbngpbejaaDoorW.PrintWords Go.Proofs.YtiagfjbngpbejaaDoorW.PrintLast Go.Proofs.YtiagfjbngpbejaaDoorW.PrintMore

/-- One row of both tables: where it lies, and what it holds. -/
structure SRow where
 hb : Nat
 hc : Nat
 cb : Nat
 cc : Nat
 hx : List Int
 cs : List Int
def SRow.hv (r : SRow) : Value := .slice (some ⟨r.hb, 0, none⟩) r.hx.length r.hc
def SRow.cv (r : SRow) : Value := .slice (some ⟨r.cb, 0, none⟩) r.cs.length r.cc
structure Sg where
 gs : Nat
 bH : Nat
 cH : Nat
 bC : Nat
 cC : Nat
def RowAt (W : World) (B b : Nat) (v : Value) (xs : List Int) : Prop := (Kd.int .i64).R 3 W B (fun k => k = b) v xs
structure SHas (W : World) (B : Nat) (σ : Sg) (rs : List SRow) : Prop where
 base : B ≤ σ.gs
 top : W.heap[σ.gs]? = some (.cells #[.slice (some ⟨σ.bH, 0, none⟩) rs.length σ.cH, .slice (some ⟨σ.bC, 0, none⟩) rs.length σ.cC] 60 (0, 0))
 outer : ∃ cellsH cellsC : Array Value, W.heap[σ.bH]? = some (.cells cellsH 26 (0, 0)) ∧ W.heap[σ.bC]? = some (.cells cellsC 26 (0, 0)) ∧ ∀ (i : Nat) (r : SRow), rs[i]? = some r → cellsH[i]? = some r.hv ∧ cellsC[i]? = some r.cv
 rows : ∀ (i : Nat) (r : SRow), rs[i]? = some r → r.cs.length = r.hx.length ∧ 0 < r.hx.length ∧ RowAt W B r.hb r.hv r.hx ∧ RowAt W B r.cb r.cv r.cs
 apart : ∀ (i j : Nat) (r r' : SRow), rs[i]? = some r → rs[j]? = some r' → r.hb ≠ r'.cb ∧ (r.cb = r'.cb → i = j)
theorem RowAt.blk {W : World} {B b c : Nat} {xs : List Int} (h : RowAt W B b (.slice (some ⟨b, 0, none⟩) xs.length c) xs) (hp : 0 < xs.length) : B ≤ b ∧ ∃ cells : Array Value, W.heap[b]? = some (.cells cells 3 (0, 0)) := by
 obtain ⟨g, cap, e, hB, _, cells, hc⟩ := Kd.R_form h hp
 injection e with e1
 injection e1 with e1
 injection e1 with e1
 subst e1
 exact ⟨hB, cells, hc⟩
theorem RowAt.cell {W : World} {B b n c : Nat} {xs : List Int} (h : RowAt W B b (.slice (some ⟨b, 0, none⟩) n c) xs) (i : Nat) (hi : i < n) : W.cell? ⟨b, i, none⟩ = some (.int .i64 (xs.getD i 0)) := by
 have hn : n = xs.length := (Kd.R_reads' h).1
 have h2 := (Kd.R_celln 0 h (i : Int) (by omega) (by omega)).1
 have e : rdOf 0 xs (i : Int) = xs.getD i 0 := by simp [rdOf]
 rw [e] at h2
 exact h2
theorem RowAt.below {W W' : World} {B b : Nat} {v : Value} {xs : List Int} (h : RowAt W B b v xs) (hb : Below W.heap.size W W') : RowAt W' B b v xs := Kd.R_below h hb
theorem RowAt.grown {W W' : World} {B b : Nat} {v : Value} {xs : List Int} (h : RowAt W B b v xs) {g : Option Nat} (hg : W.grownBy W' g) (hne : some b ≠ g) : RowAt W' B b v xs := Kd.R_grown h hg (fun k hk => by subst hk; exact hne)
theorem RowAt.kept {W W' : World} {B b : Nat} {v : Value} {xs : List Int} {S : Nat → Prop} (h : RowAt W B b v xs) (hk : Kept W W' S) (hne : ¬ S b) : RowAt W' B b v xs := Kd.R_kept h hk (fun k hk2 => by subst hk2; exact hne)
theorem SHas.below {W W' : World} {B : Nat} {σ : Sg} {rs : List SRow} (h : SHas W B σ rs) (hb : Below W.heap.size W W') : SHas W' B σ rs := by
 obtain ⟨cH, cC, h1, h2, h3⟩ := h.outer
 exact ⟨h.base, blk_below h.top hb, ⟨cH, cC, blk_below h1 hb, blk_below h2 hb, h3⟩, fun i r hr => ⟨(h.rows i r hr).1, (h.rows i r hr).2.1, (h.rows i r hr).2.2.1.below hb, (h.rows i r hr).2.2.2.below hb⟩, h.apart⟩
theorem SHas.drewN {W : World} {B : Nat} {σ : Sg} {rs : List SRow} (h : SHas W B σ rs) (n : Nat) : SHas (W.drewN n) B σ rs := h.below (pw_below_drewN (Below.refl _ _) n)
/-- A singing's blocks are of three types: what writes other types' blocks leaves it. -/
theorem SHas.kept {W W' : World} {B : Nat} {σ : Sg} {rs : List SRow} {S : Nat → Prop} (h : SHas W B σ rs) (hk : Kept W W' S) (hS : ∀ k cells e, W.heap[k]? = some (.cells cells e (0, 0)) → S k → e ≠ 60 ∧ e ≠ 26 ∧ e ≠ 3) : SHas W' B σ rs := by
 obtain ⟨cH, cC, h1, h2, h3⟩ := h.outer
 refine ⟨h.base, blk_kept h.top hk (fun hs => (hS _ _ _ h.top hs).1 rfl), ⟨cH, cC, blk_kept h1 hk (fun hs => (hS _ _ _ h1 hs).2.1 rfl), blk_kept h2 hk (fun hs => (hS _ _ _ h2 hs).2.1 rfl), h3⟩, fun i r hr => ?_, h.apart⟩
 obtain ⟨a1, a2, a3, a4⟩ := h.rows i r hr
 obtain ⟨_, c3, b3⟩ := RowAt.blk a3 a2
 obtain ⟨_, c4, b4⟩ := RowAt.blk a4 (by omega)
 exact ⟨a1, a2, a3.kept hk (fun hs => (hS _ _ _ b3 hs).2.2 rfl), a4.kept hk (fun hs => (hS _ _ _ b4 hs).2.2 rfl)⟩
theorem SHas.keptQ {W W' : World} {B gq : Nat} {vq : Value} {xs : List (Int × Int)} {σ : Sg} {rs : List SRow} (h : SHas W B σ rs) (hq : QHas W B gq vq xs) (hk : Kept W W' (QBl gq vq)) : SHas W' B σ rs := by
 refine h.kept hk (fun k cells e hc hs => ?_)
 obtain ⟨_, cells', e', hc', he⟩ := hq.ty k hs
 rw [hc] at hc'
 injection hc' with hc'
 injection hc' with _ hc'
 subst hc'
 rcases he with rfl | rfl <;> exact ⟨by decide, by decide, by decide⟩
theorem set_row {rs : List SRow} {t i : Nat} {r x : SRow} (h : (rs.set t r)[i]? = some x) : (i = t ∧ x = r) ∨ (i ≠ t ∧ rs[i]? = some x) := by
 rw [List.getElem?_set] at h
 split at h
 ·
  rename_i e
  split at h
  ·
   injection h with h
   exact .inl ⟨e.symm, h.symm⟩
  ·
   cases h
 ·
  rename_i e
  exact .inr ⟨fun e2 => e e2.symm, h⟩
/-- A number of a cost row is written. -/
theorem SHas.put {W W' : World} {B : Nat} {σ : Sg} {rs : List SRow} (h : SHas W B σ rs) {t : Nat} {r : SRow} (hr : rs[t]? = some r) (i : Nat) (x : Int) (hR : RowAt W' B r.cb r.cv (r.cs.set i x)) (hg : W.grownBy W' (some r.cb)) : SHas W' B σ (rs.set t { r with cs := r.cs.set i x }) := by
 obtain ⟨cH, cC, h1, h2, h3⟩ := h.outer
 obtain ⟨r1, r2, r3, r4⟩ := h.rows t r hr
 obtain ⟨_, cells, hcb⟩ := RowAt.blk r4 (by omega)
 have ne : ∀ {k : Nat} {c : Array Value} {e : Nat}, W.heap[k]? = some (.cells c e (0, 0)) → e ≠ 3 → some k ≠ some r.cb := by
  intro k c e hk he h2
  injection h2 with h2
  subst h2
  rw [hcb] at hk
  injection hk with hk
  injection hk with _ hk
  exact he hk.symm
 have hcv : ({ r with cs := r.cs.set i x } : SRow).cv = r.cv := by unfold SRow.cv; simp
 refine ⟨h.base, ?_, ⟨cH, cC, blk_grown h1 hg (ne h1 (by decide)), blk_grown h2 hg (ne h2 (by decide)), ?_⟩, ?_, ?_⟩
 ·
  rw [List.length_set]
  exact blk_grown h.top hg (ne h.top (by decide))
 ·
  intro j x' hj
  rcases set_row hj with ⟨rfl, rfl⟩ | ⟨_, hj⟩
  ·
   rw [hcv]
   exact h3 j r hr
  ·
   exact h3 j x' hj
 ·
  intro j x' hj
  rcases set_row hj with ⟨rfl, rfl⟩ | ⟨hne, hj⟩
  ·
   refine ⟨by simpa using r1, r2, r3.grown hg (fun e => (h.apart j j r r hr hr).1 (Option.some.inj e)), ?_⟩
   rw [hcv]
   exact hR
  ·
   obtain ⟨a1, a2, a3, a4⟩ := h.rows j x' hj
   exact ⟨a1, a2, a3.grown hg (fun e => (h.apart j t x' r hj hr).1 (Option.some.inj e)), a4.grown hg (fun e => hne ((h.apart j t x' r hj hr).2 (Option.some.inj e)))⟩
 ·
  have low : ∀ (j : Nat) (x' : SRow), (rs.set t { r with cs := r.cs.set i x })[j]? = some x' → ∃ y : SRow, rs[j]? = some y ∧ x'.hb = y.hb ∧ x'.cb = y.cb := by
   intro j x' hj
   rcases set_row hj with ⟨rfl, rfl⟩ | ⟨hne, hj⟩
   ·
    exact ⟨r, hr, rfl, rfl⟩
   ·
    exact ⟨x', hj, rfl, rfl⟩
  intro j k y z hj hk
  obtain ⟨y', h1', h2', h3'⟩ := low j y hj
  obtain ⟨z', k1', k2', k3'⟩ := low k z hk
  rw [h2', h3', k3']
  exact h.apart j k y' z' h1' k1'
section
variable {W : World} {B : Nat} {σ : Sg} {rs : List SRow}
theorem SHas.c0 (h : SHas W B σ rs) : W.cell? ⟨σ.gs, 0, none⟩ = some (.slice (some ⟨σ.bH, 0, none⟩) rs.length σ.cH) := (blk_cell h.top 0).trans rfl
theorem SHas.c1 (h : SHas W B σ rs) : W.cell? ⟨σ.gs, 1, none⟩ = some (.slice (some ⟨σ.bC, 0, none⟩) rs.length σ.cC) := (blk_cell h.top 1).trans rfl
theorem SHas.hrow (h : SHas W B σ rs) {i : Nat} {r : SRow} (hr : rs[i]? = some r) : W.cell? ⟨σ.bH, i, none⟩ = some r.hv := by
 obtain ⟨_, _, h1, _, h3⟩ := h.outer
 rw [blk_cell h1]
 exact (h3 i r hr).1
theorem SHas.crow (h : SHas W B σ rs) {i : Nat} {r : SRow} (hr : rs[i]? = some r) : W.cell? ⟨σ.bC, i, none⟩ = some r.cv := by
 obtain ⟨_, _, _, h2, h3⟩ := h.outer
 rw [blk_cell h2]
 exact (h3 i r hr).2
theorem SHas.hcell (h : SHas W B σ rs) {i : Nat} {r : SRow} (hr : rs[i]? = some r) (j : Nat) (hj : j < r.hx.length) : W.cell? ⟨r.hb, j, none⟩ = some (.int .i64 (r.hx.getD j 0)) := RowAt.cell (h.rows i r hr).2.2.1 j hj
theorem SHas.ccell (h : SHas W B σ rs) {i : Nat} {r : SRow} (hr : rs[i]? = some r) (j : Nat) (hj : j < r.cs.length) : W.cell? ⟨r.cb, j, none⟩ = some (.int .i64 (r.cs.getD j 0)) := RowAt.cell (h.rows i r hr).2.2.2 j hj
end
theorem int_store {P : Program} {ops : Array Oper} {rest : List Oper} {o : Oper} {a : Act} {Q : Exit → Act → World → Prop} {W : World} (hgd : o.guard = none) (hN : o.dst = none) (p x : Operand) (ho : o.op = .store 3 p x) (hi1 : (P.info? 3).map (·.size) = some 1) {g B n c : Nat} {ok : Nat → Prop} {xs : List Int} (i : Nat) (u : Int)
 (hR : (Kd.int .i64).R 3 W B ok (.slice (some ⟨g, 0, none⟩) n c) xs) (hi : i < n) (haddr : a.eval p = .pointer (some ⟨g, i, none⟩)) (hx : a.eval x = .int .i64 u)
 (h : ∀ w1, (Kd.int .i64).R 3 w1 B ok (.slice (some ⟨g, 0, none⟩) n c) (xs.set i u) → W.grownBy w1 (some g) → w1.heap.size = W.heap.size → wpList P ops Q rest a w1) : wpList P ops Q (o :: rest) a W := by
 refine wpList_plain hgd fun K hK => ?_
 have hn : n = xs.length := (Kd.R_reads' hR).1
 obtain ⟨g', cap, e, hB, _, cells, hc⟩ := Kd.R_form hR (by omega)
 injection e with e1
 injection e1 with e1
 injection e1 with e1
 subst e1
 have hsz : i < cells.size := by
  have h2 := (Kd.R_celln 0 hR (i : Int) (by omega) (by omega)).1
  rw [blk_cell hc] at h2
  simp only [Int.toNat_natCast] at h2
  exact (Array.getElem?_eq_some_iff.1 h2).1
 have hrun : (Instr.storeAt 3 (.pointer (some ⟨g, i, none⟩)) (.int .i64 u)).run P W = .ok () (W.setCell ⟨g, i, none⟩ (.int .i64 u)) := run_store_run 3 (.int .i64 u) [.int .i64 u] hc rfl hi1 hsz (by simp [Value.oneCell'])
 unfold Oper.wp execOp
 simp only [ho, haddr, hx, Sem.run_bind, Sem.run_pure, Result.andThen_ok, hrun]
 show K (a.put o.dst undef) _
 rw [hN]
 obtain ⟨h1, h2⟩ := Kd.R_putg hR (i : Int) u
 simp only [Int.toNat_natCast] at h1 h2
 exact hK a _ (h _ h1 h2 (by simp [World.setCell]))
theorem int_store_step {P : Program} {ops : Array Oper} {o : Oper} {a : Act} {Q : Exit → Act → World → Prop} {Kc : Act → World → Prop} {W : World} (hw : Region.wanted o (yielded ops a.tmps) = true) (hN : o.dst = none) (p x : Operand) (ho : o.op = .store 3 p x) (hi1 : (P.info? 3).map (·.size) = some 1) {g B n c : Nat} {ok : Nat → Prop} {xs : List Int} (i : Nat) (u : Int)
 (hR : (Kd.int .i64).R 3 W B ok (.slice (some ⟨g, 0, none⟩) n c) xs) (hi : i < n) (haddr : a.eval p = .pointer (some ⟨g, i, none⟩)) (hx : a.eval x = .int .i64 u)
 (h : ∀ w1, (Kd.int .i64).R 3 w1 B ok (.slice (some ⟨g, 0, none⟩) n c) (xs.set i u) → W.grownBy w1 (some g) → w1.heap.size = W.heap.size → Kc a w1) : if Region.wanted o (yielded ops a.tmps) = true then Oper.wp P o a W Kc Q else Kc (a.put o.dst undef) W := by
 rw [if_pos hw]
 have hn : n = xs.length := (Kd.R_reads' hR).1
 obtain ⟨g', cap, e, hB, _, cells, hc⟩ := Kd.R_form hR (by omega)
 injection e with e1
 injection e1 with e1
 injection e1 with e1
 subst e1
 have hsz : i < cells.size := by
  have h2 := (Kd.R_celln 0 hR (i : Int) (by omega) (by omega)).1
  rw [blk_cell hc] at h2
  simp only [Int.toNat_natCast] at h2
  exact (Array.getElem?_eq_some_iff.1 h2).1
 have hrun : (Instr.storeAt 3 (.pointer (some ⟨g, i, none⟩)) (.int .i64 u)).run P W = .ok () (W.setCell ⟨g, i, none⟩ (.int .i64 u)) := run_store_run 3 (.int .i64 u) [.int .i64 u] hc rfl hi1 hsz (by simp [Value.oneCell'])
 unfold Oper.wp execOp
 simp only [ho, haddr, hx, Sem.run_bind, Sem.run_pure, Result.andThen_ok, hrun]
 show Kc (a.put o.dst undef) _
 rw [hN]
 obtain ⟨h1, h2⟩ := Kd.R_putg hR (i : Int) u
 simp only [Int.toNat_natCast] at h1 h2
 exact h _ h1 h2 (by simp [World.setCell])

end Go.Proofs.YtiagfjbngpbejaaDoor.Pure
namespace Go.Proofs.YtiagfjbngpbejaaDoor.Pure
set_option linter.unusedVariables false
set_option linter.unusedSimpArgs false
open Go Go.RowKit Go.Proofs.YtiagfjbngpbejaaDoor.PFnSingMany Go.Proofs.YtiagfjbngpbejaaDoorW.PrintWords Go.Proofs.YtiagfjbngpbejaaDoorW.PrintLast Go.Proofs.YtiagfjbngpbejaaDoorW.PrintMore

set_option maxHeartbeats 8000000 in
set_option maxRecDepth 100000 in
theorem sing_change_calls (gs bH cH n t1 h1 t2 h2 b1 l1 c1 b2 l2 c2 : Nat) (x y : Int) (w : World) (hs : w.cell? ⟨gs, 0, none⟩ = some (.slice (some ⟨bH, 0, none⟩) n cH)) (k1 : t1 < n) (k2 : t2 < n) (r1 : w.cell? ⟨bH, t1, none⟩ = some (.slice (some ⟨b1, 0, none⟩) l1 c1)) (r2 : w.cell? ⟨bH, t2, none⟩ = some (.slice (some ⟨b2, 0, none⟩) l2 c2)) (j1 : h1 < l1) (j2 : h2 < l2) (v1 : w.cell? ⟨b1, h1, none⟩ = some (.int .i64 x)) (v2 : w.cell? ⟨b2, h2, none⟩ = some (.int .i64 y)) :
 Calls Tryd.prog 26 #[.pointer (some ⟨gs, 0, none⟩), .agg #[.int .i64 (t1 : Int), .int .i64 (h1 : Int)], .agg #[.int .i64 (t2 : Int), .int .i64 (h2 : Int)]] w fun e w' => e = .returned (.int .i64 (if x = y then 0 else 1)) ∧ Below w.heap.size w w' := by
 have HF := Aside0.mk (And.intro hs (And.intro r1 (And.intro r2 (And.intro v1 v2))))
 have a1 := eq_true (show (0 : Int) ≤ (t1 : Int) by omega)
 have a2 := eq_true (show (t1 : Int) < (n : Int) by omega)
 have a3 := eq_true (show (0 : Int) ≤ (t2 : Int) by omega)
 have a4 := eq_true (show (t2 : Int) < (n : Int) by omega)
 have a5 := eq_true (show (0 : Int) ≤ (h1 : Int) by omega)
 have a6 := eq_true (show (h1 : Int) < (l1 : Int) by omega)
 have a7 := eq_true (show (0 : Int) ≤ (h2 : Int) by omega)
 have a8 := eq_true (show (h2 : Int) < (l2 : Int) by omega)
 clear hs r1 r2 v1 v2 k1 k2 j1 j2
 obtain ⟨res, hres⟩ : ∃ r : Int, r = if x = y then 0 else 1 := ⟨_, rfl⟩
 obtain ⟨b, hb⟩ : ∃ b, b = (x != y) := ⟨_, rfl⟩
 rw [← hres]
 have HR : Aside0 (res = if b = true then 1 else 0) := ⟨by rw [hres, hb]; by_cases h : x = y <;> simp [h]⟩
 clear hres
 go_enter Tryd.func26, Tryd.ntmps26
 go_upto_region 1 with (first
  | ((with_reducible refine gate_dst (N := 4) rfl ?_); refine box_event ?hg (N := 4) ?hd (cs := #[.int .i64 (t1 : Int), .int .i64 (h1 : Int)]) (t := 57) ?hr ?_; (case hd => rfl); (case hg => rfl); (case hr => first | (go_simp; done) | (go_simp; rfl)); intro g4 hg w1 hbox hb; have HB1 := Aside0.mk hb; have K4 := Aside0.mk hbox; clear hb hbox hg)
  | ((with_reducible refine gate_dst (N := 5) rfl ?_); refine box_event ?hg (N := 5) ?hd (cs := #[.int .i64 (t2 : Int), .int .i64 (h2 : Int)]) (t := 57) ?hr ?_; (case hd => rfl); (case hg => rfl); (case hr => first | (go_simp; done) | (go_simp; rfl)); intro g5 hg w2 hbox hb; have HB2 := Aside0.mk (below_step HB1.out hb); have K5 := Aside0.mk hbox; have K4 := Aside0.mk (blk_below K4.out hb); clear hb hbox hg)
  | fail)
 (try simp only [Act.put, List.setIfInBounds_toArray, List.set_cons_zero, List.set_cons_succ])
 have m1 : w2.cell? ⟨gs, 0, none⟩ = some (.slice (some ⟨bH, 0, none⟩) n cH) := pw_cell_below HB2.out HF.out.1
 have m2 : w2.cell? ⟨bH, t1, none⟩ = some (.slice (some ⟨b1, 0, none⟩) l1 c1) := pw_cell_below HB2.out HF.out.2.1
 have m3 : w2.cell? ⟨bH, t2, none⟩ = some (.slice (some ⟨b2, 0, none⟩) l2 c2) := pw_cell_below HB2.out HF.out.2.2.1
 have m4 : w2.cell? ⟨b1, h1, none⟩ = some (.int .i64 x) := pw_cell_below HB2.out HF.out.2.2.2.1
 have m5 : w2.cell? ⟨b2, h2, none⟩ = some (.int .i64 y) := pw_cell_below HB2.out HF.out.2.2.2.2
 have m6 : w2.cell? ⟨g4, 0, none⟩ = some (.int .i64 (t1 : Int)) := (blk_cell K4.out 0).trans rfl
 have m7 : w2.cell? ⟨g4, 1, none⟩ = some (.int .i64 (h1 : Int)) := (blk_cell K4.out 1).trans rfl
 have m8 : w2.cell? ⟨g5, 0, none⟩ = some (.int .i64 (t2 : Int)) := (blk_cell K5.out 0).trans rfl
 have m9 : w2.cell? ⟨g5, 1, none⟩ = some (.int .i64 (h2 : Int)) := (blk_cell K5.out 1).trans rfl
 go_quiet (fail)
 rw [← hb]
 clear hb
 cases b
 ·
  go_wp2
  go_ret
  exact ⟨by rw [HR.out]; rfl, by repeat (first | exact HB2.out | apply pw_below_drewN)⟩
 ·
  go_wp2
  go_ret
  exact ⟨by rw [HR.out]; rfl, by repeat (first | exact HB2.out | apply pw_below_drewN)⟩

end Go.Proofs.YtiagfjbngpbejaaDoor.Pure
namespace Go.Proofs.YtiagfjbngpbejaaDoor.Pure
set_option linter.unusedVariables false
set_option linter.unusedSimpArgs false
open Go Go.RowKit Go.Proofs.YtiagfjbngpbejaaDoor.PFnSingMany Go.Proofs.YtiagfjbngpbejaaDoorW.PrintWords Go.Proofs.YtiagfjbngpbejaaDoorW.PrintLast Go.Proofs.YtiagfjbngpbejaaDoorW.PrintMore

def updC (c x h k : Int) : Int := if k < 0 ∨ c + (if h = x then 0 else 1) < k then c + (if h = x then 0 else 1) else k
def ahC (c x : Int) (p : SRow) (i : Nat) : List Int := (List.range p.hx.length).map (fun j => if j < i then updC c x (p.hx.getD j 0) (p.cs.getD j 0) else p.cs.getD j 0)
def ahQ (t : Nat) (p : SRow) : Nat → List (Int × Int)
 | 0 => []
 | i + 1 => ahQ t p i ++ (if p.cs.getD i 0 < 0 then [((t : Int), (i : Int))] else [])
theorem ahC_len (c x : Int) (p : SRow) (i : Nat) : (ahC c x p i).length = p.hx.length := by simp [ahC]
theorem ahC_at (c x : Int) (p : SRow) (i j : Nat) (hj : j < p.hx.length) : (ahC c x p i)[j]? = some (if j < i then updC c x (p.hx.getD j 0) (p.cs.getD j 0) else p.cs.getD j 0) := by
 unfold ahC
 rw [List.getElem?_map, List.getElem?_range hj]
 rfl
theorem ahC_get (c x : Int) (p : SRow) (i : Nat) (hi : i < p.hx.length) : (ahC c x p i).getD i 0 = p.cs.getD i 0 := by
 rw [List.getD_eq_getElem?_getD, ahC_at c x p i i hi, if_neg (by omega)]
 rfl
theorem ahC_zero (c x : Int) (p : SRow) (h : p.cs.length = p.hx.length) : ahC c x p 0 = p.cs := by
 refine List.ext_getElem? (fun j => ?_)
 rcases Nat.lt_or_ge j p.hx.length with hj | hj
 ·
  rw [ahC_at c x p 0 j hj, if_neg (by omega), List.getD_eq_getElem?_getD, List.getElem?_eq_getElem (by omega)]
  rfl
 ·
  rw [List.getElem?_eq_none (by rw [ahC_len]; exact hj), List.getElem?_eq_none (by omega)]
theorem ahC_succ (c x : Int) (p : SRow) (i : Nat) (hi : i < p.hx.length) : ahC c x p (i + 1) = (ahC c x p i).set i (updC c x (p.hx.getD i 0) (p.cs.getD i 0)) := by
 refine List.ext_getElem? (fun j => ?_)
 rcases Nat.lt_or_ge j p.hx.length with hj | hj
 ·
  rw [ahC_at c x p _ j hj, List.getElem?_set]
  by_cases e : i = j
  ·
   subst e
   rw [if_pos rfl, if_pos (by omega), if_pos (by rw [ahC_len]; exact hj)]
  ·
   rw [if_neg e, ahC_at c x p i j hj]
   by_cases h2 : j < i
   ·
    rw [if_pos h2, if_pos (by omega)]
   ·
    rw [if_neg h2, if_neg (by omega)]
 ·
  rw [List.getElem?_eq_none (by rw [ahC_len]; exact hj), List.getElem?_eq_none (by rw [List.length_set, ahC_len]; exact hj)]
theorem ahC_same (c x : Int) (p : SRow) (i : Nat) (hi : i < p.hx.length) (h : updC c x (p.hx.getD i 0) (p.cs.getD i 0) = p.cs.getD i 0) : ahC c x p (i + 1) = ahC c x p i := by
 refine List.ext_getElem? (fun j => ?_)
 rcases Nat.lt_or_ge j p.hx.length with hj | hj
 ·
  rw [ahC_at c x p _ j hj, ahC_at c x p _ j hj]
  by_cases e : i = j
  ·
   subst e
   rw [if_pos (by omega), if_neg (by omega), h]
  ·
   by_cases h2 : j < i
   ·
    rw [if_pos h2, if_pos (by omega)]
   ·
    rw [if_neg h2, if_neg (by omega)]
 ·
  rw [List.getElem?_eq_none (by rw [ahC_len]; exact hj), List.getElem?_eq_none (by rw [ahC_len]; exact hj)]
theorem ahQ_len (t : Nat) (p : SRow) : ∀ i, (ahQ t p i).length ≤ i
 | 0 => Nat.le_refl _
 | i + 1 => by
  unfold ahQ
  rw [List.length_append]
  have := ahQ_len t p i
  split <;> simp <;> omega
theorem set_same {rs : List SRow} {t : Nat} {p : SRow} (h : rs[t]? = some p) : rs.set t p = rs := by
 refine List.ext_getElem? (fun j => ?_)
 rw [List.getElem?_set]
 split
 ·
  rename_i e
  subst e
  rw [h, if_pos (List.getElem?_eq_some_iff.1 h).1]
 ·
  rfl
theorem QHas.grownInt {W W' : World} {B gq b : Nat} {v : Value} {xs : List (Int × Int)} {cells : Array Value} (h : QHas W B gq v xs) (hc : W.heap[b]? = some (.cells cells 3 (0, 0))) (hg : W.grownBy W' (some b)) : QHas W' B gq v xs := by
 refine h.kept (Kept.of_grown hg (Kept.refl W (fun k => k = b)) (fun k hk => .inl (Option.some.inj hk).symm)) (fun k hk hs => ?_)
 subst hs
 obtain ⟨_, cells', e', hc', he⟩ := h.ty k hk
 rw [hc] at hc'
 injection hc' with hc'
 injection hc' with _ hc'
 subst hc'
 rcases he with he | he <;> revert he <;> decide
theorem blk_grownInt {W W' : World} {b g e : Nat} {cs cells : Array Value} (h : W.heap[g]? = some (.cells cs e (0, 0))) (hc : W.heap[b]? = some (.cells cells 3 (0, 0))) (he : e ≠ 3) (hg : W.grownBy W' (some b)) : W'.heap[g]? = some (.cells cs e (0, 0)) :=
 blk_grown h hg (fun h2 => by
  have h2 := Option.some.inj h2
  subst h2
  rw [hc] at h
  injection h with h
  injection h with _ h
  exact he h.symm)
def ahP (c x : Int) (p : SRow) (i : Nat) : SRow := { p with cs := ahC c x p i }
set_option maxHeartbeats 8000000 in
set_option maxRecDepth 100000 in
theorem sing_ahead_zero (gs gq : Nat) (j : Int) (w : World) :
 Calls Tryd.prog 38 #[.pointer (some ⟨gs, 0, none⟩), .agg #[.int .i64 0, .int .i64 j], .pointer (some ⟨gq, 0, none⟩)] w fun e w' => e = .returned (.tuple #[]) ∧ Below w.heap.size w w' := by
 go_enter Tryd.func38, Tryd.ntmps38
 go_wp2_with (first
  | ((with_reducible refine gate_dst (N := 4) rfl ?_); refine box_event ?hg (N := 4) ?hd (cs := #[.int .i64 0, .int .i64 j]) (t := 57) ?hr ?_; (case hd => rfl); (case hg => rfl); (case hr => first | (go_simp; done) | (go_simp; rfl)); intro g4 hg w1 hbox hb; have HB1 := Aside0.mk hb; have z0 : w1.cell? ⟨g4, 0, none⟩ = some (.int .i64 0) := (blk_cell hbox 0).trans rfl; clear hb hbox hg))
 refine bodyPost_ret (results_none rfl _ _ _) rfl ?_
 exact ⟨rfl, HB1.out⟩
set_option maxHeartbeats 40000000 in
set_option maxRecDepth 100000 in
theorem sing_ahead_succ (σ : Sg) (B T t' j gq : Nat) (rs : List SRow) (r p : SRow) (vq : Value) (xs : List (Int × Int)) (c x : Int) (w : World) (hT : T = t' + 1) (hr : rs[T]? = some r) (hp : rs[t']? = some p) (hj : j < r.hx.length) (hc : r.cs.getD j 0 = c) (hx : r.hx.getD j 0 = x) (c0 : 0 ≤ c) (c1 : c ≤ 1000) (hs : SHas w B σ rs) (hq : QHas w B gq vq xs) (hn : xs.length + p.hx.length ≤ 10000) (hTn : rs.length ≤ 1000) :
 Calls Tryd.prog 38 #[.pointer (some ⟨σ.gs, 0, none⟩), .agg #[.int .i64 (T : Int), .int .i64 (j : Int)], .pointer (some ⟨gq, 0, none⟩)] w fun e w' => e = .returned (.tuple #[]) ∧ ∃ vq', SHas w' B σ (rs.set t' (ahP c x p p.hx.length)) ∧ QHas w' B gq vq' (xs ++ ahQ t' p p.hx.length) ∧ Below B w w' ∧ Kept w w' (fun k => QBl gq vq k ∨ k = p.cb) ∧ (vq'.ownBlock = vq.ownBlock ∨ ∃ k, vq'.ownBlock = some k ∧ w.heap.size ≤ k) := by
 obtain ⟨n, hnn⟩ : ∃ n, n = rs.length := ⟨_, rfl⟩
 have hTl : T < n := by rw [hnn]; exact (List.getElem?_eq_some_iff.1 hr).1
 obtain ⟨L, hL⟩ : ∃ L, L = p.hx.length := ⟨_, rfl⟩
 obtain ⟨l, hl⟩ : ∃ l, l = r.cs.length := ⟨_, rfl⟩
 obtain ⟨pr1, pr2, -, -⟩ := hs.rows t' p hp
 obtain ⟨rr1, rr2, -, -⟩ := hs.rows T r hr
 have hjl : j < l := by omega
 rw [← hL] at hn
 have q0 := eq_true (show (0 : Int) ≤ (T : Int) by omega)
 have q1 := eq_true (show (T : Int) < (n : Int) by omega)
 have q2 := eq_true (show (0 : Int) ≤ (t' : Int) by omega)
 have q3 := eq_true (show (t' : Int) < (n : Int) by omega)
 have q4 := eq_true (show (0 : Int) ≤ (j : Int) by omega)
 have q5 := eq_true (show (j : Int) < (l : Int) by omega)
 have d1 : ((T : Int) == 0) = false := beq_eq_false_iff_ne.mpr (by omega)
 have d2 : decide ((T : Int) = 0) = false := decide_eq_false (by omega)
 have p1 : IntKind.i64.wrap ((T : Int) - 1) = (t' : Int) := by rw [Go.IntKind.wrap_i64]; omega
 have HGQ : Aside0 (gq < w.heap.size) := ⟨blk_lt hq.2.1⟩
 have HQL := Aside0.mk (Kd.Q_lt hq.2.2)
 have BL : Aside0 (B ≤ w.heap.size) := ⟨by have := hq.1; have := blk_lt hq.2.1; omega⟩
 have SH0 := Aside0.mk hs
 have QH0 := Aside0.mk hq
 have HNN := Aside0.mk hnn
 have HL := Aside0.mk hL
 have HLL := Aside0.mk hl
 have HR := Aside0.mk (And.intro hr (And.intro hp (And.intro hc (And.intro hx (And.intro hj (And.intro hT (And.intro pr1 rr1)))))))
 have HN := Aside0.mk (And.intro hn (And.intro hTn hTl))
 have HC := Aside0.mk (And.intro c0 c1)
 clear hs hq hnn hL hl hr hp hc hx hj hT hn hTn hTl hjl pr1 pr2 rr1 rr2 c0 c1
 go_enter Tryd.func38, Tryd.ntmps38
 go_upto_region 2 with (first
  | ((with_reducible refine gate_dst (N := 4) rfl ?_); refine box_event ?hg (N := 4) ?hd (cs := #[.int .i64 (T : Int), .int .i64 (j : Int)]) (t := 57) ?hr ?_; (case hd => rfl); (case hg => rfl); (case hr => first | (go_simp; done) | (go_simp; rfl)); intro g4 hg w1 hbox hb; have HB1 := Aside0.mk hb; have K4 := Aside0.mk hbox; have SH1 := Aside0.mk (SH0.out.below hb); have QH1 := Aside0.mk (QH0.out.below hb); have G4 := Aside0.mk hg; have hlt4 := Aside0.mk (blk_lt hbox); have z40 : w1.cell? ⟨g4, 0, none⟩ = some (.int .i64 (T : Int)) := (blk_cell hbox 0).trans rfl; have z41 : w1.cell? ⟨g4, 1, none⟩ = some (.int .i64 (j : Int)) := (blk_cell hbox 1).trans rfl; have m0 : w1.cell? ⟨σ.gs, 0, none⟩ = some (.slice (some ⟨σ.bH, 0, none⟩) n σ.cH) := (by rw [HNN.out]; exact SH1.out.c0); have m1 : w1.cell? ⟨σ.bH, t', none⟩ = some (.slice (some ⟨p.hb, 0, none⟩) L p.hc) := (by rw [HL.out]; exact SH1.out.hrow HR.out.2.1); clear hb hbox hg)
  | fail)
 (try simp only [Act.put, List.setIfInBounds_toArray, List.set_cons_zero, List.set_cons_succ])
 go_quiet (fail)
 generalize hwd : w1.drewN _ = wd
 go_wp2
 have SHd : Aside0 (SHas wd B σ rs) := ⟨by rw [← hwd]; exact SH1.out.drewN _⟩
 have QHd : Aside0 (QHas wd B gq vq xs) := ⟨by rw [← hwd]; exact QH1.out.below (pw_below_drewN (Below.refl _ _) _)⟩
 have K4d : Aside0 (wd.heap[g4]? = some (.cells #[.int .i64 (T : Int), .int .i64 (j : Int)] 57 (0, 0))) := ⟨by rw [← hwd]; exact K4.out⟩
 have HBd : Aside0 (Below w.heap.size w wd) := ⟨by rw [← hwd]; exact pw_below_drewN HB1.out _⟩
 have HSd : Aside0 (wd.heap.size = w1.heap.size) := ⟨by rw [← hwd]; rfl⟩
 clear hwd z40 z41 m0 m1
 go_loopg [23] L (fun kq v23 w' => ∃ (i : Nat) (vi : Value), v23 = .int .i64 (i : Int) ∧ Aside0 (kq = L - i ∧ i ≤ L) ∧ Aside0 (SHas w' B σ (rs.set t' (ahP c x p i))) ∧ Aside0 (QHas w' B gq vi (xs ++ ahQ t' p i)) ∧ Aside0 (Below B w w') ∧ Aside0 (Kept w w' (fun k => QBl gq vq k ∨ k = p.cb)) ∧ Aside0 (vi.ownBlock = vq.ownBlock ∨ ∃ k, vi.ownBlock = some k ∧ g4 < k) ∧ Aside0 (w'.heap[g4]? = some (.cells #[.int .i64 (T : Int), .int .i64 (j : Int)] 57 (0, 0))))
 case atStart => exact ⟨0, vq, rfl, ⟨by omega⟩, ⟨by have e : ahP c x p 0 = p := (by unfold ahP; rw [ahC_zero c x p HR.out.2.2.2.2.2.2.1]); rw [e, set_same HR.out.2.1]; exact SHd.out⟩, ⟨by rw [show ahQ t' p 0 = [] from rfl, List.append_nil]; exact QHd.out⟩, ⟨HBd.out.mono BL.out⟩, ⟨Kept.of_below HBd.out _⟩, ⟨.inl rfl⟩, K4d⟩
 case round =>
  clear SH0 QH0 SH1 QH1 SHd QHd K4d HBd HB1 K4 HSd
  obtain ⟨i, vi, rfl, HX, SH, QH, HB, HK, AT, K4⟩ := hrel
  obtain ⟨hkq, hiL⟩ := HX.out
  clear HX
  by_cases hi : i < L
  rotate_left
  ·
   obtain rfl : i = L := by omega
   have d3 : decide ((i : Int) < (i : Int)) = false := decide_eq_false (by omega)
   go_wp2
   go_end0
   exact ⟨rfl, vi, by rw [← HL.out]; exact SH.out, by rw [← HL.out]; exact QH.out, HB.out, HK.out, AT.out.imp id (fun ⟨k, h1, h2⟩ => ⟨k, h1, by have := G4.out; omega⟩)⟩
  have d3 : decide ((i : Int) < (L : Int)) = true := decide_eq_true (by omega)
  have NX : Aside0 (L - (i + 1) < gk ∧ i + 1 ≤ L ∧ i < L) := ⟨by omega, by omega, hi⟩
  have p3 : IntKind.i64.wrap ((i : Int) + 1) = (i : Int) + 1 := by have := HN.out.1; rw [Go.IntKind.wrap_i64]; omega
  have q6 := eq_true (show (0 : Int) ≤ (i : Int) by omega)
  have q7 := eq_true (show (i : Int) < (L : Int) by omega)
  clear hkq hiL hi
  have z40 : wr.cell? ⟨g4, 0, none⟩ = some (.int .i64 (T : Int)) := (blk_cell K4.out 0).trans rfl
  have G4' : Aside0 (w.heap.size ≤ g4) := ⟨by have := G4.out; omega⟩
  have G4r := Aside0.mk (blk_lt K4.out)
  go_upto_region 6 with (first
   | ((with_reducible refine gate_dst (N := 7) rfl ?_); refine box_event ?hg (N := 7) ?hd (cs := #[.int .i64 0, .int .i64 0]) (t := 57) ?hr ?_; (case hd => rfl); (case hg => rfl); (case hr => first | (go_simp; done) | (go_simp; rfl)); intro g7 hg w2 hbox hb; have K7 := Aside0.mk hbox; have K42 := Aside0.mk (blk_below K4.out hb); have SH2 := Aside0.mk (SH.out.below hb); have QH2 := Aside0.mk (QH.out.below hb); have HB2 := Aside0.mk (HB.out.trans (hb.mono (Nat.le_trans BL.out HB.out.size))); have HK2 := Aside0.mk (HK.out.below hb); have G7 := Aside0.mk hg; have QL7 := Aside0.mk (Kd.Q_lt QH.out.2.2); have GQ7 := Aside0.mk (blk_lt QH.out.2.1); have HBS := Aside0.mk HB.out.size; clear hb hbox hg)
   | ((with_reducible refine gate_ (.store 57 (.tmp 7) (.tmp 30)) rfl ?_); (refine box_store rfl rfl 57 (.tmp 7) (.tmp 30) rfl (g := g7) (off := 0) (new := #[.int .i64 (t' : Int), .int .i64 (i : Int)]) _ [.int .i64 (t' : Int), .int .i64 (i : Int)] K7.out rfl rfl rfl (by kernel_rfl) (by simp [Value.oneCell']) (Nat.le_of_ble_eq_true rfl) rfl ?_); intro w3 hh hg hz; have K7o := K7; have K7 := Aside0.mk hh; have K43 := Aside0.mk (blk_grown K42.out hg (fun h => by have h2 := Option.some.inj h; have h3 := G4r.out; have h4 := G7.out; omega)); have HB3 := Aside0.mk (below_grown HB2.out hg (by have := G7.out; have := HBS.out; have := BL.out; omega) (Nat.le_trans BL.out HB2.out.size)); have HKG := Kept.of_grown hg (Kept.refl w2 (fun k => k = g7)) (fun k hk => .inl (Option.some.inj hk).symm); have SH3 := Aside0.mk (SH2.out.kept HKG (fun k cells e hc hs => by subst hs; rw [K7o.out] at hc; injection hc with hc; injection hc with _ hc; subst hc; exact ⟨by decide, by decide, by decide⟩)); have QH3 := Aside0.mk (QH2.out.kept HKG (fun k hk hs => by subst hs; have h7 := G7.out; exact hk.elim (fun hk => (by have := GQ7.out; omega)) (fun hk => (by have := QL7.out _ hk; omega)))); have HK3 := Aside0.mk (HK2.out.then_ HKG (fun k hk => .inr (by subst hk; have h7 := G7.out; have := HBS.out; omega))); clear HKG; clear hh hg hz)
   | fail)
  (try simp only [Act.put, List.setIfInBounds_toArray, List.set_cons_zero, List.set_cons_succ])
  obtain ⟨rs2, hrs2⟩ : ∃ rs2, rs2 = rs.set t' (ahP c x p i) := ⟨_, rfl⟩
  have e3 : rs2.length = n := by rw [hrs2, List.length_set, HNN.out]
  have e1 : rs2[t']? = some (ahP c x p i) := by rw [hrs2, List.getElem?_set, if_pos rfl, if_pos (by have := HN.out.2.2; have := HR.out.2.2.2.2.2.1; have := HNN.out; omega)]
  have e2 : rs2[T]? = some r := by rw [hrs2, List.getElem?_set, if_neg (by have := HR.out.2.2.2.2.2.1; omega)]; exact HR.out.1
  rw [← hrs2] at SH3
  obtain ⟨h, hh⟩ : ∃ h, h = p.hx.getD i 0 := ⟨_, rfl⟩
  obtain ⟨k, hk⟩ : ∃ k, k = p.cs.getD i 0 := ⟨_, rfl⟩
  obtain ⟨d, hd⟩ : ∃ d : Int, d = if h = x then 0 else 1 := ⟨_, rfl⟩
  have d01 : 0 ≤ d ∧ d ≤ 1 := by rw [hd]; split <;> omega
  obtain ⟨cost, hcost⟩ : ∃ cost, cost = c + d := ⟨_, rfl⟩
  have pc : IntKind.i64.wrap (c + d) = cost := by have := HC.out; rw [Go.IntKind.wrap_i64]; omega
  have n0 : w3.cell? ⟨σ.gs, 0, none⟩ = some (.slice (some ⟨σ.bH, 0, none⟩) n σ.cH) := by rw [← e3]; exact SH3.out.c0
  have n1 : w3.cell? ⟨σ.gs, 1, none⟩ = some (.slice (some ⟨σ.bC, 0, none⟩) n σ.cC) := by rw [← e3]; exact SH3.out.c1
  have n2 : w3.cell? ⟨σ.bC, T, none⟩ = some (.slice (some ⟨r.cb, 0, none⟩) l r.cc) := by rw [HLL.out]; exact SH3.out.crow e2
  have n3 : w3.cell? ⟨r.cb, j, none⟩ = some (.int .i64 c) := by rw [← HR.out.2.2.1]; exact SH3.out.ccell e2 j (by have := HR.out.2.2.2.2; omega)
  have n4 : w3.cell? ⟨g4, 0, none⟩ = some (.int .i64 (T : Int)) := (blk_cell K43.out 0).trans rfl
  have n5 : w3.cell? ⟨g4, 1, none⟩ = some (.int .i64 (j : Int)) := (blk_cell K43.out 1).trans rfl
  have n6 : w3.cell? ⟨g7, 0, none⟩ = some (.int .i64 (t' : Int)) := (blk_cell K7.out 0).trans rfl
  have n7 : w3.cell? ⟨g7, 1, none⟩ = some (.int .i64 (i : Int)) := (blk_cell K7.out 1).trans rfl
  have n8 : w3.cell? ⟨σ.bH, t', none⟩ = some (.slice (some ⟨p.hb, 0, none⟩) L p.hc) := by have h2 := SH3.out.hrow e1; rw [HL.out]; exact h2
  have n9 : w3.cell? ⟨σ.bH, T, none⟩ = some (.slice (some ⟨r.hb, 0, none⟩) r.hx.length r.hc) := SH3.out.hrow e2
  have n10 : w3.cell? ⟨p.hb, i, none⟩ = some (.int .i64 h) := by have h2 := SH3.out.hcell e1 i (by have := NX.out.2.2; have := HL.out; show i < p.hx.length; omega); rw [hh]; exact h2
  have n11 : w3.cell? ⟨r.hb, j, none⟩ = some (.int .i64 x) := by rw [← HR.out.2.2.2.1]; exact SH3.out.hcell e2 j HR.out.2.2.2.2.1
  have hcon : ∀ W, Below w3.heap.size w3 W → Calls Tryd.prog 26 #[.pointer (some ⟨σ.gs, 0, none⟩), .agg #[.int .i64 (t' : Int), .int .i64 (i : Int)], .agg #[.int .i64 (T : Int), .int .i64 (j : Int)]] W fun e w' => e = .returned (.int .i64 d) ∧ Below W.heap.size W w' := fun W hW => by
   rw [hd]
   exact sing_change_calls σ.gs σ.bH σ.cH n t' i T j p.hb L p.hc r.hb r.hx.length r.hc h x W (pw_cell_below hW n0) (by have := HN.out.2.2; have := HR.out.2.2.2.2.2.1; omega) HN.out.2.2 (pw_cell_below hW n8) (pw_cell_below hW n9) NX.out.2.2 HR.out.2.2.2.2.1 (pw_cell_below hW n10) (pw_cell_below hW n11)
  have HCON := Aside0.mk hcon
  have CE := Aside0.mk (And.intro n1 (And.intro n2 (And.intro n3 (And.intro n4 (And.intro n5 (And.intro n6 n7))))))
  have n12 : w3.cell? ⟨σ.bC, t', none⟩ = some (.slice (some ⟨p.cb, 0, none⟩) L p.cc) := by have h2 := SH3.out.crow e1; unfold SRow.cv ahP at h2; simp only [ahC_len] at h2; rw [HL.out]; exact h2
  have n13 : w3.cell? ⟨p.cb, i, none⟩ = some (.int .i64 k) := by have h2 := SH3.out.ccell e1 i (by unfold ahP; simp only [ahC_len]; have := NX.out.2.2; have := HL.out; omega); unfold ahP at h2; simp only [ahC_get c x p i (by have := NX.out.2.2; have := HL.out; omega)] at h2; rw [hk]; exact h2
  have CF := Aside0.mk (And.intro n1 (And.intro n12 (And.intro n6 (And.intro n7 n13))))
  have HE := Aside0.mk (And.intro hrs2 (And.intro e1 (And.intro e2 e3)))
  have HD := Aside0.mk (And.intro hh (And.intro hk (And.intro hd (And.intro hcost d01))))
  clear hcon n0 n1 n2 n3 n4 n5 n6 n7 n8 n9 n10 n11 n12 n13 hrs2 e1 e2 e3 hh hk hd hcost d01 z40
  refine start_ (n := 18) (S := (fun w' => w'.cell? ⟨σ.gs, 1, none⟩ = some (.slice (some ⟨σ.bC, 0, none⟩) n σ.cC) ∧ w'.cell? ⟨σ.bC, T, none⟩ = some (.slice (some ⟨r.cb, 0, none⟩) l r.cc) ∧ w'.cell? ⟨r.cb, j, none⟩ = some (.int .i64 c) ∧ w'.cell? ⟨g4, 0, none⟩ = some (.int .i64 (T : Int)) ∧ w'.cell? ⟨g4, 1, none⟩ = some (.int .i64 (j : Int)) ∧ w'.cell? ⟨g7, 0, none⟩ = some (.int .i64 (t' : Int)) ∧ w'.cell? ⟨g7, 1, none⟩ = some (.int .i64 (i : Int)))) (ds := []) (rowB 18 0) (by kernel_rfl) rfl rfl CE.out (fun hHeld => ?_)
  refine pure_ (i := 0) (N := some 31) (v := ?_) (a' := ?_) (rowB 18 1) rfl rfl (by kernel_rfl) (fun _ _ _ h => h) (Or.inl ⟨by rfl, ?_⟩) ?_ ?_
  rotate_left
  ·
   intro w'
   go_simp
   with_reducible rfl
  rotate_left
  ·
   simp only [Act.put, List.setIfInBounds_toArray, List.set_cons_zero, List.set_cons_succ, i64_w, i32_w]
   rfl
  refine pure_ (i := 1) (N := some 32) (v := ?_) (a' := ?_) (rowB 18 3) rfl rfl (by kernel_rfl) (fun _ _ _ h => h) (Or.inl ⟨by rfl, ?_⟩) ?_ ?_
  rotate_left
  ·
   intro w'
   go_simp
   with_reducible rfl
  rotate_left
  ·
   simp only [Act.put, List.setIfInBounds_toArray, List.set_cons_zero, List.set_cons_succ, i64_w, i32_w]
   rfl
  refine pure_ (i := 2) (N := some 33) (v := ?_) (a' := ?_) (rowB 18 7) rfl rfl (by kernel_rfl) (fun _ _ _ h => h) (Or.inl ⟨by rfl, ?_⟩) ?_ ?_
  rotate_left
  ·
   intro w'
   go_simp
   with_reducible rfl
  rotate_left
  ·
   simp only [Act.put, List.setIfInBounds_toArray, List.set_cons_zero, List.set_cons_succ, i64_w, i32_w]
   rfl
  refine take_ (i := 3) (N := some 34) (v := ?_) (a' := ?_) (rowB 18 15) rfl rfl (by kernel_rfl) (fun _ _ _ h => h) (Or.inl ⟨by rfl, ?_⟩) hHeld ?_ ?_
  rotate_left
  ·
   rintro w' ⟨s0, s1, s2, s3, s4, s5, s6⟩
   go_simp
   with_reducible rfl
  rotate_left
  ·
   simp only [Act.put, List.setIfInBounds_toArray, List.set_cons_zero, List.set_cons_succ, i64_w, i32_w]
   rfl
  refine pure_ (i := 4) (N := some 35) (v := ?_) (a' := ?_) (rowB 18 31) rfl rfl (by kernel_rfl) (fun _ _ _ h => h) (Or.inl ⟨by rfl, ?_⟩) ?_ ?_
  rotate_left
  ·
   intro w'
   go_simp
   with_reducible rfl
  rotate_left
  ·
   simp only [Act.put, List.setIfInBounds_toArray, List.set_cons_zero, List.set_cons_succ, i64_w, i32_w]
   rfl
  refine take_ (i := 5) (N := some 36) (v := ?_) (a' := ?_) (rowB 18 63) rfl rfl (by kernel_rfl) (fun _ _ _ h => h) (Or.inl ⟨by rfl, ?_⟩) hHeld ?_ ?_
  rotate_left
  ·
   rintro w' ⟨s0, s1, s2, s3, s4, s5, s6⟩
   go_simp
   with_reducible rfl
  rotate_left
  ·
   simp only [Act.put, List.setIfInBounds_toArray, List.set_cons_zero, List.set_cons_succ, i64_w, i32_w]
   rfl
  refine pure_ (i := 6) (N := some 37) (v := ?_) (a' := ?_) (rowB 18 127) rfl rfl (by kernel_rfl) (fun _ _ _ h => h) (Or.inl ⟨by rfl, ?_⟩) ?_ ?_
  rotate_left
  ·
   intro w'
   go_simp
   with_reducible rfl
  rotate_left
  ·
   simp only [Act.put, List.setIfInBounds_toArray, List.set_cons_zero, List.set_cons_succ, i64_w, i32_w]
   rfl
  refine take_ (i := 7) (N := some 38) (v := ?_) (a' := ?_) (rowB 18 255) rfl rfl (by kernel_rfl) (fun _ _ _ h => h) (Or.inl ⟨by rfl, ?_⟩) hHeld ?_ ?_
  rotate_left
  ·
   rintro w' ⟨s0, s1, s2, s3, s4, s5, s6⟩
   go_simp
   with_reducible rfl
  rotate_left
  ·
   simp only [Act.put, List.setIfInBounds_toArray, List.set_cons_zero, List.set_cons_succ, i64_w, i32_w]
   rfl
  refine pure_ (i := 8) (N := some 39) (v := ?_) (a' := ?_) (rowB 18 511) rfl rfl (by kernel_rfl) (fun _ _ _ h => h) (Or.inl ⟨by rfl, ?_⟩) ?_ ?_
  rotate_left
  ·
   intro w'
   go_simp
   with_reducible rfl
  rotate_left
  ·
   simp only [Act.put, List.setIfInBounds_toArray, List.set_cons_zero, List.set_cons_succ, i64_w, i32_w]
   rfl
  refine take_ (i := 9) (N := some 40) (v := ?_) (a' := ?_) (rowB 18 1023) rfl rfl (by kernel_rfl) (fun _ _ _ h => h) (Or.inl ⟨by rfl, ?_⟩) hHeld ?_ ?_
  rotate_left
  ·
   rintro w' ⟨s0, s1, s2, s3, s4, s5, s6⟩
   go_simp
   with_reducible rfl
  rotate_left
  ·
   simp only [Act.put, List.setIfInBounds_toArray, List.set_cons_zero, List.set_cons_succ, i64_w, i32_w]
   rfl
  refine pure_ (i := 10) (N := some 41) (v := ?_) (a' := ?_) (rowB 18 2047) rfl rfl (by kernel_rfl) (fun _ _ _ h => h) (Or.inl ⟨by rfl, ?_⟩) ?_ ?_
  rotate_left
  ·
   intro w'
   go_simp
   with_reducible rfl
  rotate_left
  ·
   simp only [Act.put, List.setIfInBounds_toArray, List.set_cons_zero, List.set_cons_succ, i64_w, i32_w]
   rfl
  refine take_ (i := 11) (N := some 42) (v := ?_) (a' := ?_) (rowB 18 4095) rfl rfl (by kernel_rfl) (fun _ _ _ h => h) (Or.inl ⟨by rfl, ?_⟩) hHeld ?_ ?_
  rotate_left
  ·
   rintro w' ⟨s0, s1, s2, s3, s4, s5, s6⟩
   go_simp
   with_reducible rfl
  rotate_left
  ·
   simp only [Act.put, List.setIfInBounds_toArray, List.set_cons_zero, List.set_cons_succ, i64_w, i32_w]
   rfl
  refine pure_ (i := 12) (N := some 43) (v := ?_) (a' := ?_) (rowB 18 8191) rfl rfl (by kernel_rfl) (fun _ _ _ h => h) (Or.inl ⟨by rfl, ?_⟩) ?_ ?_
  rotate_left
  ·
   intro w'
   go_simp
   with_reducible rfl
  rotate_left
  ·
   simp only [Act.put, List.setIfInBounds_toArray, List.set_cons_zero, List.set_cons_succ, i64_w, i32_w]
   rfl
  refine take_ (i := 13) (N := some 44) (v := ?_) (a' := ?_) (rowB 18 16383) rfl rfl (by kernel_rfl) (fun _ _ _ h => h) (Or.inl ⟨by rfl, ?_⟩) hHeld ?_ ?_
  rotate_left
  ·
   rintro w' ⟨s0, s1, s2, s3, s4, s5, s6⟩
   go_simp
   with_reducible rfl
  rotate_left
  ·
   simp only [Act.put, List.setIfInBounds_toArray, List.set_cons_zero, List.set_cons_succ, i64_w, i32_w]
   rfl
  refine take_ (i := 14) (N := some 45) (v := ?_) (a' := ?_) (rowB 18 32767) rfl rfl (by kernel_rfl) (fun _ _ _ h => h) (Or.inl ⟨by rfl, ?_⟩) hHeld ?_ ?_
  rotate_left
  ·
   rintro w' ⟨s0, s1, s2, s3, s4, s5, s6⟩
   go_simp
   with_reducible rfl
  rotate_left
  ·
   simp only [Act.put, List.setIfInBounds_toArray, List.set_cons_zero, List.set_cons_succ, i64_w, i32_w]
   rfl
  refine one_ (i := 15) (N := some 46) (rowB 18 65535) rfl rfl (by kernel_rfl) (by decide) (fun K hK => ?_)
  refine call_ 26 #[.pointer (some ⟨σ.gs, 0, none⟩), .agg #[.int .i64 (t' : Int), .int .i64 (i : Int)], .agg #[.int .i64 (T : Int), .int .i64 (j : Int)]] (by rfl) rfl (by go_simp) ?_
  refine (HCON.out _ (below_drew (Below.refl _ _))).mono ?_
  rintro e w5 ⟨rfl, hb⟩
  refine ⟨_, rfl, ?_⟩
  have hbd := below_step (below_drew (Below.refl w3.heap.size w3)) hb
  have SH5 := Aside0.mk (SH3.out.below hbd)
  have QH5 := Aside0.mk (QH3.out.below hbd)
  have HB5 := Aside0.mk (HB3.out.trans (hbd.mono (Nat.le_trans BL.out HB3.out.size)))
  have HK5 := Aside0.mk (HK3.out.below hbd)
  have K45 := Aside0.mk (blk_below K43.out hbd)
  have K75 := Aside0.mk (blk_below K7.out hbd)
  have m1 := pw_cell_below hbd CF.out.1
  have m2 := pw_cell_below hbd CF.out.2.1
  have m3 := pw_cell_below hbd CF.out.2.2.1
  have m4 := pw_cell_below hbd CF.out.2.2.2.1
  have m5 := pw_cell_below hbd CF.out.2.2.2.2
  clear hb
  refine hK.out _ _ ⟨pw_cell_below hbd CE.out.1, pw_cell_below hbd CE.out.2.1, pw_cell_below hbd CE.out.2.2.1, pw_cell_below hbd CE.out.2.2.2.1, pw_cell_below hbd CE.out.2.2.2.2.1, pw_cell_below hbd CE.out.2.2.2.2.2.1, pw_cell_below hbd CE.out.2.2.2.2.2.2⟩ (fun hHeld => ?_)
  clear hK K
  refine norm_ (a' := ?_) ?_ ?_
  rotate_left
  ·
   show Act.put _ (some 46) _ = _
   simp only [Act.put, List.setIfInBounds_toArray, List.set_cons_zero, List.set_cons_succ, i64_w, i32_w]
   rfl
  refine pure_ (i := 16) (N := some 47) (v := ?_) (a' := ?_) (rowB 18 131071) rfl rfl (by kernel_rfl) (fun _ _ _ h => h) (Or.inl ⟨by rfl, ?_⟩) ?_ ?_
  rotate_left
  ·
   intro w'
   go_simp
   with_reducible rfl
  rotate_left
  ·
   simp only [Act.put, List.setIfInBounds_toArray, List.set_cons_zero, List.set_cons_succ, i64_w, i32_w]
   rfl
  refine pure_ (i := 17) (N := some 8) (v := ?_) (a' := ?_) (rowB 18 262143) rfl rfl (by kernel_rfl) (fun _ _ _ h => h) (Or.inl ⟨by rfl, ?_⟩) ?_ ?_
  rotate_left
  ·
   intro w'
   go_simp
   with_reducible rfl
  rotate_left
  ·
   simp only [Act.put, List.setIfInBounds_toArray, List.set_cons_zero, List.set_cons_succ, i64_w, i32_w]
   rfl
  refine done_ (by kernel_rfl) ?_
  go_upto_region 7 with fail
  (try simp only [Act.put, List.setIfInBounds_toArray, List.set_cons_zero, List.set_cons_succ])
  go_quiet (fail)
  generalize hwd : w5.drewN _ = w6
  have SH6 : Aside0 (SHas w6 B σ rs2) := ⟨by rw [← hwd]; exact SH5.out.drewN _⟩
  have QH6 : Aside0 (QHas w6 B gq vi (xs ++ ahQ t' p i)) := ⟨by rw [← hwd]; exact QH5.out.below (pw_below_drewN (Below.refl _ _) _)⟩
  have HB6 : Aside0 (Below B w w6) := ⟨by rw [← hwd]; exact pw_below_drewN HB5.out _⟩
  have HK6 : Aside0 (Kept w w6 (fun k => QBl gq vq k ∨ k = p.cb)) := ⟨by rw [← hwd]; exact HK5.out.drewN _⟩
  have K46 : Aside0 (w6.heap[g4]? = some (.cells #[.int .i64 (T : Int), .int .i64 (j : Int)] 57 (0, 0))) := ⟨by rw [← hwd]; exact K45.out⟩
  have K76 : Aside0 (w6.heap[g7]? = some (.cells #[.int .i64 (t' : Int), .int .i64 (i : Int)] 57 (0, 0))) := ⟨by rw [← hwd]; exact K75.out⟩
  clear hwd m1 m2 m3 m4 m5 hHeld hbd SH5 QH5 HB5 HK5 K45 K75 SH3 QH3 HB3 HK3 K43 K7 SH2 QH2 HB2 HK2 K42 SH QH HB HK K4 CE CF HCON
  have HUP := Aside0.mk (show updC c x h k = if k < 0 ∨ cost < k then cost else k by unfold updC; rw [← HD.out.2.2.1, ← HD.out.2.2.2.1])
  have AI : Aside0 (i < p.hx.length) := ⟨by have := NX.out.2.2; have := HL.out; omega⟩
  have e : ahQ t' p (i + 1) = ahQ t' p i ++ (if k < 0 then [((t' : Int), (i : Int))] else []) := by rw [HD.out.2.1]; rfl
  have HAQ := Aside0.mk e
  clear e
  by_cases hk0 : k < 0
  ·
   have d5 : decide (k < 0) = true := decide_eq_true hk0
   have e : updC c x h k = cost := by rw [HUP.out, if_pos (.inl hk0)]
   have HUC := Aside0.mk e
   have e : ahQ t' p (i + 1) = ahQ t' p i ++ [((t' : Int), (i : Int))] := by rw [HAQ.out, if_pos hk0]
   have HAE := Aside0.mk e
   have HNQ : Aside0 ((xs ++ ahQ t' p i).length ≤ 100000) := ⟨by rw [List.length_append]; have := ahQ_len t' p i; have := HN.out.1; have := NX.out.2.2; omega⟩
   have HVI : Aside0 (∀ y, QBl gq vi y → ((QBl gq vq y ∨ y = p.cb) ∨ w.heap.size ≤ y) ∧ y ≠ g4 ∧ y ≠ g7) := ⟨fun y hy => by
    have h7 := G7.out
    have h4 := G4.out
    rcases hy with rfl | hy
    ·
     exact ⟨.inl (.inl (.inl rfl)), by have := HGQ.out; omega, by have := GQ7.out; omega⟩
    ·
     have hl := QL7.out y hy
     rcases AT.out with ha | ⟨y2, ha, hb⟩
     ·
      have hq := HQL.out y (ha ▸ hy)
      exact ⟨.inl (.inl (.inr (ha ▸ hy))), by omega, by omega⟩
     ·
      rw [hy] at ha
      injection ha with ha
      exact ⟨.inr (by omega), by omega, by omega⟩⟩
   have z70 : w6.cell? ⟨g7, 0, none⟩ = some (.int .i64 (t' : Int)) := (blk_cell K76.out 0).trans rfl
   have z71 : w6.cell? ⟨g7, 1, none⟩ = some (.int .i64 (i : Int)) := (blk_cell K76.out 1).trans rfl
   clear hk0 e
   go_upto_region 11 with (first
    | (go_at_call 36; refine (queue_push_calls (t' : Int) (i : Int) gq vi B (xs ++ ahQ t' p i) _ QH6.out HNQ.out).mono ?_; rintro e w7 ⟨rfl, v7, hq7, hb7, hk7, hat7⟩; have SH7 := Aside0.mk (SH6.out.keptQ QH6.out hk7); have QH7 := Aside0.mk hq7; have HB7 := Aside0.mk (HB6.out.trans hb7); have HK7 := Aside0.mk (HK6.out.then_ hk7 (fun y hy => (HVI.out y hy).1)); have K47 := Aside0.mk (blk_kept K46.out hk7 (fun hy => (HVI.out _ hy).2.1 rfl)); have K77 := Aside0.mk (blk_kept K76.out hk7 (fun hy => (HVI.out _ hy).2.2 rfl)); have AT7 : Aside0 (v7.ownBlock = vq.ownBlock ∨ ∃ k, v7.ownBlock = some k ∧ g4 < k) := ⟨hat7.elim (fun ha => by rw [ha]; exact AT.out) (fun ⟨y, ha, hb⟩ => .inr ⟨y, ha, Nat.lt_of_lt_of_le (blk_lt K46.out) hb⟩)⟩; clear hq7 hb7 hk7 hat7)
    | fail)
   (try simp only [Act.put, List.setIfInBounds_toArray, List.set_cons_zero, List.set_cons_succ])
   have RW : Aside0 (RowAt w7 B p.cb (.slice (some ⟨p.cb, 0, none⟩) L p.cc) (ahC c x p i)) := ⟨by have h2 := (SH7.out.rows t' _ HE.out.2.1).2.2.2; unfold SRow.cv ahP at h2; simp only [ahC_len] at h2; rw [HL.out]; exact h2⟩
   obtain ⟨hBp, cellsp, hcp⟩ := RowAt.blk (show RowAt w7 B p.cb (.slice (some ⟨p.cb, 0, none⟩) (ahC c x p i).length p.cc) (ahC c x p i) by rw [ahC_len, ← HL.out]; exact RW.out) (by rw [ahC_len]; have := AI.out; omega)
   have HBP := Aside0.mk hBp
   have HCP := Aside0.mk hcp
   have CG : Aside0 (w7.cell? ⟨σ.gs, 1, none⟩ = some (.slice (some ⟨σ.bC, 0, none⟩) n σ.cC) ∧ w7.cell? ⟨σ.bC, t', none⟩ = some (.slice (some ⟨p.cb, 0, none⟩) L p.cc) ∧ w7.cell? ⟨g7, 0, none⟩ = some (.int .i64 (t' : Int)) ∧ w7.cell? ⟨g7, 1, none⟩ = some (.int .i64 (i : Int))) := ⟨by rw [← HE.out.2.2.2]; exact SH7.out.c1, by have h2 := SH7.out.crow HE.out.2.1; unfold SRow.cv ahP at h2; simp only [ahC_len] at h2; rw [HL.out]; exact h2, (blk_cell K77.out 0).trans rfl, (blk_cell K77.out 1).trans rfl⟩
   clear hBp hcp
   refine start_ (n := 13) (S := (fun w' => w'.cell? ⟨σ.gs, 1, none⟩ = some (.slice (some ⟨σ.bC, 0, none⟩) n σ.cC) ∧ w'.cell? ⟨σ.bC, t', none⟩ = some (.slice (some ⟨p.cb, 0, none⟩) L p.cc) ∧ w'.cell? ⟨g7, 0, none⟩ = some (.int .i64 (t' : Int)) ∧ w'.cell? ⟨g7, 1, none⟩ = some (.int .i64 (i : Int)))) (ds := [12]) (rowB 13 0) (by kernel_rfl) rfl rfl CG.out (fun hHeld => ?_)
   refine pure_ (i := 0) (N := some 72) (v := ?_) (a' := ?_) (rowB 13 1) rfl rfl (by kernel_rfl) (fun _ _ _ h => h) (Or.inl ⟨by rfl, ?_⟩) ?_ ?_
   rotate_left
   ·
    intro w'
    go_simp
    with_reducible rfl
   rotate_left
   ·
    simp only [Act.put, List.setIfInBounds_toArray, List.set_cons_zero, List.set_cons_succ, i64_w, i32_w]
    rfl
   refine pure_ (i := 1) (N := some 73) (v := ?_) (a' := ?_) (rowB 13 3) rfl rfl (by kernel_rfl) (fun _ _ _ h => h) (Or.inl ⟨by rfl, ?_⟩) ?_ ?_
   rotate_left
   ·
    intro w'
    go_simp
    with_reducible rfl
   rotate_left
   ·
    simp only [Act.put, List.setIfInBounds_toArray, List.set_cons_zero, List.set_cons_succ, i64_w, i32_w]
    rfl
   refine pure_ (i := 2) (N := some 74) (v := ?_) (a' := ?_) (rowB 13 7) rfl rfl (by kernel_rfl) (fun _ _ _ h => h) (Or.inl ⟨by rfl, ?_⟩) ?_ ?_
   rotate_left
   ·
    intro w'
    go_simp
    with_reducible rfl
   rotate_left
   ·
    simp only [Act.put, List.setIfInBounds_toArray, List.set_cons_zero, List.set_cons_succ, i64_w, i32_w]
    rfl
   refine take_ (i := 3) (N := some 75) (v := ?_) (a' := ?_) (rowB 13 15) rfl rfl (by kernel_rfl) (fun _ _ _ h => h) (Or.inl ⟨by rfl, ?_⟩) hHeld ?_ ?_
   rotate_left
   ·
    rintro w' ⟨s0, s1, s2, s3⟩
    go_simp
    with_reducible rfl
   rotate_left
   ·
    simp only [Act.put, List.setIfInBounds_toArray, List.set_cons_zero, List.set_cons_succ, i64_w, i32_w]
    rfl
   refine pure_ (i := 4) (N := some 76) (v := ?_) (a' := ?_) (rowB 13 31) rfl rfl (by kernel_rfl) (fun _ _ _ h => h) (Or.inl ⟨by rfl, ?_⟩) ?_ ?_
   rotate_left
   ·
    intro w'
    go_simp
    with_reducible rfl
   rotate_left
   ·
    simp only [Act.put, List.setIfInBounds_toArray, List.set_cons_zero, List.set_cons_succ, i64_w, i32_w]
    rfl
   refine take_ (i := 5) (N := some 77) (v := ?_) (a' := ?_) (rowB 13 63) rfl rfl (by kernel_rfl) (fun _ _ _ h => h) (Or.inl ⟨by rfl, ?_⟩) hHeld ?_ ?_
   rotate_left
   ·
    rintro w' ⟨s0, s1, s2, s3⟩
    go_simp
    with_reducible rfl
   rotate_left
   ·
    simp only [Act.put, List.setIfInBounds_toArray, List.set_cons_zero, List.set_cons_succ, i64_w, i32_w]
    rfl
   refine pure_ (i := 6) (N := some 78) (v := ?_) (a' := ?_) (rowB 13 127) rfl rfl (by kernel_rfl) (fun _ _ _ h => h) (Or.inl ⟨by rfl, ?_⟩) ?_ ?_
   rotate_left
   ·
    intro w'
    go_simp
    with_reducible rfl
   rotate_left
   ·
    simp only [Act.put, List.setIfInBounds_toArray, List.set_cons_zero, List.set_cons_succ, i64_w, i32_w]
    rfl
   refine take_ (i := 7) (N := some 79) (v := ?_) (a' := ?_) (rowB 13 255) rfl rfl (by kernel_rfl) (fun _ _ _ h => h) (Or.inl ⟨by rfl, ?_⟩) hHeld ?_ ?_
   rotate_left
   ·
    rintro w' ⟨s0, s1, s2, s3⟩
    go_simp
    with_reducible rfl
   rotate_left
   ·
    simp only [Act.put, List.setIfInBounds_toArray, List.set_cons_zero, List.set_cons_succ, i64_w, i32_w]
    rfl
   refine pure_ (i := 8) (N := some 80) (v := ?_) (a' := ?_) (rowB 13 511) rfl rfl (by kernel_rfl) (fun _ _ _ h => h) (Or.inl ⟨by rfl, ?_⟩) ?_ ?_
   rotate_left
   ·
    intro w'
    go_simp
    with_reducible rfl
   rotate_left
   ·
    simp only [Act.put, List.setIfInBounds_toArray, List.set_cons_zero, List.set_cons_succ, i64_w, i32_w]
    rfl
   refine take_ (i := 9) (N := some 81) (v := ?_) (a' := ?_) (rowB 13 1023) rfl rfl (by kernel_rfl) (fun _ _ _ h => h) (Or.inl ⟨by rfl, ?_⟩) hHeld ?_ ?_
   rotate_left
   ·
    rintro w' ⟨s0, s1, s2, s3⟩
    go_simp
    with_reducible rfl
   rotate_left
   ·
    simp only [Act.put, List.setIfInBounds_toArray, List.set_cons_zero, List.set_cons_succ, i64_w, i32_w]
    rfl
   refine pure_ (i := 10) (N := some 82) (v := ?_) (a' := ?_) (rowB 13 2047) rfl rfl (by kernel_rfl) (fun _ _ _ h => h) (Or.inl ⟨by rfl, ?_⟩) ?_ ?_
   rotate_left
   ·
    intro w'
    go_simp
    with_reducible rfl
   rotate_left
   ·
    simp only [Act.put, List.setIfInBounds_toArray, List.set_cons_zero, List.set_cons_succ, i64_w, i32_w]
    rfl
   refine pure_ (i := 11) (N := some 83) (v := ?_) (a' := ?_) (rowB 13 4095) rfl rfl (by kernel_rfl) (fun _ _ _ h => h) (Or.inl ⟨by rfl, ?_⟩) ?_ ?_
   rotate_left
   ·
    intro w'
    go_simp
    with_reducible rfl
   rotate_left
   ·
    simp only [Act.put, List.setIfInBounds_toArray, List.set_cons_zero, List.set_cons_succ, i64_w, i32_w]
    rfl
   refine last_ (i := 12) (N := none) (rowB 13 8191) rfl rfl (by kernel_rfl) (by decide) (fun K hK => ?_)
   refine int_store_step (by rfl) rfl (.tmp 83) (.tmp 82) rfl (by kernel_rfl) (g := p.cb) (B := B) (n := L) (c := p.cc) (ok := fun k => k = p.cb) (xs := ahC c x p i) i cost (Kd.R_drew RW.out) NX.out.2.2 rfl rfl ?_
   intro w8 hR8 hg8 hz8
   have hput := (SH7.out.below (below_drew (Below.refl _ _))).put HE.out.2.1 i cost (by have h2 : RowAt w8 B p.cb (.slice (some ⟨p.cb, 0, none⟩) L p.cc) ((ahC c x p i).set i cost) := hR8; rw [HL.out, ← ahC_len c x p i] at h2; exact h2) hg8
   have e : rs2.set t' { ahP c x p i with cs := (ahP c x p i).cs.set i cost } = rs.set t' (ahP c x p (i + 1)) := by rw [HE.out.1, List.set_set]; unfold ahP; simp only [ahC_succ c x p i AI.out, ← HD.out.1, ← HD.out.2.1, HUC.out]
   rw [e] at hput
   have SH8 := Aside0.mk hput
   have QH8 := Aside0.mk (QHas.grownInt (QH7.out.below (below_drew (Below.refl _ _))) (blk_drew HCP.out) hg8)
   have HB8 := Aside0.mk (below_grown (below_drew HB7.out) hg8 HBP.out (Nat.le_trans BL.out HB7.out.size))
   have HK8 := Aside0.mk (Kept.of_grown hg8 HK7.out.drew (fun y hy => .inl (.inr (Option.some.inj hy).symm)))
   have K48 := Aside0.mk (blk_grownInt (blk_drew K47.out) (blk_drew HCP.out) (by decide) hg8)
   clear hput e hR8 hg8 hz8
   refine hK.out _ _ ?_
   clear hK K
   refine done_ (by kernel_rfl) ?_
   go_wp2
   go_roundg (L - (i + 1))
   case measure => exact NX.out.1
   case rel => exact ⟨i + 1, v7, by simp, ⟨rfl, NX.out.2.1⟩, SH8, ⟨by rw [HAE.out, ← List.append_assoc]; exact QH8.out⟩, HB8, HK8, AT7, K48⟩
  have d5 : decide (k < 0) = false := decide_eq_false hk0
  have e : ahQ t' p (i + 1) = ahQ t' p i := by rw [HAQ.out, if_neg hk0, List.append_nil]
  have HAE := Aside0.mk e
  clear e
  by_cases hk1 : cost < k
  ·
   have d6 : decide (cost < k) = true := decide_eq_true hk1
   have e : updC c x h k = cost := by rw [HUP.out, if_pos (.inr hk1)]
   have HUC := Aside0.mk e
   clear hk0 hk1 e
   go_upto_region 11 with (first
    | fail)
   (try simp only [Act.put, List.setIfInBounds_toArray, List.set_cons_zero, List.set_cons_succ])
   have RW : Aside0 (RowAt w6 B p.cb (.slice (some ⟨p.cb, 0, none⟩) L p.cc) (ahC c x p i)) := ⟨by have h2 := (SH6.out.rows t' _ HE.out.2.1).2.2.2; unfold SRow.cv ahP at h2; simp only [ahC_len] at h2; rw [HL.out]; exact h2⟩
   obtain ⟨hBp, cellsp, hcp⟩ := RowAt.blk (show RowAt w6 B p.cb (.slice (some ⟨p.cb, 0, none⟩) (ahC c x p i).length p.cc) (ahC c x p i) by rw [ahC_len, ← HL.out]; exact RW.out) (by rw [ahC_len]; have := AI.out; omega)
   have HBP := Aside0.mk hBp
   have HCP := Aside0.mk hcp
   have CG : Aside0 (w6.cell? ⟨σ.gs, 1, none⟩ = some (.slice (some ⟨σ.bC, 0, none⟩) n σ.cC) ∧ w6.cell? ⟨σ.bC, t', none⟩ = some (.slice (some ⟨p.cb, 0, none⟩) L p.cc) ∧ w6.cell? ⟨g7, 0, none⟩ = some (.int .i64 (t' : Int)) ∧ w6.cell? ⟨g7, 1, none⟩ = some (.int .i64 (i : Int))) := ⟨by rw [← HE.out.2.2.2]; exact SH6.out.c1, by have h2 := SH6.out.crow HE.out.2.1; unfold SRow.cv ahP at h2; simp only [ahC_len] at h2; rw [HL.out]; exact h2, (blk_cell K76.out 0).trans rfl, (blk_cell K76.out 1).trans rfl⟩
   clear hBp hcp
   refine start_ (n := 13) (S := (fun w' => w'.cell? ⟨σ.gs, 1, none⟩ = some (.slice (some ⟨σ.bC, 0, none⟩) n σ.cC) ∧ w'.cell? ⟨σ.bC, t', none⟩ = some (.slice (some ⟨p.cb, 0, none⟩) L p.cc) ∧ w'.cell? ⟨g7, 0, none⟩ = some (.int .i64 (t' : Int)) ∧ w'.cell? ⟨g7, 1, none⟩ = some (.int .i64 (i : Int)))) (ds := [12]) (rowB 13 0) (by kernel_rfl) rfl rfl CG.out (fun hHeld => ?_)
   refine pure_ (i := 0) (N := some 72) (v := ?_) (a' := ?_) (rowB 13 1) rfl rfl (by kernel_rfl) (fun _ _ _ h => h) (Or.inl ⟨by rfl, ?_⟩) ?_ ?_
   rotate_left
   ·
    intro w'
    go_simp
    with_reducible rfl
   rotate_left
   ·
    simp only [Act.put, List.setIfInBounds_toArray, List.set_cons_zero, List.set_cons_succ, i64_w, i32_w]
    rfl
   refine pure_ (i := 1) (N := some 73) (v := ?_) (a' := ?_) (rowB 13 3) rfl rfl (by kernel_rfl) (fun _ _ _ h => h) (Or.inl ⟨by rfl, ?_⟩) ?_ ?_
   rotate_left
   ·
    intro w'
    go_simp
    with_reducible rfl
   rotate_left
   ·
    simp only [Act.put, List.setIfInBounds_toArray, List.set_cons_zero, List.set_cons_succ, i64_w, i32_w]
    rfl
   refine pure_ (i := 2) (N := some 74) (v := ?_) (a' := ?_) (rowB 13 7) rfl rfl (by kernel_rfl) (fun _ _ _ h => h) (Or.inl ⟨by rfl, ?_⟩) ?_ ?_
   rotate_left
   ·
    intro w'
    go_simp
    with_reducible rfl
   rotate_left
   ·
    simp only [Act.put, List.setIfInBounds_toArray, List.set_cons_zero, List.set_cons_succ, i64_w, i32_w]
    rfl
   refine take_ (i := 3) (N := some 75) (v := ?_) (a' := ?_) (rowB 13 15) rfl rfl (by kernel_rfl) (fun _ _ _ h => h) (Or.inl ⟨by rfl, ?_⟩) hHeld ?_ ?_
   rotate_left
   ·
    rintro w' ⟨s0, s1, s2, s3⟩
    go_simp
    with_reducible rfl
   rotate_left
   ·
    simp only [Act.put, List.setIfInBounds_toArray, List.set_cons_zero, List.set_cons_succ, i64_w, i32_w]
    rfl
   refine pure_ (i := 4) (N := some 76) (v := ?_) (a' := ?_) (rowB 13 31) rfl rfl (by kernel_rfl) (fun _ _ _ h => h) (Or.inl ⟨by rfl, ?_⟩) ?_ ?_
   rotate_left
   ·
    intro w'
    go_simp
    with_reducible rfl
   rotate_left
   ·
    simp only [Act.put, List.setIfInBounds_toArray, List.set_cons_zero, List.set_cons_succ, i64_w, i32_w]
    rfl
   refine take_ (i := 5) (N := some 77) (v := ?_) (a' := ?_) (rowB 13 63) rfl rfl (by kernel_rfl) (fun _ _ _ h => h) (Or.inl ⟨by rfl, ?_⟩) hHeld ?_ ?_
   rotate_left
   ·
    rintro w' ⟨s0, s1, s2, s3⟩
    go_simp
    with_reducible rfl
   rotate_left
   ·
    simp only [Act.put, List.setIfInBounds_toArray, List.set_cons_zero, List.set_cons_succ, i64_w, i32_w]
    rfl
   refine pure_ (i := 6) (N := some 78) (v := ?_) (a' := ?_) (rowB 13 127) rfl rfl (by kernel_rfl) (fun _ _ _ h => h) (Or.inl ⟨by rfl, ?_⟩) ?_ ?_
   rotate_left
   ·
    intro w'
    go_simp
    with_reducible rfl
   rotate_left
   ·
    simp only [Act.put, List.setIfInBounds_toArray, List.set_cons_zero, List.set_cons_succ, i64_w, i32_w]
    rfl
   refine take_ (i := 7) (N := some 79) (v := ?_) (a' := ?_) (rowB 13 255) rfl rfl (by kernel_rfl) (fun _ _ _ h => h) (Or.inl ⟨by rfl, ?_⟩) hHeld ?_ ?_
   rotate_left
   ·
    rintro w' ⟨s0, s1, s2, s3⟩
    go_simp
    with_reducible rfl
   rotate_left
   ·
    simp only [Act.put, List.setIfInBounds_toArray, List.set_cons_zero, List.set_cons_succ, i64_w, i32_w]
    rfl
   refine pure_ (i := 8) (N := some 80) (v := ?_) (a' := ?_) (rowB 13 511) rfl rfl (by kernel_rfl) (fun _ _ _ h => h) (Or.inl ⟨by rfl, ?_⟩) ?_ ?_
   rotate_left
   ·
    intro w'
    go_simp
    with_reducible rfl
   rotate_left
   ·
    simp only [Act.put, List.setIfInBounds_toArray, List.set_cons_zero, List.set_cons_succ, i64_w, i32_w]
    rfl
   refine take_ (i := 9) (N := some 81) (v := ?_) (a' := ?_) (rowB 13 1023) rfl rfl (by kernel_rfl) (fun _ _ _ h => h) (Or.inl ⟨by rfl, ?_⟩) hHeld ?_ ?_
   rotate_left
   ·
    rintro w' ⟨s0, s1, s2, s3⟩
    go_simp
    with_reducible rfl
   rotate_left
   ·
    simp only [Act.put, List.setIfInBounds_toArray, List.set_cons_zero, List.set_cons_succ, i64_w, i32_w]
    rfl
   refine pure_ (i := 10) (N := some 82) (v := ?_) (a' := ?_) (rowB 13 2047) rfl rfl (by kernel_rfl) (fun _ _ _ h => h) (Or.inl ⟨by rfl, ?_⟩) ?_ ?_
   rotate_left
   ·
    intro w'
    go_simp
    with_reducible rfl
   rotate_left
   ·
    simp only [Act.put, List.setIfInBounds_toArray, List.set_cons_zero, List.set_cons_succ, i64_w, i32_w]
    rfl
   refine pure_ (i := 11) (N := some 83) (v := ?_) (a' := ?_) (rowB 13 4095) rfl rfl (by kernel_rfl) (fun _ _ _ h => h) (Or.inl ⟨by rfl, ?_⟩) ?_ ?_
   rotate_left
   ·
    intro w'
    go_simp
    with_reducible rfl
   rotate_left
   ·
    simp only [Act.put, List.setIfInBounds_toArray, List.set_cons_zero, List.set_cons_succ, i64_w, i32_w]
    rfl
   refine last_ (i := 12) (N := none) (rowB 13 8191) rfl rfl (by kernel_rfl) (by decide) (fun K hK => ?_)
   refine int_store_step (by rfl) rfl (.tmp 83) (.tmp 82) rfl (by kernel_rfl) (g := p.cb) (B := B) (n := L) (c := p.cc) (ok := fun k => k = p.cb) (xs := ahC c x p i) i cost (Kd.R_drew RW.out) NX.out.2.2 rfl rfl ?_
   intro w8 hR8 hg8 hz8
   have hput := (SH6.out.below (below_drew (Below.refl _ _))).put HE.out.2.1 i cost (by have h2 : RowAt w8 B p.cb (.slice (some ⟨p.cb, 0, none⟩) L p.cc) ((ahC c x p i).set i cost) := hR8; rw [HL.out, ← ahC_len c x p i] at h2; exact h2) hg8
   have e : rs2.set t' { ahP c x p i with cs := (ahP c x p i).cs.set i cost } = rs.set t' (ahP c x p (i + 1)) := by rw [HE.out.1, List.set_set]; unfold ahP; simp only [ahC_succ c x p i AI.out, ← HD.out.1, ← HD.out.2.1, HUC.out]
   rw [e] at hput
   have SH8 := Aside0.mk hput
   have QH8 := Aside0.mk (QHas.grownInt (QH6.out.below (below_drew (Below.refl _ _))) (blk_drew HCP.out) hg8)
   have HB8 := Aside0.mk (below_grown (below_drew HB6.out) hg8 HBP.out (Nat.le_trans BL.out HB6.out.size))
   have HK8 := Aside0.mk (Kept.of_grown hg8 HK6.out.drew (fun y hy => .inl (.inr (Option.some.inj hy).symm)))
   have K48 := Aside0.mk (blk_grownInt (blk_drew K46.out) (blk_drew HCP.out) (by decide) hg8)
   clear hput e hR8 hg8 hz8
   refine hK.out _ _ ?_
   clear hK K
   refine done_ (by kernel_rfl) ?_
   go_wp2
   go_roundg (L - (i + 1))
   case measure => exact NX.out.1
   case rel => exact ⟨i + 1, vi, by simp, ⟨rfl, NX.out.2.1⟩, SH8, ⟨by rw [HAE.out]; exact QH8.out⟩, HB8, HK8, AT, K48⟩
  have d6 : decide (cost < k) = false := decide_eq_false hk1
  have e : updC c x h k = k := by rw [HUP.out, if_neg (by omega)]
  have e : ahP c x p (i + 1) = ahP c x p i := by unfold ahP; rw [ahC_same c x p i AI.out (by rw [← HD.out.1, ← HD.out.2.1]; exact e)]
  have HPE := Aside0.mk e
  clear hk0 hk1 e
  go_wp2
  go_roundg (L - (i + 1))
  case measure => exact NX.out.1
  case rel => exact ⟨i + 1, vi, by simp, ⟨rfl, NX.out.2.1⟩, ⟨by rw [HPE.out, ← HE.out.1]; exact SH6.out⟩, ⟨by rw [HAE.out]; exact QH6.out⟩, HB6, HK6, AT, K46⟩

end Go.Proofs.YtiagfjbngpbejaaDoor.Pure
namespace Go.Proofs.YtiagfjbngpbejaaDoor.Pure
set_option linter.unusedVariables false
set_option linter.unusedSimpArgs false
open Go Go.RowKit Go.Proofs.YtiagfjbngpbejaaDoor.PFnSingMany Go.Proofs.YtiagfjbngpbejaaDoorW.PrintWords Go.Proofs.YtiagfjbngpbejaaDoorW.PrintLast Go.Proofs.YtiagfjbngpbejaaDoorW.PrintMore

def stepRow (h h2 c2 : List Int) : Nat → List Int
 | 0 => List.replicate h.length (-1)
 | j + 1 => (List.range h.length).map (fun i => updC (c2.getD j 0) (h2.getD j 0) (h.getD i 0) ((stepRow h h2 c2 j).getD i 0))
def finC : List (List Int) → List Int
 | [] => []
 | h :: [] => List.replicate h.length 0
 | h :: h2 :: tl => stepRow h h2 (finC (h2 :: tl)) h2.length
def costAt (hs : List (List Int)) (t j i : Nat) : List Int := if t ≤ i then finC (hs.drop i) else if i + 1 = t then stepRow (hs.getD i []) (hs.getD t []) (finC (hs.drop t)) j else List.replicate (hs.getD i []).length (-1)
def rowQ (t : Nat) (j n : Nat) : List (Int × Int) := (List.range n).map (fun i => ((t : Int), ((j + i : Nat) : Int)))
def queAt (hs : List (List Int)) (t j : Nat) : List (Int × Int) := rowQ t j ((hs.getD t []).length - j) ++ (if j = 0 ∨ t = 0 then [] else rowQ (t - 1) 0 (hs.getD (t - 1) []).length)
def Rows (hs : List (List Int)) (rs : List SRow) (f : Nat → List Int) : Prop := rs.length = hs.length ∧ ∀ (i : Nat) (r : SRow), rs[i]? = some r → r.hx = hs.getD i [] ∧ r.cs = f i
def PInv (hs : List (List Int)) (rs : List SRow) (xs : List (Int × Int)) (t j : Nat) : Prop := t < hs.length ∧ j < (hs.getD t []).length ∧ Rows hs rs (costAt hs t j) ∧ xs = queAt hs t j
def PFin (hs : List (List Int)) (rs : List SRow) : Prop := Rows hs rs (fun i => finC (hs.drop i))
def singM (hs : List (List Int)) (t j : Nat) : Nat := t * 8 + ((hs.getD t []).length - j)
theorem stepRow_len (h h2 c2 : List Int) : ∀ j, (stepRow h h2 c2 j).length = h.length
 | 0 => by simp [stepRow]
 | j + 1 => by simp [stepRow]
theorem stepRow_zero (h h2 c2 : List Int) (i : Nat) (hi : i < h.length) : (stepRow h h2 c2 0).getD i 0 = -1 := by
 rw [List.getD_eq_getElem?_getD, stepRow, List.getElem?_replicate, if_pos hi]
 rfl
theorem stepRow_succ (h h2 c2 : List Int) (j i : Nat) (hi : i < h.length) : (stepRow h h2 c2 (j + 1)).getD i 0 = updC (c2.getD j 0) (h2.getD j 0) (h.getD i 0) ((stepRow h h2 c2 j).getD i 0) := by
 rw [List.getD_eq_getElem?_getD, stepRow, List.getElem?_map, List.getElem?_range hi]
 rfl
theorem updC_bound {c x h k b : Int} (hc : 0 ≤ c ∧ c ≤ b) (hk : k < 0 ∨ (0 ≤ k ∧ k ≤ b + 1)) : 0 ≤ updC c x h k ∧ updC c x h k ≤ b + 1 := by
 unfold updC
 split <;> split <;> omega
theorem stepRow_bound (h h2 c2 : List Int) (b : Int) : ∀ j, (∀ i, i < j → 0 ≤ c2.getD i 0 ∧ c2.getD i 0 ≤ b) → ∀ i, i < h.length → (j = 0 ∧ (stepRow h h2 c2 j).getD i 0 = -1) ∨ (0 ≤ (stepRow h h2 c2 j).getD i 0 ∧ (stepRow h h2 c2 j).getD i 0 ≤ b + 1)
 | 0, _, i, hi => .inl ⟨rfl, stepRow_zero h h2 c2 i hi⟩
 | j + 1, hb, i, hi => by
  refine .inr ?_
  rw [stepRow_succ h h2 c2 j i hi]
  refine updC_bound (hb j (by omega)) ?_
  rcases stepRow_bound h h2 c2 b j (fun i hi => hb i (by omega)) i hi with ⟨_, h1⟩ | h1
  ·
   exact .inl (by omega)
  ·
   exact .inr h1
theorem finC_len : ∀ (hs : List (List Int)) (h : List Int), (finC (h :: hs)).length = h.length
 | [], h => by simp [finC]
 | h2 :: tl, h => by simp [finC, stepRow_len]
theorem finC_bound : ∀ (hs : List (List Int)), (∀ h ∈ hs, h ≠ []) → ∀ h, (∀ i, i < h.length → 0 ≤ (finC (h :: hs)).getD i 0 ∧ (finC (h :: hs)).getD i 0 ≤ (hs.length : Int))
 | [], _, h, i, hi => by
  have e : (finC (h :: [])).getD i 0 = 0 := by
   rw [List.getD_eq_getElem?_getD, finC, List.getElem?_replicate, if_pos hi]
   rfl
  rw [e]
  simp
 | h2 :: tl, hne, h, i, hi => by
  have h2n : 0 < h2.length := List.length_pos_iff.2 (hne h2 (by simp))
  have ih := finC_bound tl (fun x hx => hne x (by simp [hx])) h2
  have := stepRow_bound h h2 (finC (h2 :: tl)) (tl.length : Int) h2.length (fun i hi => ih i hi) i hi
  rw [show finC (h :: h2 :: tl) = stepRow h h2 (finC (h2 :: tl)) h2.length from rfl]
  simp only [List.length_cons, Int.natCast_add, Int.natCast_one]
  rcases this with ⟨h0, _⟩ | h0
  ·
   omega
  ·
   exact h0
theorem drop_cons {α : Type} (hs : List α) (d : α) (t : Nat) (ht : t < hs.length) : hs.drop t = hs.getD t d :: hs.drop (t + 1) := by
 rw [List.getD_eq_getElem?_getD, List.getElem?_eq_getElem ht]
 exact List.drop_eq_getElem_cons ht
theorem finC_at (hs : List (List Int)) (hne : ∀ h ∈ hs, h ≠ []) (t : Nat) (ht : t < hs.length) : (finC (hs.drop t)).length = (hs.getD t []).length ∧ ∀ j, j < (hs.getD t []).length → 0 ≤ (finC (hs.drop t)).getD j 0 ∧ (finC (hs.drop t)).getD j 0 ≤ (hs.length : Int) := by
 rw [drop_cons hs [] t ht]
 refine ⟨finC_len _ _, fun j hj => ?_⟩
 have h := finC_bound (hs.drop (t + 1)) (fun x hx => hne x (List.mem_of_mem_drop hx)) (hs.getD t []) j hj
 have : (hs.drop (t + 1)).length ≤ hs.length := by rw [List.length_drop]; omega
 omega
theorem finC_step (hs : List (List Int)) (t : Nat) (ht : t + 1 < hs.length) : finC (hs.drop t) = stepRow (hs.getD t []) (hs.getD (t + 1) []) (finC (hs.drop (t + 1))) (hs.getD (t + 1) []).length := by
 rw [drop_cons hs [] t (by omega), drop_cons hs [] (t + 1) ht]
 rfl
theorem rowQ_cons (t j n : Nat) : rowQ t j (n + 1) = ((t : Int), (j : Int)) :: rowQ t (j + 1) n := by
 unfold rowQ
 rw [List.range_succ_eq_map, List.map_cons, List.map_map]
 congr 1
 refine List.map_congr_left (fun i _ => ?_)
 simp only [Function.comp]
 congr 2
 omega
theorem ahQ_neg (t : Nat) (p : SRow) : ∀ n, (∀ i, i < n → p.cs.getD i 0 < 0) → ahQ t p n = rowQ t 0 n
 | 0, _ => rfl
 | n + 1, h => by
  unfold ahQ
  rw [ahQ_neg t p n (fun i hi => h i (by omega)), if_pos (h n (by omega))]
  unfold rowQ
  rw [List.range_succ, List.map_append]
  simp
theorem ahQ_pos (t : Nat) (p : SRow) : ∀ n, (∀ i, i < n → 0 ≤ p.cs.getD i 0) → ahQ t p n = []
 | 0, _ => rfl
 | n + 1, h => by
  unfold ahQ
  rw [ahQ_pos t p n (fun i hi => h i (by omega)), if_neg (by have := h n (by omega); omega)]
  rfl
theorem ahC_full (c2 h2 : List Int) (h : List Int) (j : Nat) (p : SRow) (h1 : p.hx = h) (hc : p.cs = stepRow h h2 c2 j) : ahC (c2.getD j 0) (h2.getD j 0) p p.hx.length = stepRow h h2 c2 (j + 1) := by
 unfold ahC
 rw [stepRow, h1, hc]
 refine List.map_congr_left (fun i hi => ?_)
 rw [if_pos (List.mem_range.1 hi)]
theorem PInv.head {hs : List (List Int)} {rs : List SRow} {xs : List (Int × Int)} {a : Int × Int} {t j : Nat} (h : PInv hs rs (a :: xs) t j) : a = ((t : Int), (j : Int)) ∧ xs = rowQ t (j + 1) ((hs.getD t []).length - (j + 1)) ++ (if j = 0 ∨ t = 0 then [] else rowQ (t - 1) 0 (hs.getD (t - 1) []).length) := by
 obtain ⟨_, hj, _, hx⟩ := h
 unfold queAt at hx
 rw [show (hs.getD t []).length - j = ((hs.getD t []).length - (j + 1)) + 1 by omega, rowQ_cons] at hx
 injection hx with h1 h2
 exact ⟨h1, h2⟩
theorem costAt_hi {hs : List (List Int)} {t j i : Nat} (h : t ≤ i) : costAt hs t j i = finC (hs.drop i) := if_pos h
theorem costAt_mid {hs : List (List Int)} {t j i : Nat} (h : i + 1 = t) : costAt hs t j i = stepRow (hs.getD i []) (hs.getD t []) (finC (hs.drop t)) j := by
 unfold costAt
 rw [if_neg (by omega), if_pos h]
theorem costAt_lo {hs : List (List Int)} {t j i : Nat} (h : i + 1 < t) : costAt hs t j i = List.replicate (hs.getD i []).length (-1) := by
 unfold costAt
 rw [if_neg (by omega), if_neg (by omega)]
theorem Rows.congr {hs : List (List Int)} {rs : List SRow} {f g : Nat → List Int} (h : Rows hs rs f) (hfg : ∀ i, i < hs.length → f i = g i) : Rows hs rs g :=
 ⟨h.1, fun i r hr => ⟨(h.2 i r hr).1, by rw [(h.2 i r hr).2]; exact hfg i (by rw [← h.1]; exact (List.getElem?_eq_some_iff.1 hr).1)⟩⟩
/-- From the last place of a row to the first one of the row ahead. -/
theorem costAt_turn {hs : List (List Int)} {t : Nat} (ht : t + 1 < hs.length) (i : Nat) : costAt hs (t + 1) (hs.getD (t + 1) []).length i = costAt hs t 0 i := by
 rcases Nat.lt_or_ge t i with h | h
 ·
  rw [costAt_hi (by omega), costAt_hi (by omega)]
 ·
  rcases Nat.eq_or_lt_of_le h with h | h
  ·
   subst h
   rw [costAt_mid rfl, costAt_hi (Nat.le_refl _), finC_step hs i ht]
  ·
   rw [costAt_lo (by omega)]
   rcases Nat.eq_or_lt_of_le (show i + 1 ≤ t by omega) with h2 | h2
   ·
    rw [costAt_mid h2]
    rfl
   ·
    rw [costAt_lo h2]
/-- A place of the first row. -/
theorem PInv_zero {hs : List (List Int)} {rs : List SRow} {xs : List (Int × Int)} {a : Int × Int} {j : Nat} (h : PInv hs rs (a :: xs) 0 j) : (xs = [] ∧ PFin hs rs) ∨ (PInv hs rs xs 0 (j + 1) ∧ singM hs 0 (j + 1) < singM hs 0 j) := by
 have hh := h.head
 obtain ⟨ht, hj, hr, _⟩ := h
 have hr2 : ∀ j2, Rows hs rs (costAt hs 0 j2) := fun j2 => hr.congr (fun i _ => by rw [costAt_hi (Nat.zero_le _), costAt_hi (Nat.zero_le _)])
 have hxs := hh.2
 rw [if_pos (.inr rfl), List.append_nil] at hxs
 by_cases e : j + 1 < (hs.getD 0 []).length
 ·
  refine .inr ⟨⟨ht, e, hr2 _, ?_⟩, ?_⟩
  ·
   rw [hxs]
   unfold queAt
   rw [if_pos (.inr rfl), List.append_nil]
  ·
   unfold singM
   omega
 ·
  refine .inl ⟨?_, hr.congr (fun i _ => costAt_hi (Nat.zero_le _))⟩
  rw [hxs, show (hs.getD 0 []).length - (j + 1) = 0 by omega]
  rfl
/-- A place of a later row: what 'ahead' makes of the row ahead of it. -/
theorem PInv_succ {hs : List (List Int)} (hne : ∀ h ∈ hs, h ≠ []) (h7 : ∀ h ∈ hs, h.length ≤ 7) {rs : List SRow} {xs : List (Int × Int)} {a : Int × Int} {t j : Nat} (h : PInv hs rs (a :: xs) (t + 1) j) {r p : SRow} (hr : rs[t + 1]? = some r) (hp : rs[t]? = some p) :
 (0 ≤ r.cs.getD j 0 ∧ r.cs.getD j 0 ≤ (hs.length : Int)) ∧ ∃ t2 j2, PInv hs (rs.set t (ahP (r.cs.getD j 0) (r.hx.getD j 0) p p.hx.length)) (xs ++ ahQ t p p.hx.length) t2 j2 ∧ singM hs t2 j2 < singM hs (t + 1) j := by
 have hh := h.head
 obtain ⟨ht, hj, hR, _⟩ := h
 obtain ⟨r1, r2⟩ := hR.2 _ _ hr
 obtain ⟨p1, p2⟩ := hR.2 _ _ hp
 rw [costAt_hi (Nat.le_refl _)] at r2
 rw [costAt_mid rfl] at p2
 have hmem : hs.getD t [] ∈ hs := by
  rw [List.getD_eq_getElem?_getD, List.getElem?_eq_getElem (show t < hs.length by omega)]
  exact List.getElem_mem _
 have hpn : 0 < (hs.getD t []).length := List.length_pos_iff.2 (hne _ hmem)
 have hp7 := h7 _ hmem
 have hb := (finC_at hs hne (t + 1) ht).2
 have hset : ahP (r.cs.getD j 0) (r.hx.getD j 0) p p.hx.length = { p with cs := stepRow (hs.getD t []) (hs.getD (t + 1) []) (finC (hs.drop (t + 1))) (j + 1) } := by
  unfold ahP
  rw [r1, r2, ahC_full (finC (hs.drop (t + 1))) (hs.getD (t + 1) []) (hs.getD t []) j p p1 p2]
 have hrows : Rows hs (rs.set t (ahP (r.cs.getD j 0) (r.hx.getD j 0) p p.hx.length)) (costAt hs (t + 1) (j + 1)) := by
  rw [hset]
  refine ⟨by rw [List.length_set]; exact hR.1, fun i x hx => ?_⟩
  rcases set_row hx with ⟨rfl, rfl⟩ | ⟨hi, hx⟩
  ·
   exact ⟨p1, by rw [costAt_mid rfl]⟩
  ·
   obtain ⟨x1, x2⟩ := hR.2 i x hx
   refine ⟨x1, x2.trans ?_⟩
   rcases Nat.lt_or_ge t i with h | h
   ·
    rw [costAt_hi (by omega), costAt_hi (by omega)]
   ·
    rw [costAt_lo (by omega), costAt_lo (by omega)]
 have hq : xs ++ ahQ t p p.hx.length = rowQ (t + 1) (j + 1) ((hs.getD (t + 1) []).length - (j + 1)) ++ rowQ t 0 (hs.getD t []).length := by
  rw [hh.2, p1]
  by_cases hj0 : j = 0
  ·
   subst hj0
   rw [if_pos (.inl rfl), List.append_nil, ahQ_neg t p _ (fun i hi => by rw [p2, stepRow_zero _ _ _ i hi]; omega)]
  ·
   rw [if_neg (by omega), Nat.add_sub_cancel, List.append_assoc, ahQ_pos t p _ (fun i hi => ?_), List.append_nil]
   rw [p2]
   rcases stepRow_bound (hs.getD t []) (hs.getD (t + 1) []) (finC (hs.drop (t + 1))) (hs.length : Int) j (fun i hi => hb i (by omega)) i hi with ⟨h0, _⟩ | h0
   ·
    exact absurd h0 hj0
   ·
    exact h0.1
 refine ⟨by rw [r2]; exact hb j hj, ?_⟩
 by_cases e : j + 1 < (hs.getD (t + 1) []).length
 ·
  refine ⟨t + 1, j + 1, ⟨ht, e, hrows, ?_⟩, by unfold singM; omega⟩
  rw [hq]
  unfold queAt
  rw [if_neg (by omega), Nat.add_sub_cancel]
 ·
  have ej : j + 1 = (hs.getD (t + 1) []).length := by omega
  refine ⟨t, 0, ⟨by omega, hpn, ?_, ?_⟩, by unfold singM; omega⟩
  ·
   rw [ej] at hrows
   exact hrows.congr (fun i _ => costAt_turn ht i)
  ·
   rw [hq, ← ej, Nat.sub_self]
   unfold queAt
   rw [if_pos (.inl rfl), List.append_nil, Nat.sub_zero]
   rfl
theorem PInv.ne {hs : List (List Int)} {rs : List SRow} {xs : List (Int × Int)} {t j : Nat} (h : PInv hs rs xs t j) : ∃ ys, xs = ((t : Int), (j : Int)) :: ys := by
 obtain ⟨_, hj, _, hx⟩ := h
 unfold queAt at hx
 rw [show (hs.getD t []).length - j = ((hs.getD t []).length - (j + 1)) + 1 by omega, rowQ_cons] at hx
 exact ⟨_, hx⟩
theorem PInv.qlen {hs : List (List Int)} (h7 : ∀ h ∈ hs, h.length ≤ 7) {rs : List SRow} {xs : List (Int × Int)} {t j : Nat} (h : PInv hs rs xs t j) : xs.length ≤ 14 := by
 obtain ⟨ht, hj, _, hx⟩ := h
 have l7 : ∀ i, (hs.getD i []).length ≤ 7 := fun i => by
  rw [List.getD_eq_getElem?_getD]
  rcases Nat.lt_or_ge i hs.length with hi | hi
  ·
   rw [List.getElem?_eq_getElem hi]
   exact h7 _ (List.getElem_mem _)
  ·
   rw [List.getElem?_eq_none hi]
   simp
 have h1 := l7 t
 have h2 := l7 (t - 1)
 rw [hx]
 unfold queAt rowQ
 rw [List.length_append, List.length_map, List.length_range]
 split
 ·
  rw [List.length_nil]
  omega
 ·
  rw [List.length_map, List.length_range]
  omega

end Go.Proofs.YtiagfjbngpbejaaDoor.Pure
namespace Go.Proofs.YtiagfjbngpbejaaDoor.Pure
set_option linter.unusedVariables false
set_option linter.unusedSimpArgs false
open Go Go.RowKit Go.Proofs.YtiagfjbngpbejaaDoor.PFnSingMany Go.Proofs.YtiagfjbngpbejaaDoorW.PrintWords Go.Proofs.YtiagfjbngpbejaaDoorW.PrintLast Go.Proofs.YtiagfjbngpbejaaDoorW.PrintMore

structure SBld (W : World) (B gs : Nat) (tH tC vH vC : Value) (LH LC : List (List Value)) (rs : List SRow) : Prop where
 base : B ≤ gs
 top : W.heap[gs]? = some (.cells #[tH, tC] 60 (0, 0))
 rH : (Kd.raw 1).R 26 W B (fun _ => True) vH LH
 rC : (Kd.raw 1).R 26 W B (fun _ => True) vC LC
 ne : NeRow vH vC
 rows : ∀ (i : Nat) (r : SRow), rs[i]? = some r → r.cs.length = r.hx.length ∧ 0 < r.hx.length ∧ RowAt W B r.hb r.hv r.hx ∧ RowAt W B r.cb r.cv r.cs
 apart : ∀ (i j : Nat) (r r' : SRow), rs[i]? = some r → rs[j]? = some r' → r.hb ≠ r'.cb ∧ (r.cb = r'.cb → i = j)
theorem infoSl : (Tryd.prog.info? 26).map (fun i => (i.zero, i.size, i.bytes)) = some (some (.slice none 0 0), 1, 24) := by kernel_rfl
section
variable {W W' : World} {B gs : Nat} {tH tC vH vC : Value} {LH LC : List (List Value)} {rs : List SRow}
theorem SBld.below (h : SBld W B gs tH tC vH vC LH LC rs) (hb : Below W.heap.size W W') : SBld W' B gs tH tC vH vC LH LC rs :=
 ⟨h.base, blk_below h.top hb, Kd.R_below h.rH hb, Kd.R_below h.rC hb, h.ne, fun i r hr => ⟨(h.rows i r hr).1, (h.rows i r hr).2.1, (h.rows i r hr).2.2.1.below hb, (h.rows i r hr).2.2.2.below hb⟩, h.apart⟩
theorem SBld.blks (h : SBld W B gs tH tC vH vC LH LC rs) (i : Nat) (r : SRow) (hr : rs[i]? = some r) : (∃ cells : Array Value, W.heap[r.hb]? = some (.cells cells 3 (0, 0))) ∧ ∃ cells : Array Value, W.heap[r.cb]? = some (.cells cells 3 (0, 0)) := by
 obtain ⟨a1, a2, a3, a4⟩ := h.rows i r hr
 exact ⟨(RowAt.blk a3 a2).2, (RowAt.blk a4 (by omega)).2⟩
theorem SBld.lt (h : SBld W B gs tH tC vH vC LH LC rs) (i : Nat) (r : SRow) (hr : rs[i]? = some r) : r.hb < W.heap.size ∧ r.cb < W.heap.size := by
 obtain ⟨⟨_, h1⟩, ⟨_, h2⟩⟩ := h.blks i r hr
 exact ⟨blk_lt h1, blk_lt h2⟩
theorem raw_apart {v u : Value} {LV LU : List (List Value)} (hU : (Kd.raw 1).R 26 W B (fun _ => True) u LU) (hne : NeRow v u) (hg : W.grownBy W' v.ownBlock) : (Kd.raw 1).R 26 W' B (fun _ => True) u LU :=
 Kd.R_mono (Kd.R_grown (Kd.R_tight rfl hU) hg (fun k hk e => hne k e.symm hk.symm)) (fun _ _ => trivial)
theorem SBld.rowsG (h : SBld W B gs tH tC vH vC LH LC rs) {g : Option Nat} (hg : W.grownBy W' g) (hty : ∀ (k : Nat) (cells : Array Value), W.heap[k]? = some (.cells cells 3 (0, 0)) → some k ≠ g) : ∀ (i : Nat) (r : SRow), rs[i]? = some r → r.cs.length = r.hx.length ∧ 0 < r.hx.length ∧ RowAt W' B r.hb r.hv r.hx ∧ RowAt W' B r.cb r.cv r.cs := by
 intro i r hr
 obtain ⟨⟨c1, h1⟩, ⟨c2, h2⟩⟩ := h.blks i r hr
 obtain ⟨a1, a2, a3, a4⟩ := h.rows i r hr
 exact ⟨a1, a2, a3.grown hg (hty _ _ h1), a4.grown hg (hty _ _ h2)⟩
theorem SBld.appH (h : SBld W B gs tH tC vH vC LH LC rs) {v : Value} {x : List Value} (hR : (Kd.raw 1).R 26 W' B (fun _ => True) v (LH ++ [x])) (hg : W.grownBy W' vH.ownBlock) (hat : v.ownBlock = vH.ownBlock ∨ ∃ b, v.ownBlock = some b ∧ W.heap.size ≤ b) : SBld W' B gs tH tC v vC (LH ++ [x]) LC rs := by
 obtain ⟨inner, ho⟩ := Kd.R_own h.rC
 exact ⟨h.base, blk_grown h.top hg (Kd.R_ne h.rH h.top (by decide)), hR, raw_apart (LV := LH) h.rC h.ne hg, ne_append h.ne hat ho, h.rowsG hg (fun k cells hk => Kd.R_ne h.rH hk (by decide)), h.apart⟩
theorem SBld.appC (h : SBld W B gs tH tC vH vC LH LC rs) {v : Value} {x : List Value} (hR : (Kd.raw 1).R 26 W' B (fun _ => True) v (LC ++ [x])) (hg : W.grownBy W' vC.ownBlock) (hat : v.ownBlock = vC.ownBlock ∨ ∃ b, v.ownBlock = some b ∧ W.heap.size ≤ b) : SBld W' B gs tH tC vH v LH (LC ++ [x]) rs := by
 obtain ⟨inner, ho⟩ := Kd.R_own h.rH
 exact ⟨h.base, blk_grown h.top hg (Kd.R_ne h.rC h.top (by decide)), raw_apart (LV := LC) h.rH (ne_symm h.ne) hg, hR, ne_append' h.ne hat ho, h.rowsG hg (fun k cells hk => Kd.R_ne h.rC hk (by decide)), h.apart⟩
theorem SBld.setTop (h : SBld W B gs tH tC vH vC LH LC rs) {uH uC : Value} (hb : W'.heap[gs]? = some (.cells #[uH, uC] 60 (0, 0))) (hg : W.grownBy W' (some gs)) : SBld W' B gs uH uC vH vC LH LC rs := by
 have nH : some gs ≠ vH.ownBlock := Kd.R_ne h.rH h.top (by decide)
 have nC : some gs ≠ vC.ownBlock := Kd.R_ne h.rC h.top (by decide)
 refine ⟨h.base, hb, Kd.R_mono (Kd.R_grown (Kd.R_tight rfl h.rH) hg (fun k hk e => nH (e.symm.trans hk))) (fun _ _ => trivial), Kd.R_mono (Kd.R_grown (Kd.R_tight rfl h.rC) hg (fun k hk e => nC (e.symm.trans hk))) (fun _ _ => trivial), h.ne, h.rowsG hg (fun k cells hk e => ?_), h.apart⟩
 have e := Option.some.inj e
 subst e
 have h1 := h.top
 rw [hk] at h1
 injection h1 with h1
 injection h1 with _ h1
 revert h1
 decide
theorem SBld.addRow (h : SBld W B gs tH tC vH vC LH LC rs) (r : SRow) (h1 : r.cs.length = r.hx.length) (h2 : 0 < r.hx.length) (h3 : RowAt W B r.hb r.hv r.hx) (h4 : RowAt W B r.cb r.cv r.cs) {N : Nat} (hN : ∀ (i : Nat) (r' : SRow), rs[i]? = some r' → r'.hb < N ∧ r'.cb < N) (hh : N ≤ r.hb) (hc : N ≤ r.cb) (hne : r.hb ≠ r.cb) : SBld W B gs tH tC vH vC LH LC (rs ++ [r]) := by
 have split : ∀ (i : Nat) (x : SRow), (rs ++ [r])[i]? = some x → rs[i]? = some x ∨ (i = rs.length ∧ x = r) := by
  intro i x hx
  rcases Nat.lt_or_ge i rs.length with hi | hi
  ·
   rw [List.getElem?_append_left hi] at hx
   exact .inl hx
  ·
   rw [List.getElem?_append_right hi] at hx
   have : i - rs.length = 0 := by
    rcases Nat.eq_zero_or_pos (i - rs.length) with h0 | h0
    ·
     exact h0
    ·
     rw [List.getElem?_eq_none (by simp; omega)] at hx
     cases hx
   rw [this] at hx
   exact .inr ⟨by omega, (Option.some.inj hx).symm⟩
 refine ⟨h.base, h.top, h.rH, h.rC, h.ne, fun i x hx => ?_, fun i j x y hx hy => ?_⟩
 ·
  rcases split i x hx with hx | ⟨_, rfl⟩
  ·
   exact h.rows i x hx
  ·
   exact ⟨h1, h2, h3, h4⟩
 ·
  rcases split i x hx with hx2 | ⟨ei, rfl⟩ <;> rcases split j y hy with hy2 | ⟨ej, rfl⟩
  ·
   exact h.apart i j x y hx2 hy2
  ·
   exact ⟨by have := (hN i x hx2).1; omega, fun e => by have := (hN i x hx2).2; omega⟩
  ·
   exact ⟨by have := (hN j y hy2).2; omega, fun e => by have := (hN j y hy2).2; omega⟩
  ·
   exact ⟨hne, fun _ => by omega⟩
theorem raw_row {v : Value} {f : SRow → Value} (h : (Kd.raw 1).R 26 W B (fun _ => True) v (rs.map (fun r => [f r]))) (hn : 0 < rs.length) : ∃ b c, v = .slice (some ⟨b, 0, none⟩) rs.length c ∧ ∃ cells : Array Value, W.heap[b]? = some (.cells cells 26 (0, 0)) ∧ ∀ (i : Nat) (r : SRow), rs[i]? = some r → cells[i]? = some (f r) := by
 obtain ⟨b, c, rfl, _, _, cells, hc⟩ := Kd.R_form h (by rw [List.length_map]; exact hn)
 refine ⟨b, c, by rw [List.length_map], cells, hc, fun i r hr => ?_⟩
 obtain ⟨ad, ea, hcc⟩ := (Kd.R_reads' h).2.2.2.2 (by rw [List.length_map]; exact hn)
 obtain rfl := Option.some.inj ea
 obtain ⟨cs, hcl, hK, hx⟩ := hcc i [f r] (by rw [List.getElem?_map, hr]; rfl)
 have e : cs = [f r] := hK.1
 subst e
 have := hx 0 _ rfl
 rw [show (Kd.raw 1).sz = 1 from rfl, Nat.mul_one, Nat.add_zero, Addr.add_lit, Nat.zero_add, blk_cell hc] at this
 exact this
theorem SBld.has (h : SBld W B gs vH vC vH vC (rs.map (fun r => [r.hv])) (rs.map (fun r => [r.cv])) rs) (hn : 0 < rs.length) : ∃ σ : Sg, σ.gs = gs ∧ SHas W B σ rs := by
 obtain ⟨bH, cH, rfl, cellsH, h1, h2⟩ := raw_row h.rH hn
 obtain ⟨bC, cC, rfl, cellsC, h3, h4⟩ := raw_row h.rC hn
 exact ⟨⟨gs, bH, cH, bC, cC⟩, rfl, h.base, h.top, ⟨cellsH, cellsC, h1, h3, fun i r hr => ⟨h2 i r hr, h4 i r hr⟩⟩, h.rows, h.apart⟩
end

end Go.Proofs.YtiagfjbngpbejaaDoor.Pure
namespace Go.Proofs.YtiagfjbngpbejaaDoor.Pure
set_option linter.unusedVariables false
set_option linter.unusedSimpArgs false
open Go Go.RowKit Go.Proofs.YtiagfjbngpbejaaDoor.PFnSingMany Go.Proofs.YtiagfjbngpbejaaDoorW.PrintWords Go.Proofs.YtiagfjbngpbejaaDoorW.PrintLast Go.Proofs.YtiagfjbngpbejaaDoorW.PrintMore

theorem getElem?_snoc {α : Type} (l : List α) (x : α) (i : Nat) (y : α) (h : (l ++ [x])[i]? = some y) : l[i]? = some y ∨ (i = l.length ∧ y = x) := by
 rcases Nat.lt_or_ge i l.length with hi | hi
 ·
  rw [List.getElem?_append_left hi] at h
  exact .inl h
 ·
  rw [List.getElem?_append_right hi] at h
  have : i - l.length = 0 := by
   rcases Nat.eq_zero_or_pos (i - l.length) with h0 | h0
   ·
    exact h0
   ·
    rw [List.getElem?_eq_none (by simp; omega)] at h
    cases h
  rw [this] at h
  exact .inr ⟨by omega, (Option.some.inj h).symm⟩
theorem two_set (a b : Int) (n j : Nat) (hj : j < n) : (List.replicate j a ++ List.replicate (n - j) b).set j a = List.replicate (j + 1) a ++ List.replicate (n - (j + 1)) b := by
 rw [List.set_append_right _ _ (by simp), List.length_replicate, Nat.sub_self, show n - j = (n - (j + 1)) + 1 by omega, List.replicate_succ, List.set_cons_zero, List.replicate_succ', List.append_assoc]
 rfl
/-- A row that was made just now, in its block. -/
theorem RowAt.of {W : World} {B b base n c : Nat} {xs : List Int} {ok : Nat → Prop} (h : (Kd.int .i64).R 3 W base ok (.slice (some ⟨b, 0, none⟩) n c) xs) (hB : B ≤ base) : RowAt W B b (.slice (some ⟨b, 0, none⟩) n c) xs :=
 Kd.R_reok rfl (Kd.R_lower h hB) (fun k hk => by simp [Value.ownBlock] at hk; exact hk.symm)
theorem rowQ_snoc (t n : Nat) : rowQ t 0 (n + 1) = rowQ t 0 n ++ [((t : Int), (n : Int))] := by
 unfold rowQ
 rw [List.range_succ, List.map_append]
 simp
theorem SHas.grownSpl {W W' : World} {B b : Nat} {σ : Sg} {rs : List SRow} {cells : Array Value} (h : SHas W B σ rs) (hc : W.heap[b]? = some (.cells cells 57 (0, 0))) (hg : W.grownBy W' (some b)) : SHas W' B σ rs := by
 refine h.kept (Kept.of_grown hg (Kept.refl W (fun k => k = b)) (fun k hk => .inl (Option.some.inj hk).symm)) (fun k c e hk hs => ?_)
 subst hs
 rw [hc] at hk
 injection hk with hk
 injection hk with _ hk
 subst hk
 exact ⟨by decide, by decide, by decide⟩
theorem QHas.off {W W' : World} {B gq b : Nat} {v : Value} {xs : List (Int × Int)} (h : QHas W B gq v xs) (hg : W.grownBy W' (some b)) (hn : ∀ k, QBl gq v k → k ≠ b) : QHas W' B gq v xs :=
 h.kept (Kept.of_grown hg (Kept.refl W (fun k => k = b)) (fun k hk => .inl (Option.some.inj hk).symm)) hn
theorem QHas.fresh {W : World} {B gq : Nat} {v : Value} {xs : List (Int × Int)} (h : QHas W B gq v xs) : ∀ k, QBl gq v k → k < W.heap.size := by
 intro k hk
 rcases hk with rfl | hk
 ·
  exact blk_lt h.2.1
 ·
  exact Kd.Q_lt h.2.2 k hk
theorem SHas.intOff {W : World} {B g : Nat} {σ : Sg} {rs : List SRow} (h : SHas W B σ rs) {cells : Array Value} (hc : W.heap[g]? = some (.cells cells 57 (0, 0))) {t : Nat} {p : SRow} (hp : rs[t]? = some p) : g ≠ p.cb := by
 obtain ⟨a1, a2, _, a4⟩ := h.rows t p hp
 obtain ⟨_, c, hb⟩ := RowAt.blk a4 (by omega)
 intro e
 subst e
 rw [hc] at hb
 injection hb with hb
 injection hb with _ hb
 revert hb
 decide
def lastR (r : SRow) (L i : Nat) : SRow := { r with cs := List.replicate i 0 ++ List.replicate (L - i) (-1) }
def hsOf (m : List S29) : List (List Int) := m.map hexAll
theorem hsOf_at (m : List S29) (i : Nat) (hi : i < m.length) : (hsOf m).getD i [] = hexAll (rd_T29 m (i : Int)) := by
 unfold hsOf rd_T29
 rw [List.getD_eq_getElem?_getD, List.getElem?_map, List.getElem?_eq_getElem hi, Int.toNat_natCast, List.getD_eq_getElem?_getD, List.getElem?_eq_getElem hi]
 rfl
theorem hexAll_len (t : S29) : (hexAll t).length ≤ 7 := Nat.le_trans (List.length_filter_le _ _) (by decide)
theorem hs7 (m : List S29) : ∀ h ∈ hsOf m, h.length ≤ 7 := by
 intro h hh
 obtain ⟨t, _, rfl⟩ := List.mem_map.1 hh
 exact hexAll_len t
set_option maxHeartbeats 40000000 in
set_option maxRecDepth 100000 in
theorem newSinging_calls (m : List S29) (A0 : Option Addr) (c0 : Nat) (w : World) (ht : NTab w) (hr0 : Kd.C k29 w A0 m.length m) (hc0 : m.length ≤ c0) (hm : m.length ≤ 24) (hm0 : 0 < m.length) (hne : ∀ t ∈ m, hexAll t ≠ []) :
 Calls Tryd.prog 25 #[.slice A0 m.length c0] w fun e w' => ∃ (σ : Sg) (rs : List SRow), e = .returned (.pointer (some ⟨σ.gs, 0, none⟩)) ∧ SHas w' w.heap.size σ rs ∧ PFin (hsOf m) rs ∧ Below w.heap.size w w' := by
 obtain ⟨ad, e1, -, -⟩ := at_T29 hr0 0 (Int.le_refl _) (by omega)
 subst e1
 have hne2 : ∀ h ∈ hsOf m, h ≠ [] := by
  intro h hh
  obtain ⟨t, ht, rfl⟩ := List.mem_map.1 hh
  exact hne t ht
 have hhl : (hsOf m).length = m.length := List.length_map ..
 have HM := Aside0.mk (And.intro hm (And.intro hm0 (And.intro hne (And.intro hne2 hhl))))
 have HT := Aside0.mk ht
 have HR0 := Aside0.mk hr0
 have hinf := info3
 clear ht hr0 hc0 hm hm0 hne hne2 hhl
 go_enter Tryd.func25, Tryd.ntmps25
 go_wp2_with (first
  | ((with_reducible refine gate_dst (N := 15) rfl ?_); refine box_event ?hg (N := 15) ?hd (cs := #[.slice none 0 0, .slice none 0 0]) (t := 60) ?hr ?_; (case hd => rfl); (case hg => rfl); (case hr => first | (go_simp; done) | (go_simp; rfl)); intro gs hg w1 hbox hb; have HB1 := Aside0.mk hb; have KS := Aside0.mk hbox; have GS : Aside0 (w.heap.size ≤ gs) := ⟨Nat.le_of_eq hg.symm⟩; clear hb hbox hg))
 go_loopg [18] m.length (fun kq v18 w' => ∃ (i : Nat) (vH vC : Value) (rs : List SRow), v18 = .int .i64 (i : Int) ∧ Aside0 (kq = m.length - i ∧ i ≤ m.length ∧ rs.length = i) ∧ Aside0 (SBld w' w.heap.size gs vH vC vH vC (rs.map (fun r => [r.hv])) (rs.map (fun r => [r.cv])) rs) ∧ Aside0 (∀ (j : Nat) (r : SRow), rs[j]? = some r → r.hx = hexAll (rd_T29 m (j : Int)) ∧ r.cs = List.replicate r.hx.length (-1)) ∧ Aside0 (Below w.heap.size w w'))
 case atStart => exact ⟨0, _, _, [], rfl, ⟨rfl, by omega, rfl⟩, ⟨⟨GS.out, KS.out, Kd.R_nil _ _ _ _ _, Kd.R_nil _ _ _ _ _, ne_nil _, fun i r hr => (by simp at hr), fun i j r r' hr => (by simp at hr)⟩⟩, ⟨fun j r hr => (by simp at hr)⟩, HB1⟩
 case round =>
  clear HB1 KS
  obtain ⟨i, vH, vC, rs, rfl, HX, SB, HC, HB⟩ := hrel
  obtain ⟨hkq, hil, hrl⟩ := HX.out
  clear HX
  by_cases hi : (i : Int) < (m.length : Int)
  rotate_left
  ·
   skip
   obtain rfl : i = m.length := by omega
   have d1 : decide ((m.length : Int) < (m.length : Int)) = false := decide_eq_false (by omega)
   obtain ⟨σ, hσ, hS⟩ := SB.out.has (by have := HM.out.2.1; omega)
   subst hσ
   have SH := Aside0.mk hS
   obtain ⟨last, hlast⟩ : ∃ l : Nat, m.length = l + 1 := ⟨m.length - 1, by have := HM.out.2.1; omega⟩
   have HLA := Aside0.mk hlast
   obtain ⟨r, hr⟩ : ∃ r, rs[last]? = some r := ⟨_, List.getElem?_eq_getElem (by omega)⟩
   obtain ⟨L, hL⟩ : ∃ L, L = r.hx.length := ⟨_, rfl⟩
   obtain ⟨n, hn⟩ : ∃ n, n = rs.length := ⟨_, rfl⟩
   have hr1 := HC.out last r hr
   obtain ⟨rr1, rr2, -, -⟩ := hS.rows last r hr
   have hL7 : L ≤ 7 := by rw [hL, hr1.1]; exact hexAll_len _
   have p1 : IntKind.i64.wrap ((m.length : Int) - 1) = (last : Int) := by have := HM.out.1; rw [Go.IntKind.wrap_i64]; omega
   have q0 := eq_true (show (0 : Int) ≤ (last : Int) by omega)
   have q1 := eq_true (show (last : Int) < (n : Int) by omega)
   have HRR := Aside0.mk (And.intro hr (And.intro hr1.1 (And.intro hr1.2 (And.intro rr1 (And.intro rr2 (And.intro hL (And.intro hL7 (And.intro hn hrl))))))))
   clear hS SB hlast hr hr1 rr1 rr2 hL hL7 hn hrl hkq hil hi
   go_wp2_with (first
    | ((with_reducible refine gate_dst (N := 58) rfl ?_); refine box_event ?hg (N := 58) ?hd (cs := #[.slice none 0 0]) (t := 77) ?hr ?_; (case hd => rfl); (case hg => rfl); (case hr => first | (go_simp; done) | (go_simp; rfl)); intro gq hg w2 hbox hb; have HB2 := Aside0.mk (below_step HB.out hb); have KQ := Aside0.mk hbox; have SH2 := Aside0.mk (SH.out.below hb); have GQ : Aside0 (w.heap.size ≤ gq) := ⟨by rw [hg]; exact HB.out.size⟩; have m0 : w2.cell? ⟨σ.gs, 0, none⟩ = some (.slice (some ⟨σ.bH, 0, none⟩) n σ.cH) := (by rw [HRR.out.2.2.2.2.2.2.2.1]; exact SH2.out.c0); have m1 : w2.cell? ⟨σ.bH, last, none⟩ = some (.slice (some ⟨r.hb, 0, none⟩) L r.hc) := (by rw [HRR.out.2.2.2.2.2.1]; exact SH2.out.hrow HRR.out.1); clear hb hbox hg))
   generalize hw2 : w2 = wq at *
   obtain ⟨e0⟩ : Aside0 (lastR r L 0 = r) := ⟨by unfold lastR; rw [show (List.replicate 0 (0 : Int) ++ List.replicate (L - 0) (-1)) = r.cs by rw [HRR.out.2.2.1, ← HRR.out.2.2.2.2.2.1]; simp]⟩
   go_loopg [70] L (fun kq v70 w' => ∃ (i : Nat) (vq : Value), v70 = .int .i64 (i : Int) ∧ Aside0 (kq = L - i ∧ i ≤ L) ∧ Aside0 (SHas w' w.heap.size σ (rs.set last (lastR r L i))) ∧ Aside0 (QHas w' w.heap.size gq vq (rowQ last 0 i)) ∧ Aside0 (Below w.heap.size w w'))
   case atStart => exact ⟨0, _, rfl, ⟨by omega⟩, ⟨by rw [e0, set_same HRR.out.1]; exact SH2.out⟩, ⟨⟨GQ.out, KQ.out, Kd.Q_nil _ _ _ _ _⟩⟩, HB2⟩
   case round =>
    clear HB2 KQ SH2 SH HB m0 m1 e0
    obtain ⟨i, vq, rfl, HX, SH, QH, HB⟩ := hrel
    obtain ⟨hkq, hiL⟩ := HX.out
    clear HX
    obtain ⟨rs2, hrs2⟩ : ∃ rs2, rs2 = rs.set last (lastR r L i) := ⟨_, rfl⟩
    have hr2 : rs2[last]? = some (lastR r L i) := by rw [hrs2, List.getElem?_set, if_pos rfl, if_pos (List.getElem?_eq_some_iff.1 HRR.out.1).1]
    have hn2 : rs2.length = n := by rw [hrs2, List.length_set, HRR.out.2.2.2.2.2.2.2.1]
    rw [← hrs2] at SH
    have HRS := Aside0.mk (And.intro hrs2 (And.intro hr2 hn2))
    have hcl : (lastR r L i).cs.length = L := by unfold lastR; simp; omega
    have HCL := Aside0.mk hcl
    by_cases hi : (i : Int) < (L : Int)
    ·
     have d1 : decide ((i : Int) < (L : Int)) = true := decide_eq_true hi
     have q2 := eq_true (show (0 : Int) ≤ (i : Int) by omega)
     have q3 := eq_true hi
     have p4 : IntKind.i64.wrap ((i : Int) + 1) = (i : Int) + 1 := by have := HRR.out.2.2.2.2.2.2.1; rw [Go.IntKind.wrap_i64]; omega
     have JX : Aside0 (L - (i + 1) < gk ∧ i + 1 ≤ L ∧ i < L) := ⟨by omega, by omega, by omega⟩
     have m0 : wr.cell? ⟨σ.gs, 1, none⟩ = some (.slice (some ⟨σ.bC, 0, none⟩) n σ.cC) := by rw [← hn2]; exact SH.out.c1
     have m1 : wr.cell? ⟨σ.bC, last, none⟩ = some (.slice (some ⟨r.cb, 0, none⟩) L r.cc) := by have h2 := SH.out.crow hr2; unfold SRow.cv at h2; rw [hcl] at h2; exact h2
     have RW : Aside0 (RowAt wr w.heap.size r.cb (.slice (some ⟨r.cb, 0, none⟩) L r.cc) (List.replicate i 0 ++ List.replicate (L - i) (-1))) := ⟨by have h2 := (SH.out.rows last _ hr2).2.2.2; unfold SRow.cv at h2; rw [hcl] at h2; exact h2⟩
     have h2 := RowAt.blk (show RowAt wr w.heap.size r.cb (.slice (some ⟨r.cb, 0, none⟩) (List.replicate i (0 : Int) ++ List.replicate (L - i) (-1)).length r.cc) (List.replicate i 0 ++ List.replicate (L - i) (-1)) by have h3 : (List.replicate i (0 : Int) ++ List.replicate (L - i) (-1)).length = L := hcl; rw [h3]; exact RW.out) (by have h3 : (List.replicate i (0 : Int) ++ List.replicate (L - i) (-1)).length = L := hcl; rw [h3]; omega)
     obtain ⟨hBc, cellsc, hcc⟩ := h2
     have HBC := Aside0.mk hBc
     have HCC := Aside0.mk hcc
     clear hkq hiL hi hcl hrs2 hr2 hn2 hBc hcc
     have HQL : Aside0 ((rowQ last 0 i).length ≤ 100000) := ⟨by unfold rowQ; rw [List.length_map, List.length_range]; have := JX.out.2.2; have := HRR.out.2.2.2.2.2.2.1; omega⟩
     go_wp2_with (first
      | ((with_reducible refine gate_ (.store 3 (.tmp 81) (.const (.int .i64 0))) rfl ?_); (refine int_store rfl rfl (.tmp 81) (.const (.int .i64 0)) rfl (by kernel_rfl) (g := r.cb) i 0 RW.out JX.out.2.2 rfl rfl ?_); intro w7 hR7 hg7 hz7; have hput := SH.out.put HRS.out.2.1 i 0 (by have h2 : RowAt w7 w.heap.size r.cb (.slice (some ⟨r.cb, 0, none⟩) L r.cc) ((lastR r L i).cs.set i 0) := hR7; unfold SRow.cv; rw [HCL.out]; exact h2) hg7; have e : rs2.set last { lastR r L i with cs := (lastR r L i).cs.set i 0 } = rs.set last (lastR r L (i + 1)) := (by rw [HRS.out.1, List.set_set]; unfold lastR; simp only [two_set 0 (-1) L i JX.out.2.2]); rw [e] at hput; have SH7 := Aside0.mk hput; have QH7 := Aside0.mk (QHas.grownInt QH.out HCC.out hg7); have HB7 := Aside0.mk (below_grown HB.out hg7 HBC.out HB.out.size); clear hput e hR7 hg7 hz7)
      | (go_at_call 36; refine (queue_push_calls (last : Int) (i : Int) gq vq w.heap.size (rowQ last 0 i) _ QH7.out HQL.out).mono ?_; rintro e w8 ⟨rfl, v8, hq8, hb8, hk8, hat8⟩; rw [← rowQ_snoc] at hq8; have SH8 := Aside0.mk (SH7.out.keptQ QH7.out hk8); have QH8 := Aside0.mk hq8; have HB8 := Aside0.mk (HB7.out.trans hb8); clear hq8 hb8 hk8 hat8))
     go_roundg (L - (i + 1))
     case measure => exact JX.out.1
     case rel => exact ⟨i + 1, v8, by simp, ⟨rfl, JX.out.2.1⟩, SH8, QH8, HB8⟩
    obtain rfl : i = L := by omega
    have d1 : decide ((i : Int) < (i : Int)) = false := decide_eq_false (by omega)
    obtain ⟨L1, hL1⟩ : ∃ L1, i = L1 + 1 := ⟨i - 1, by have := HRR.out.2.2.2.2.1; have := HRR.out.2.2.2.2.2.1; omega⟩
    have hq1 : rowQ last 0 i = ((last : Int), (0 : Int)) :: rowQ last 1 L1 := by rw [hL1]; exact rowQ_cons last 0 L1
    rw [hq1] at QH
    obtain ⟨hs, hhs⟩ : ∃ hs, hs = hsOf m := ⟨_, rfl⟩
    have hlr : lastR r i i = { r with cs := List.replicate i 0 } := by unfold lastR; simp
    have hPI : PInv hs rs2 (((last : Int), ((0 : Nat) : Int)) :: rowQ last 1 L1) last 0 := by
     have hln : last + 1 = m.length := HLA.out.symm
     have hgl : (hs.getD last []).length = i := by rw [hhs, hsOf_at m last (by omega), ← HRR.out.2.1, ← HRR.out.2.2.2.2.2.1]
     have hhl : hs.length = m.length := by rw [hhs]; exact HM.out.2.2.2.2
     refine ⟨by omega, by omega, ⟨?_, fun y x hx => ?_⟩, ?_⟩
     ·
      rw [hn2, hhl, HRR.out.2.2.2.2.2.2.2.1]; exact HRR.out.2.2.2.2.2.2.2.2
     ·
      rw [hrs2] at hx
      rcases set_row hx with ⟨rfl, rfl⟩ | ⟨hne, hx⟩
      ·
       refine ⟨by rw [hhs, hsOf_at m y (by omega), ← HRR.out.2.1]; rfl, ?_⟩
       rw [hlr, costAt_hi (Nat.le_refl _), drop_cons hs [] y (by omega), List.drop_eq_nil_of_le (by omega)]
       unfold finC
       rw [hgl]
      ·
       obtain ⟨x1, x2⟩ := HC.out y x hx
       have hyl : y < m.length := by have := (List.getElem?_eq_some_iff.1 hx).1; have := HRR.out.2.2.2.2.2.2.2.2; omega
       have e1 : x.hx = hs.getD y [] := by rw [hhs, hsOf_at m y hyl]; exact x1
       refine ⟨e1, ?_⟩
       rw [x2, e1]
       rcases Nat.lt_or_ge (y + 1) last with hy | hy
       ·
        rw [costAt_lo hy]
       ·
        rw [costAt_mid (by omega)]
        rfl
     ·
      unfold queAt
      rw [hgl, if_pos (.inl rfl), List.append_nil, Nat.sub_zero, hq1]
      rfl
    have HP := Aside0.mk hPI
    have HHS := Aside0.mk (show (∀ h ∈ hs, h ≠ []) ∧ (∀ h ∈ hs, h.length ≤ 7) ∧ hs.length ≤ 24 ∧ rs.length ≤ 24 by rw [hhs]; exact ⟨HM.out.2.2.2.1, hs7 m, by rw [HM.out.2.2.2.2]; exact HM.out.1, by rw [HRR.out.2.2.2.2.2.2.2.2]; exact HM.out.1⟩)
    have HH := Aside0.mk hhs
    clear hPI hlr hhs hq1 hL1 hcl hrs2 hr2 hn2 hkq hiL hi
    go_wp2_with (first
     | (go_at_call 37; refine (queue_pop_cons (last : Int) 0 gq vq w.heap.size (rowQ last 1 L1) _ QH.out).mono ?_; rintro e w8 ⟨rfl, v8, hq8, hb8, hk8, ho8⟩; have SH8 := Aside0.mk (SH.out.keptQ QH.out (hk8.mono (fun k hk => .inl hk))); have QH8 := Aside0.mk hq8; have HB8 := Aside0.mk (HB.out.trans hb8); clear hq8 hb8 hk8 ho8)
     | ((with_reducible refine gate_dst (N := 12) rfl ?_); refine box_event ?hg (N := 12) ?hd (cs := #[.int .i64 0, .int .i64 0]) (t := 57) ?hr ?_; (case hd => rfl); (case hg => rfl); (case hr => first | (go_simp; done) | (go_simp; rfl)); intro gn hg w9 hbox hb; have KN := Aside0.mk hbox; have SH9 := Aside0.mk (SH8.out.below hb); have QH9 := Aside0.mk (QH8.out.below hb); have HB9 := Aside0.mk (below_step HB8.out hb); have QN : Aside0 (∀ k, QBl gq v8 k → k ≠ gn) := ⟨fun k hk => by have := QH8.out.fresh k hk; omega⟩; have GN : Aside0 (w.heap.size ≤ gn) := ⟨by rw [hg]; exact HB8.out.size⟩; clear hb hbox hg)
     | ((with_reducible refine gate_ (.store 57 (.tmp 12) (.tmp 91)) rfl ?_); (refine box_store rfl rfl 57 (.tmp 12) (.tmp 91) rfl (g := gn) (off := 0) (new := #[.int .i64 (last : Int), .int .i64 0]) _ [.int .i64 (last : Int), .int .i64 0] KN.out rfl rfl rfl (by kernel_rfl) (by simp [Value.oneCell']) (Nat.le_of_ble_eq_true rfl) rfl ?_); intro w10 hh hg hz; have SH10 := Aside0.mk (SH9.out.grownSpl KN.out hg); have QH10 := Aside0.mk (QH9.out.off hg QN.out); have HB10 := Aside0.mk (below_grown HB9.out hg GN.out HB9.out.size); have KN10 := Aside0.mk hh; clear hh hg hz))
    go_loopg [12, 13] (singM hs last 0) (fun kq v12 v13 w' => ∃ (g12 : Nat) (a b : Int) (vq : Value) (rs4 : List SRow) (xs : List (Int × Int)) (ok : Bool), v12 = .pointer (some ⟨g12, 0, none⟩) ∧ v13 = .bool ok ∧ Aside0 (w'.heap[g12]? = some (.cells #[.int .i64 a, .int .i64 b] 57 (0, 0))) ∧ Aside0 (SHas w' w.heap.size σ rs4) ∧ Aside0 (QHas w' w.heap.size gq vq xs) ∧ Aside0 (w.heap.size ≤ g12 ∧ ∀ k, QBl gq vq k → k ≠ g12) ∧ Aside0 (Below w.heap.size w w') ∧ Aside0 ((ok = true → ∃ t j : Nat, a = (t : Int) ∧ b = (j : Int) ∧ PInv hs rs4 (((t : Int), (j : Int)) :: xs) t j ∧ kq = singM hs t j) ∧ (ok = false → PFin hs rs4)))
    case atStart => exact ⟨gn, _, _, v8, rs2, _, true, rfl, rfl, KN10, SH10, QH10, ⟨GN.out, QN.out⟩, HB10, ⟨fun _ => ⟨last, 0, rfl, rfl, HP.out, rfl⟩, fun h => by cases h⟩⟩
    case round =>
     clear KN10 SH10 QH10 QN GN HB10 HP KN SH9 QH9 HB9 SH8 QH8 HB8 SH QH HB
     obtain ⟨g12, a, b, vq, rs4, xs, ok, rfl, rfl, K, SH, QH, GG, HB, HX⟩ := hrel
     cases ok
     ·
      have HF := Aside0.mk (HX.out.2 rfl)
      clear HX
      go_wp2
      go_ret
      exact ⟨σ, rs4, rfl, SH.out, by rw [← HH.out]; exact HF.out, HB.out⟩
     obtain ⟨t, j, ha, hb, hp, hkq⟩ := HX.out.1 rfl
     clear HX
     have K12 := Aside0.mk (blk_lt K.out)
     have HBS : Aside0 (w.heap.size ≤ wr.heap.size) := ⟨HB.out.size⟩
     have hm1 : 0 < singM hs t j := by have := hp.2.1; unfold singM; omega
     cases t with
     | zero =>
      have ha0 : a = 0 := ha
      subst ha0
      have z0 : wr.cell? ⟨g12, 0, none⟩ = some (.int .i64 0) := (blk_cell K.out 0).trans rfl
      have z1 : wr.cell? ⟨g12, 1, none⟩ = some (.int .i64 b) := (blk_cell K.out 1).trans rfl
      rcases PInv_zero hp with ⟨rfl, hf⟩ | ⟨hp2, hm2⟩
      ·
       have HF := Aside0.mk hf
       have NX : Aside0 (0 < gk) := ⟨by omega⟩
       clear ha hb hp hkq hm1 hf
       go_wp2_with (first
        | (go_at_call 38; refine (sing_ahead_zero σ.gs gq b _).mono ?_; rintro e w5 ⟨rfl, hb5⟩; have SH5 := Aside0.mk (SH.out.below hb5); have QH5 := Aside0.mk (QH.out.below hb5); have HB5 := Aside0.mk (below_step HB.out hb5); have K5 := Aside0.mk (blk_below K.out hb5); have GG5 := GG; have y0 : w5.cell? ⟨g12, 0, none⟩ = some (.int .i64 0) := (blk_cell K5.out 0).trans rfl; have y1 : w5.cell? ⟨g12, 1, none⟩ = some (.int .i64 b) := (blk_cell K5.out 1).trans rfl; clear hb5)
        | ((with_reducible refine gate_dst (N := 12) rfl ?_); refine box_event ?hg (N := 12) ?hd (cs := #[.int .i64 0, .int .i64 0]) (t := 57) ?hr ?_; (case hd => rfl); (case hg => rfl); (case hr => first | (go_simp; done) | (go_simp; rfl)); intro gn hg w6 hbox hb; have KN := Aside0.mk hbox; have SH6 := Aside0.mk (SH5.out.below hb); have QH6 := Aside0.mk (QH5.out.below hb); have HB6 := Aside0.mk (below_step HB5.out hb); have QN : Aside0 (∀ k, QBl gq vq k → k ≠ gn) := ⟨fun k hk => by have := QH5.out.fresh k hk; omega⟩; have GN : Aside0 (w.heap.size ≤ gn) := ⟨by rw [hg]; exact HB5.out.size⟩; clear hb hbox hg)
        | ((with_reducible refine gate_ (.store 57 (.tmp 12) (.tmp 103)) rfl ?_); (refine box_store rfl rfl 57 (.tmp 12) (.tmp 103) rfl (g := gn) (off := 0) (new := #[.int .i64 0, .int .i64 b]) _ [.int .i64 0, .int .i64 b] KN.out rfl rfl rfl (by kernel_rfl) (by simp [Value.oneCell']) (Nat.le_of_ble_eq_true rfl) rfl ?_); intro w7 hh hg hz; have SH7 := Aside0.mk (SH6.out.grownSpl KN.out hg); have QH7 := Aside0.mk (QH6.out.off hg QN.out); have HB7 := Aside0.mk (below_grown HB6.out hg GN.out HB6.out.size); have KN7 := Aside0.mk hh; clear hh hg hz)
        | (go_at_call 37; refine (queue_pop_nil gq vq w.heap.size _ QH7.out).mono ?_; rintro e w8 ⟨rfl, hb8⟩; have SH8 := Aside0.mk (SH7.out.below hb8); have QH8 := Aside0.mk (QH7.out.below hb8); have HB8 := Aside0.mk (below_step HB7.out hb8); have KN8 := Aside0.mk (blk_below KN7.out hb8); have QN8 := QN; clear hb8)
        | ((with_reducible refine gate_ (.store 57 (.tmp 12) (.tmp 97)) rfl ?_); (refine box_store rfl rfl 57 (.tmp 12) (.tmp 97) rfl (g := gn) (off := 0) (new := #[.int .i64 0, .int .i64 0]) _ [.int .i64 0, .int .i64 0] KN8.out rfl rfl rfl (by kernel_rfl) (by simp [Value.oneCell']) (Nat.le_of_ble_eq_true rfl) rfl ?_); intro w9 hh hg hz; have SH9 := Aside0.mk (SH8.out.grownSpl KN8.out hg); have QH9 := Aside0.mk (QH8.out.off hg QN8.out); have HB9 := Aside0.mk (below_grown HB8.out hg GN.out HB8.out.size); have KN9 := Aside0.mk hh; clear hh hg hz))
       go_roundg 0
       case measure => exact NX.out
       case rel => exact ⟨gn, 0, 0, vq, rs4, [], false, rfl, rfl, KN9, SH9, QH9, ⟨GN.out, QN8.out⟩, HB9, ⟨⟨fun h => (by cases h), fun _ => HF.out⟩⟩⟩
      obtain ⟨ys, hys⟩ := hp2.ne
      subst hys
      obtain ⟨b2, hb2⟩ : ∃ b2 : Int, b2 = ((j + 1 : Nat) : Int) := ⟨_, rfl⟩
      have HP2 := Aside0.mk hp2
      have NX : Aside0 (singM hs 0 (j + 1) < gk ∧ b2 = ((j + 1 : Nat) : Int)) := ⟨by omega, hb2⟩
      have QH := Aside0.mk (show QHas wr w.heap.size gq vq (((0 : Int), b2) :: ys) by rw [hb2]; exact QH.out)
      clear ha hb hp hp2 hkq hm1 hm2 hb2
      go_wp2_with (first
       | (go_at_call 38; refine (sing_ahead_zero σ.gs gq b _).mono ?_; rintro e w5 ⟨rfl, hb5⟩; have SH5 := Aside0.mk (SH.out.below hb5); have QH5 := Aside0.mk (QH.out.below hb5); have HB5 := Aside0.mk (below_step HB.out hb5); have K5 := Aside0.mk (blk_below K.out hb5); have GG5 := GG; have y0 : w5.cell? ⟨g12, 0, none⟩ = some (.int .i64 0) := (blk_cell K5.out 0).trans rfl; have y1 : w5.cell? ⟨g12, 1, none⟩ = some (.int .i64 b) := (blk_cell K5.out 1).trans rfl; clear hb5)
       | ((with_reducible refine gate_dst (N := 12) rfl ?_); refine box_event ?hg (N := 12) ?hd (cs := #[.int .i64 0, .int .i64 0]) (t := 57) ?hr ?_; (case hd => rfl); (case hg => rfl); (case hr => first | (go_simp; done) | (go_simp; rfl)); intro gn hg w6 hbox hb; have KN := Aside0.mk hbox; have SH6 := Aside0.mk (SH5.out.below hb); have QH6 := Aside0.mk (QH5.out.below hb); have HB6 := Aside0.mk (below_step HB5.out hb); have QN : Aside0 (∀ k, QBl gq vq k → k ≠ gn) := ⟨fun k hk => by have := QH5.out.fresh k hk; omega⟩; have GN : Aside0 (w.heap.size ≤ gn) := ⟨by rw [hg]; exact HB5.out.size⟩; clear hb hbox hg)
       | ((with_reducible refine gate_ (.store 57 (.tmp 12) (.tmp 103)) rfl ?_); (refine box_store rfl rfl 57 (.tmp 12) (.tmp 103) rfl (g := gn) (off := 0) (new := #[.int .i64 0, .int .i64 b]) _ [.int .i64 0, .int .i64 b] KN.out rfl rfl rfl (by kernel_rfl) (by simp [Value.oneCell']) (Nat.le_of_ble_eq_true rfl) rfl ?_); intro w7 hh hg hz; have SH7 := Aside0.mk (SH6.out.grownSpl KN.out hg); have QH7 := Aside0.mk (QH6.out.off hg QN.out); have HB7 := Aside0.mk (below_grown HB6.out hg GN.out HB6.out.size); have KN7 := Aside0.mk hh; clear hh hg hz)
       | (go_at_call 37; refine (queue_pop_cons 0 b2 gq vq w.heap.size ys _ QH7.out).mono ?_; rintro e w8 ⟨rfl, v8, hq8, hb8, hk8, ho8⟩; have SH8 := Aside0.mk (SH7.out.keptQ QH7.out (hk8.mono (fun k hk => .inl hk))); have QH8 := Aside0.mk hq8; have HB8 := Aside0.mk (HB7.out.trans hb8); have KN8 := Aside0.mk (blk_kept KN7.out hk8 (fun h => QN.out _ (.inl rfl) h.symm)); have QN8 : Aside0 (∀ k, QBl gq v8 k → k ≠ gn) := ⟨fun k hk => hk.elim (fun h => QN.out k (.inl h)) (fun h => QN.out k (.inr (ho8 ▸ h)))⟩; clear hq8 hb8 hk8 ho8)
       | ((with_reducible refine gate_ (.store 57 (.tmp 12) (.tmp 97)) rfl ?_); (refine box_store rfl rfl 57 (.tmp 12) (.tmp 97) rfl (g := gn) (off := 0) (new := #[.int .i64 0, .int .i64 b2]) _ [.int .i64 0, .int .i64 b2] KN8.out rfl rfl rfl (by kernel_rfl) (by simp [Value.oneCell']) (Nat.le_of_ble_eq_true rfl) rfl ?_); intro w9 hh hg hz; have SH9 := Aside0.mk (SH8.out.grownSpl KN8.out hg); have QH9 := Aside0.mk (QH8.out.off hg QN8.out); have HB9 := Aside0.mk (below_grown HB8.out hg GN.out HB8.out.size); have KN9 := Aside0.mk hh; clear hh hg hz))
      go_roundg (singM hs 0 (j + 1))
      case measure => exact NX.out.1
      case rel => exact ⟨gn, 0, b2, v8, rs4, ys, true, rfl, rfl, KN9, SH9, QH9, ⟨GN.out, QN8.out⟩, HB9, ⟨fun _ => ⟨0, j + 1, rfl, NX.out.2, HP2.out, rfl⟩, fun h => by cases h⟩⟩
     | succ t1 =>
      obtain ⟨T, hT⟩ : ∃ T, T = t1 + 1 := ⟨_, rfl⟩
      have hTl : T < rs4.length := by rw [hp.2.2.1.1, hT]; exact hp.1
      obtain ⟨r4, hr4⟩ : ∃ r4, rs4[T]? = some r4 := ⟨_, List.getElem?_eq_getElem hTl⟩
      obtain ⟨p4, hp4⟩ : ∃ p4, rs4[t1]? = some p4 := ⟨_, List.getElem?_eq_getElem (by omega)⟩
      have haT : a = (T : Int) := by rw [hT]; exact ha
      have hbj : b = (j : Int) := hb
      obtain ⟨hbd, t2, j2, hp2, hm2⟩ := PInv_succ HHS.out.1 HHS.out.2.1 hp (hT ▸ hr4) hp4
      obtain ⟨rs5, hrs5⟩ : ∃ rs5, rs5 = rs4.set t1 (ahP (r4.cs.getD j 0) (r4.hx.getD j 0) p4 p4.hx.length) := ⟨_, rfl⟩
      rw [← hrs5] at hp2
      obtain ⟨ys, hys⟩ := hp2.ne
      obtain ⟨a2, ha2⟩ : ∃ a2 : Int, a2 = (t2 : Int) := ⟨_, rfl⟩
      obtain ⟨b2, hb2⟩ : ∃ b2 : Int, b2 = (j2 : Int) := ⟨_, rfl⟩
      have hj4 : j < r4.hx.length := by rw [(hp.2.2.1.2 T r4 hr4).1, hT]; exact hp.2.1
      have hq14 := hp.qlen HHS.out.2.1
      have hq7 : p4.hx.length ≤ 7 := by
       rw [(hp.2.2.1.2 t1 p4 hp4).1]
       rw [List.getD_eq_getElem?_getD, List.getElem?_eq_getElem (show t1 < hs.length by have := hp.1; omega)]
       exact HHS.out.2.1 _ (List.getElem_mem _)
      rw [List.length_cons] at hq14
      have HS := Aside0.mk (And.intro hT (And.intro hr4 (And.intro hp4 (And.intro hj4 (And.intro hbd.1 (And.intro (show r4.cs.getD j 0 ≤ 1000 by have := hbd.2; have := HHS.out.2.2.1; omega) (And.intro (show xs.length + p4.hx.length ≤ 10000 by omega) (show rs4.length ≤ 1000 by rw [hp.2.2.1.1]; have := HHS.out.2.2.1; omega))))))))
      have hys2 : (a2, b2) :: ys = xs ++ ahQ t1 p4 p4.hx.length := by rw [hys, ha2, hb2]
      have HQ5 := Aside0.mk (And.intro hrs5 hys2)
      have HP2 := Aside0.mk (show PInv hs rs5 (((t2 : Int), (j2 : Int)) :: ys) t2 j2 by rw [← hys]; exact hp2)
      have NX : Aside0 (singM hs t2 j2 < gk ∧ a2 = (t2 : Int) ∧ b2 = (j2 : Int)) := ⟨by omega, ha2, hb2⟩
      subst haT
      subst hbj
      have z0 : wr.cell? ⟨g12, 0, none⟩ = some (.int .i64 (T : Int)) := (blk_cell K.out 0).trans rfl
      have z1 : wr.cell? ⟨g12, 1, none⟩ = some (.int .i64 (j : Int)) := (blk_cell K.out 1).trans rfl
      clear ha hb hp hkq hm1 hT hTl hr4 hp4 hbd hp2 hm2 hrs5 hys ha2 hb2 hj4 hq14 hq7 hys2
      go_wp2_with (first
       | (go_at_call 38; refine (sing_ahead_succ σ w.heap.size T t1 j gq rs4 r4 p4 vq xs (r4.cs.getD j 0) (r4.hx.getD j 0) _ HS.out.1 HS.out.2.1 HS.out.2.2.1 HS.out.2.2.2.1 rfl rfl HS.out.2.2.2.2.1 HS.out.2.2.2.2.2.1 SH.out QH.out HS.out.2.2.2.2.2.2.1 HS.out.2.2.2.2.2.2.2).mono ?_; rintro e w5 ⟨rfl, v5, hs5, hq5, hb5, hk5, hat5⟩; rw [← HQ5.out.1] at hs5; rw [← HQ5.out.2] at hq5; have SH5 := Aside0.mk hs5; have QH5 := Aside0.mk hq5; have HB5 := Aside0.mk (HB.out.trans hb5); have K5 := Aside0.mk (blk_kept K.out hk5 (fun h => h.elim (fun h => GG.out.2 _ h rfl) (fun h => SH.out.intOff K.out HS.out.2.2.1 h))); have GG5 : Aside0 (w.heap.size ≤ g12 ∧ ∀ k, QBl gq v5 k → k ≠ g12) := ⟨GG.out.1, fun k hk => hk.elim (fun hk => by subst hk; exact GG.out.2 _ (.inl rfl)) (fun hk => hat5.elim (fun h => GG.out.2 k (.inr (h ▸ hk))) (fun ⟨k2, h1, h2⟩ => by rw [hk] at h1; have h3 := Option.some.inj h1; have := K12.out; omega))⟩; have y0 : w5.cell? ⟨g12, 0, none⟩ = some (.int .i64 (T : Int)) := (blk_cell K5.out 0).trans rfl; have y1 : w5.cell? ⟨g12, 1, none⟩ = some (.int .i64 (j : Int)) := (blk_cell K5.out 1).trans rfl; clear hs5 hq5 hb5 hk5 hat5)
       | ((with_reducible refine gate_dst (N := 12) rfl ?_); refine box_event ?hg (N := 12) ?hd (cs := #[.int .i64 0, .int .i64 0]) (t := 57) ?hr ?_; (case hd => rfl); (case hg => rfl); (case hr => first | (go_simp; done) | (go_simp; rfl)); intro gn hg w6 hbox hb; have KN := Aside0.mk hbox; have SH6 := Aside0.mk (SH5.out.below hb); have QH6 := Aside0.mk (QH5.out.below hb); have HB6 := Aside0.mk (below_step HB5.out hb); have QN : Aside0 (∀ k, QBl gq v5 k → k ≠ gn) := ⟨fun k hk => by have := QH5.out.fresh k hk; omega⟩; have GN : Aside0 (w.heap.size ≤ gn) := ⟨by rw [hg]; exact HB5.out.size⟩; clear hb hbox hg)
       | ((with_reducible refine gate_ (.store 57 (.tmp 12) (.tmp 103)) rfl ?_); (refine box_store rfl rfl 57 (.tmp 12) (.tmp 103) rfl (g := gn) (off := 0) (new := #[.int .i64 (T : Int), .int .i64 (j : Int)]) _ [.int .i64 (T : Int), .int .i64 (j : Int)] KN.out rfl rfl rfl (by kernel_rfl) (by simp [Value.oneCell']) (Nat.le_of_ble_eq_true rfl) rfl ?_); intro w7 hh hg hz; have SH7 := Aside0.mk (SH6.out.grownSpl KN.out hg); have QH7 := Aside0.mk (QH6.out.off hg QN.out); have HB7 := Aside0.mk (below_grown HB6.out hg GN.out HB6.out.size); have KN7 := Aside0.mk hh; clear hh hg hz)
       | (go_at_call 37; refine (queue_pop_cons a2 b2 gq v5 w.heap.size ys _ QH7.out).mono ?_; rintro e w8 ⟨rfl, v8, hq8, hb8, hk8, ho8⟩; have SH8 := Aside0.mk (SH7.out.keptQ QH7.out (hk8.mono (fun k hk => .inl hk))); have QH8 := Aside0.mk hq8; have HB8 := Aside0.mk (HB7.out.trans hb8); have KN8 := Aside0.mk (blk_kept KN7.out hk8 (fun h => QN.out _ (.inl rfl) h.symm)); have QN8 : Aside0 (∀ k, QBl gq v8 k → k ≠ gn) := ⟨fun k hk => hk.elim (fun h => QN.out k (.inl h)) (fun h => QN.out k (.inr (ho8 ▸ h)))⟩; clear hq8 hb8 hk8 ho8)
       | ((with_reducible refine gate_ (.store 57 (.tmp 12) (.tmp 97)) rfl ?_); (refine box_store rfl rfl 57 (.tmp 12) (.tmp 97) rfl (g := gn) (off := 0) (new := #[.int .i64 a2, .int .i64 b2]) _ [.int .i64 a2, .int .i64 b2] KN8.out rfl rfl rfl (by kernel_rfl) (by simp [Value.oneCell']) (Nat.le_of_ble_eq_true rfl) rfl ?_); intro w9 hh hg hz; have SH9 := Aside0.mk (SH8.out.grownSpl KN8.out hg); have QH9 := Aside0.mk (QH8.out.off hg QN8.out); have HB9 := Aside0.mk (below_grown HB8.out hg GN.out HB8.out.size); have KN9 := Aside0.mk hh; clear hh hg hz))
      go_roundg (singM hs t2 j2)
      case measure => exact NX.out.1
      case rel => exact ⟨gn, a2, b2, v8, rs5, ys, true, rfl, rfl, KN9, SH9, QH9, ⟨GN.out, QN8.out⟩, HB9, ⟨fun _ => ⟨t2, j2, NX.out.2.1, NX.out.2.2, HP2.out, rfl⟩, fun h => by cases h⟩⟩
  have d1 : decide ((i : Int) < (m.length : Int)) = true := decide_eq_true hi
  have q0 := eq_true (show (0 : Int) ≤ (i : Int) by omega)
  have q1 := eq_true hi
  have p3 : IntKind.i64.wrap ((i : Int) + 1) = (i : Int) + 1 := by have := HM.out.1; rw [Go.IntKind.wrap_i64]; omega
  obtain ⟨ad', ea, ux0, ux1⟩ := at_T29 HR0.out (i : Int) (by omega) hi
  obtain rfl := Option.some.inj ea
  obtain ⟨X, hX⟩ : ∃ X, X = rd_T29 m (i : Int) := ⟨_, rfl⟩
  rw [← hX] at ux0 ux1
  have hXm : X ∈ m := by
   rw [hX]
   unfold rd_T29
   rw [Int.toNat_natCast, List.getD_eq_getElem?_getD, List.getElem?_eq_getElem (by omega)]
   exact List.getElem_mem _
  have hx0 := (HB.out.cell (World.block_lt_of_cell? w _ ux0)).trans ux0
  have hx1 := (HB.out.cell (World.block_lt_of_cell? w _ ux1)).trans ux1
  simp only [Int.toNat_natCast] at hx0 hx1
  obtain ⟨XA, hXA⟩ : ∃ XA, XA = hexAll X := ⟨_, rfl⟩
  have hXn : 0 < XA.length := List.length_pos_iff.2 (by rw [hXA]; exact HM.out.2.2.1 X hXm)
  have hX7 : XA.length ≤ 7 := by rw [hXA]; exact hexAll_len X
  have HXX := Aside0.mk (And.intro hX (And.intro hXA (And.intro hXn hX7)))
  have NX : Aside0 (m.length - (i + 1) < gk ∧ i + 1 ≤ m.length ∧ rs.length = i ∧ i < m.length) := ⟨by omega, by omega, hrl, by omega⟩
  have HBS : Aside0 (w.heap.size ≤ wr.heap.size) := ⟨HB.out.size⟩
  clear ea ux0 ux1 hX hXm hXA hXn hX7 hkq hil hrl hi
  go_wp2_with (first
   | ((with_reducible refine gate_dst (N := 5) rfl ?_); refine box_event ?hg (N := 5) ?hd (cs := #[.int .i64 0, .bool false]) (t := 29) ?hr ?_; (case hd => rfl); (case hg => rfl); (case hr => first | (go_simp; done) | (go_simp; rfl)); intro g5 hg w2 hbox hb; have HW2 := Aside0.mk hb; have K5 := Aside0.mk hbox; have G5 : Aside0 (wr.heap.size ≤ g5) := ⟨Nat.le_of_eq hg.symm⟩; clear hb hbox hg)
   | ((with_reducible refine gate_ (.store 29 (.tmp 5) (.tmp 21)) rfl ?_); (refine box_store rfl rfl 29 (.tmp 5) (.tmp 21) rfl (g := g5) (off := 0) (new := #[.int .i64 X.f0, .bool X.f1]) _ [.int .i64 X.f0, .bool X.f1] K5.out rfl rfl rfl (by kernel_rfl) (by simp [Value.oneCell']) (Nat.le_of_ble_eq_true rfl) rfl ?_); intro w3 hh hg hz; have HW3 := Aside0.mk (below_grown HW2.out hg G5.out HW2.out.size); have K5 := Aside0.mk hh; have y0 : w3.cell? ⟨g5, 0, none⟩ = some (.int .i64 X.f0) := (blk_cell hh 0).trans rfl; have y1 : w3.cell? ⟨g5, 1, none⟩ = some (.bool X.f1) := (blk_cell hh 1).trans rfl; clear hh hg hz)
   | (go_at_call 8; refine (impl_HexAll_calls X _ (HT.out.below (HB.out.trans (HW3.out.mono HBS.out)))).mono ?_; rintro e w4 ⟨v6, rfl, hr6, hb4⟩; rw [← HXX.out.2.1] at hr6; obtain ⟨hb, hc, rfl, hb0, hb1, -, -⟩ := Kd.R_form hr6 HXX.out.2.2.1; have HW4 := Aside0.mk (below_step HW3.out hb4); have RH4 := Aside0.mk (RowAt.of hr6 (Nat.le_trans HBS.out HW3.out.size)); have HB0 : Aside0 (wr.heap.size ≤ hb ∧ hb < w4.heap.size) := ⟨Nat.le_trans HW3.out.size hb0, hb1⟩; clear hr6 hb0 hb1 hb4)
   | ((with_reducible refine gate_dst (N := 26) rfl ?_); refine Kd.R_make (Kd.int .i64) _ 3 rfl (N := 26) rfl 26 _ _ rfl (XA.length : Int) rfl rfl Tryd.underlying26 (.int .i64 0) 8 hinf rfl (by decide) (by omega) (0 : Int) (ok := fun _ => True) (okp := fun _ => True) rfl (fun _ hk => hk) trivial (by have := HXX.out.2.2.2; omega) (by have := HXX.out.2.2.2; omega) (Below.refl _ _) (Nat.le_refl _) ?_; intro v7 w5 hr7 hb5 hg5 _; rw [Int.toNat_natCast] at hr7; obtain ⟨cb, cc, rfl, hb0, hb1, -, -⟩ := Kd.R_form hr7 (by rw [List.length_replicate]; exact HXX.out.2.2.1); rw [List.length_replicate] at hr7 ⊢; have HW5 := Aside0.mk hb5; have RC5 := Aside0.mk (RowAt.of hr7 (Nat.le_trans HBS.out HW4.out.size)); have CB0 := Aside0.mk hb0; clear hr7 hb0 hb1 hb5 hg5))
  obtain ⟨wo, hwo⟩ : ∃ x, x = wr := ⟨_, rfl⟩
  subst hwo
  go_loopg [29] XA.length (fun kq v29 w' => ∃ (j : Nat), v29 = .int .i64 (j : Int) ∧ Aside0 (kq = XA.length - j ∧ j ≤ XA.length) ∧ Aside0 (RowAt w' w.heap.size cb (.slice (some ⟨cb, 0, none⟩) XA.length cc) (List.replicate j (-1) ++ List.replicate (XA.length - j) 0)) ∧ Aside0 (Below w4.heap.size w4 w'))
  case atStart => exact ⟨0, rfl, ⟨rfl, by omega⟩, ⟨RC5.out⟩, HW5⟩
  case round =>
   clear HW2 HW3 RC5 HW5 K5 y0 y1 hx0 hx1 q0 q1 d1
   obtain ⟨j, rfl, HX, RC, HW5⟩ := hrel
   obtain ⟨hkq, hjl⟩ := HX.out
   clear HX
   by_cases hj : (j : Int) < (XA.length : Int)
   ·
    have d2 : decide ((j : Int) < (XA.length : Int)) = true := decide_eq_true hj
    have q0 := eq_true (show (0 : Int) ≤ (j : Int) by omega)
    have q1 := eq_true hj
    have p4 : IntKind.i64.wrap ((j : Int) + 1) = (j : Int) + 1 := by have := HXX.out.2.2.2; rw [Go.IntKind.wrap_i64]; omega
    have JX : Aside0 (XA.length - (j + 1) < gk ∧ j + 1 ≤ XA.length ∧ j < XA.length) := ⟨by omega, by omega, by omega⟩
    clear hkq hjl hj
    go_wp2_with (first
     | ((with_reducible refine gate_ (.store 3 (.tmp 34) (.const (.int .i64 (-1)))) rfl ?_); (refine int_store rfl rfl (.tmp 34) (.const (.int .i64 (-1))) rfl (by kernel_rfl) (g := cb) j (-1) RC.out JX.out.2.2 rfl rfl ?_); intro w7 hR7 hg7 hz7; rw [two_set (-1) 0 XA.length j JX.out.2.2] at hR7; have RC7 := Aside0.mk hR7; have HW7 := Aside0.mk (below_grown HW5.out hg7 CB0.out HW5.out.size); clear hR7 hg7 hz7))
    go_roundg (XA.length - (j + 1))
    case measure => exact JX.out.1
    case rel => exact ⟨j + 1, by simp, ⟨rfl, JX.out.2.1⟩, RC7, HW7⟩
   obtain rfl : j = XA.length := by omega
   have d2 : decide ((XA.length : Int) < (XA.length : Int)) = false := decide_eq_false (by omega)
   have e : List.replicate XA.length (-1 : Int) ++ List.replicate (XA.length - XA.length) 0 = List.replicate XA.length (-1) := by simp
   have hRC := RC.out
   rw [e] at hRC
   obtain ⟨r, hr⟩ : ∃ r : SRow, r = ⟨hb, hc, cb, cc, XA, List.replicate XA.length (-1)⟩ := ⟨_, rfl⟩
   have hbw4 : Below wo.heap.size wo wr := below_step HW4.out HW5.out
   have rhv : r.hv = .slice (some ⟨hb, 0, none⟩) XA.length hc := by rw [hr]; rfl
   have rcv : r.cv = .slice (some ⟨cb, 0, none⟩) XA.length cc := by rw [hr]; unfold SRow.cv; simp
   have hSB := (SB.out.below hbw4).addRow r (by rw [hr]; simp) (by rw [hr]; exact HXX.out.2.2.1) (by rw [rhv, hr]; exact RH4.out.below HW5.out) (by rw [rcv, hr]; exact hRC) SB.out.lt (by rw [hr]; exact HB0.out.1) (by rw [hr]; exact Nat.le_trans HW4.out.size CB0.out) (by rw [hr]; show hb ≠ cb; have := HB0.out.2; have := CB0.out; omega)
   have SB6 := Aside0.mk hSB
   have HRV := Aside0.mk (And.intro hr (And.intro rhv rcv))
   have HB6 := Aside0.mk (HB.out.trans (hbw4.mono HBS.out))
   have LB : Aside0 (((rs.map (fun r => [r.hv])).length + 1) * 24 ≤ 140737488355328 ∧ ((rs.map (fun r => [r.cv])).length + 1) * 24 ≤ 140737488355328) := ⟨by have := NX.out.2.2; have := HM.out.1; rw [List.length_map, List.length_map]; omega⟩
   have hv0 : wr.cell? ⟨gs, 0, none⟩ = some vH := (blk_cell hSB.top 0).trans rfl
   clear hSB hbw4 rhv rcv hr hRC e hkq hjl hj
   go_wp2_with (first
    | ((with_reducible refine gate_builtin (b := .append) (xs := #[.tmp 40, .tmp 42]) rfl ?_); at_builtin; refine Kd.R_append (Kd.raw 1) (w0 := w) (W := wr) w.heap.size ?b1 (.tmp 40) (.tmp 42) 58 26 (.slice none 0 0) 24 ?b2 ?b3 ?b4 ?b5 ?b6 ?b7 vH (rs.map (fun r => [r.hv])) [(.slice (some ⟨hb, 0, none⟩) XA.length hc)] [(.slice (some ⟨hb, 0, none⟩) XA.length hc)] (fun _ => True) (fun _ => False) ?b8 ?b9 ?c1 ?c2 ?c3 ?c4 ?c5 ?c6 ?c7 ?c8; (case b1 => rfl); (case b2 => rfl); (case b3 => exact Tryd.underlying58); (case b4 => exact infoSl); (case b5 => rfl); (case b6 => decide); (case b7 => omega); (case b8 => rfl); (case b9 => rfl); (case c1 => exact ⟨rfl, rfl, by simp [Value.oneCell']⟩); (case c2 => exact (fun _ hk => hk.elim)); (case c3 => exact (fun _ _ => trivial)); (case c4 => exact SB6.out.rH); (case c5 => exact HB6.out); (case c6 => exact HB6.out.size); (case c7 => exact LB.out.1); intro v43 w8 ho hb_ hg hat; have SB8 := Aside0.mk (SB6.out.appH ho hg hat); have HB8 := Aside0.mk hb_; have hv1 : w8.cell? ⟨gs, 1, none⟩ = some vC := (blk_cell SB8.out.top 1).trans rfl; clear ho hb_ hg hat)
    | ((with_reducible refine gate_ (.store 58 (.tmp 45) (.tmp 43)) rfl ?_); (refine box_store rfl rfl 58 (.tmp 45) (.tmp 43) rfl (g := gs) (off := 0) (new := #[v43, vC]) _ [v43] SB8.out.top rfl rfl (by obtain ⟨_, _, hh⟩ := Kd.R_slice SB8.out.rH; rw [hh]; rfl) (by kernel_rfl) (by obtain ⟨_, _, hh⟩ := Kd.R_slice SB8.out.rH; rw [hh]; simp [Value.oneCell']) (Nat.le_of_ble_eq_true rfl) rfl ?_); intro w9 hh hg hz; have SB9 := Aside0.mk (SB8.out.setTop hh hg); have HB9 := Aside0.mk (below_grown HB8.out hg GS.out HB8.out.size); have hv2 : w9.cell? ⟨gs, 1, none⟩ = some vC := (blk_cell hh 1).trans rfl; clear hh hg hz)
    | ((with_reducible refine gate_builtin (b := .append) (xs := #[.tmp 50, .tmp 52]) rfl ?_); at_builtin; refine Kd.R_append (Kd.raw 1) (w0 := w) (W := w9) w.heap.size ?b1y (.tmp 50) (.tmp 52) 58 26 (.slice none 0 0) 24 ?b2y ?b3y ?b4y ?b5y ?b6y ?b7y vC (rs.map (fun r => [r.cv])) [(.slice (some ⟨cb, 0, none⟩) XA.length cc)] [(.slice (some ⟨cb, 0, none⟩) XA.length cc)] (fun _ => True) (fun _ => False) ?b8y ?b9y ?c1y ?c2y ?c3y ?c4y ?c5y ?c6y ?c7y ?c8y; (case b1y => rfl); (case b2y => rfl); (case b3y => exact Tryd.underlying58); (case b4y => exact infoSl); (case b5y => rfl); (case b6y => decide); (case b7y => omega); (case b8y => rfl); (case b9y => rfl); (case c1y => exact ⟨rfl, rfl, by simp [Value.oneCell']⟩); (case c2y => exact (fun _ hk => hk.elim)); (case c3y => exact (fun _ _ => trivial)); (case c4y => exact SB9.out.rC); (case c5y => exact HB9.out); (case c6y => exact HB9.out.size); (case c7y => exact LB.out.2); intro v53 w10 ho hb_ hg hat; have SB10 := Aside0.mk (SB9.out.appC ho hg hat); have HB10 := Aside0.mk hb_; skip; clear ho hb_ hg hat)
    | ((with_reducible refine gate_ (.store 58 (.tmp 55) (.tmp 53)) rfl ?_); (refine box_store rfl rfl 58 (.tmp 55) (.tmp 53) rfl (g := gs) (off := 1) (new := #[v43, v53]) _ [v53] SB10.out.top rfl rfl (by obtain ⟨_, _, hh⟩ := Kd.R_slice SB10.out.rC; rw [hh]; rfl) (by kernel_rfl) (by obtain ⟨_, _, hh⟩ := Kd.R_slice SB10.out.rC; rw [hh]; simp [Value.oneCell']) (Nat.le_of_ble_eq_true rfl) rfl ?_); intro w11 hh hg hz; have SB11 := Aside0.mk (SB10.out.setTop hh hg); have HB11 := Aside0.mk (below_grown HB10.out hg GS.out HB10.out.size); clear hh hg hz))
   go_roundg (m.length - (i + 1))
   case measure => exact NX.out.1
   case rel =>
    refine ⟨i + 1, v43, v53, rs ++ [r], by simp, ⟨rfl, NX.out.2.1, by rw [List.length_append, NX.out.2.2.1]; rfl⟩, ⟨?_⟩, ⟨fun j x hx => ?_⟩, HB11⟩
    ·
     have h2 := SB11.out
     rw [← HRV.out.2.1, ← HRV.out.2.2] at h2
     rw [List.map_append, List.map_append]
     exact h2
    ·
     rcases getElem?_snoc rs r j x hx with hx | ⟨rfl, rfl⟩
     ·
      exact HC.out j x hx
     ·
      rw [NX.out.2.2.1, HRV.out.1]
      exact ⟨by rw [← HXX.out.1]; exact HXX.out.2.1, rfl⟩

end Go.Proofs.YtiagfjbngpbejaaDoor.Pure
namespace Go.Proofs.YtiagfjbngpbejaaDoor.Pure
set_option linter.unusedVariables false
set_option linter.unusedSimpArgs false
open Go Go.RowKit Go.Proofs.YtiagfjbngpbejaaDoor.PFnSingMany Go.Proofs.YtiagfjbngpbejaaDoorW.PrintWords Go.Proofs.YtiagfjbngpbejaaDoorW.PrintLast Go.Proofs.YtiagfjbngpbejaaDoorW.PrintMore

def sProd : Int → List S29 → Int
 | x, [] => x
 | x, t :: ts => sProd (wrap64 (x * ((hexAll t).length : Int))) ts
def sMany (m : List S29) : Int := if melOk m = true then sProd 1 m else -1
theorem sProd_zero : ∀ m : List S29, sProd 0 m = 0
 | [] => rfl
 | t :: ts => by
  unfold sProd
  rw [Int.zero_mul, w64 (x := 0) (by omega) (by omega)]
  exact sProd_zero ts
theorem sProd_ne : ∀ (m : List S29) (x : Int), sProd x m ≠ 0 → ∀ t ∈ m, hexAll t ≠ []
 | [], _, _, t, ht => by cases ht
 | u :: ts, x, h, t, ht => by
  unfold sProd at h
  rcases List.mem_cons.1 ht with rfl | ht
  ·
   intro e
   rw [e] at h
   simp only [List.length_nil, Int.natCast_zero, Int.mul_zero, w64 (x := 0) (by omega) (by omega)] at h
   exact h (sProd_zero ts)
  ·
   exact sProd_ne ts _ h t ht
theorem impl_SingMany_ev (m : List S29) : Ev (fun k => impl_SingMany.f k m) (sMany m) := by
 unfold impl_SingMany.f sMany
 refine Ev.bind (impl_MelodyValid_ev m) ?_
 by_cases hok : melOk m = true
 ·
  have hl := melOk_len hok
  rw [if_pos hok]
  refine Ev.pos hok ?_
  have := Ev.over z29 m (fun k (x : Int) i => impl_SingMany.l0 k x m m.length i) (fun x rest => sProd x rest) (fun _ _ => True) (by
   intro x _
   refine Ev.succ ?_
   simp only [impl_SingMany.l0]
   exact Ev.neg (by omega) (Ev.now _)) (by
   rintro x i rest _ hi hdr ih
   refine Ev.succ ?_
   simp only [impl_SingMany.l0]
   rw [w64 (x := (i : Int) + 1) (by omega) (by omega)]
   refine Ev.pos (by omega) (Ev.pos (by omega) (Ev.pos (by omega) (Ev.conb rfl ?_)))
   exact ih _ trivial) 0 1 (Nat.zero_le _) trivial
  simpa using this
 ·
  rw [if_neg hok]
  exact Ev.neg hok (Ev.now _)
/-- The first place with the least number, and that number. -/
def pickB (f : Nat → Int) : Nat → Int × Int
 | 0 => (-1, 0)
 | n + 1 => if (pickB f n).1 < 0 ∨ f n < (pickB f n).2 then ((n : Int), f n) else pickB f n
theorem pickB_range (f : Nat → Int) : ∀ n, (n = 0 ∧ (pickB f n).1 = -1) ∨ (0 ≤ (pickB f n).1 ∧ (pickB f n).1 < n)
 | 0 => .inl ⟨rfl, rfl⟩
 | n + 1 => by
  refine .inr ?_
  unfold pickB
  split
  ·
   exact ⟨Int.natCast_nonneg n, by show (n : Int) < ((n + 1 : Nat) : Int); omega⟩
  ·
   rename_i h
   rcases pickB_range f n with ⟨_, h0⟩ | h0
   ·
    exact absurd (.inl (by omega)) h
   ·
    omega
def stepF (hs : List (List Int)) (i : Nat) (y : Int) (j : Nat) : Int := (finC (hs.drop i)).getD j 0 + (if i = 0 then 0 else if y = (hs.getD i []).getD j 0 then 0 else 1)
def bAt (hs : List (List Int)) (i : Nat) (y : Int) : Nat := (pickB (stepF hs i y) (hs.getD i []).length).1.toNat
def lastOf (l : List Int) : Int := l.getLastD 0
def singB (hs : List (List Int)) : Nat → List Int
 | 0 => []
 | i + 1 => singB hs i ++ [(hs.getD i []).getD (bAt hs i (lastOf (singB hs i))) 0]
theorem singB_len (hs : List (List Int)) : ∀ i, (singB hs i).length = i
 | 0 => rfl
 | i + 1 => by
  unfold singB
  rw [List.length_append, singB_len hs i]
  rfl
theorem lastOf_snoc (l : List Int) (x : Int) : lastOf (l ++ [x]) = x := by simp [lastOf, List.getLastD_eq_getLast?]
def sBest (m : List S29) : List Int × Bool := if 0 < sMany m then (singB (hsOf m) m.length, true) else ([], false)

end Go.Proofs.YtiagfjbngpbejaaDoor.Pure
namespace Go.Proofs.YtiagfjbngpbejaaDoor.Pure
set_option linter.unusedVariables false
set_option linter.unusedSimpArgs false
open Go Go.RowKit Go.Proofs.YtiagfjbngpbejaaDoor.PFnSingMany Go.Proofs.YtiagfjbngpbejaaDoorW.PrintWords Go.Proofs.YtiagfjbngpbejaaDoorW.PrintLast Go.Proofs.YtiagfjbngpbejaaDoorW.PrintMore

/-- A row of whole numbers that lies apart from a singing's rows. -/
def NoB (rs : List SRow) (v : Value) : Prop := ∀ (i : Nat) (r : SRow), rs[i]? = some r → v.ownBlock ≠ some r.hb ∧ v.ownBlock ≠ some r.cb
theorem SHas.grownOwn {W W' : World} {B base : Nat} {σ : Sg} {rs : List SRow} {v : Value} {xs : List Int} {ok : Nat → Prop} (h : SHas W B σ rs) (hv : (Kd.int .i64).R 3 W base ok v xs) (hn : NoB rs v) (hg : W.grownBy W' v.ownBlock) : SHas W' B σ rs := by
 obtain ⟨cH, cC, h1, h2, h3⟩ := h.outer
 refine ⟨h.base, blk_grown h.top hg (Kd.R_ne hv h.top (by decide)), ⟨cH, cC, blk_grown h1 hg (Kd.R_ne hv h1 (by decide)), blk_grown h2 hg (Kd.R_ne hv h2 (by decide)), h3⟩, fun i r hr => ?_, h.apart⟩
 obtain ⟨a1, a2, a3, a4⟩ := h.rows i r hr
 obtain ⟨n1, n2⟩ := hn i r hr
 exact ⟨a1, a2, a3.grown hg (fun e => n1 e.symm), a4.grown hg (fun e => n2 e.symm)⟩
theorem SHas.lts {W : World} {B : Nat} {σ : Sg} {rs : List SRow} (h : SHas W B σ rs) (i : Nat) (r : SRow) (hr : rs[i]? = some r) : (B ≤ r.hb ∧ r.hb < W.heap.size) ∧ B ≤ r.cb ∧ r.cb < W.heap.size := by
 obtain ⟨a1, a2, a3, a4⟩ := h.rows i r hr
 obtain ⟨b1, _, c1⟩ := RowAt.blk a3 a2
 obtain ⟨b2, _, c2⟩ := RowAt.blk a4 (by omega)
 exact ⟨⟨b1, blk_lt c1⟩, b2, blk_lt c2⟩
set_option maxHeartbeats 4000000 in
set_option maxRecDepth 100000 in
theorem impl_SingBest_none (m : List S29) (A0 : Option Addr) (c0 : Nat) (w : World) (ht : NTab w) (hr0 : Kd.C k29 w A0 m.length m) (hc0 : m.length ≤ c0) (hs : sMany m ≤ 0) :
 Calls Tryd.prog 9 #[.slice A0 m.length c0] w fun e w' => e = .returned (.tuple #[.slice none 0 0, .bool false]) ∧ Below w.heap.size w w' := by
 obtain ⟨kk, hkk⟩ := impl_SingMany_ev m
 have HK := Aside0.mk (hkk kk (Nat.le_refl _))
 have HT := Aside0.mk ht
 have HR0 := Aside0.mk hr0
 have HC0 := Aside0.mk hc0
 have d1 : decide (sMany m ≤ 0) = true := decide_eq_true hs
 obtain ⟨x, hx⟩ : ∃ x, x = sMany m := ⟨_, rfl⟩
 rw [← hx] at d1 HK
 clear hkk ht hr0 hc0 hs hx
 go_enter Tryd.func9, Tryd.ntmps9
 go_wp2_with (first
  | (go_at_call 6; refine (impl_SingMany.calls kk _ _ m x _ HT.out HR0.out HC0.out HK.out).mono ?_; rintro e w1 ⟨rfl, hb1⟩; have HB1 := Aside0.mk hb1; clear hb1))
 go_ret2
 exact ⟨rfl, HB1.out⟩
set_option maxHeartbeats 4000000 in
set_option maxRecDepth 100000 in
theorem impl_SingBest_nil (A0 : Option Addr) (c0 : Nat) (w : World) (ht : NTab w) (hr0 : Kd.C k29 w A0 0 ([] : List S29)) (hs : 0 < sMany ([] : List S29)) :
 Calls Tryd.prog 9 #[.slice A0 0 c0] w fun e w' => ∃ v, e = .returned (.tuple #[v, .bool true]) ∧ (Kd.int .i64).R 3 w' w.heap.size (fun _ => True) v [] ∧ Below w.heap.size w w' := by
 obtain ⟨kk, hkk⟩ := impl_SingMany_ev []
 have HK := Aside0.mk (hkk kk (Nat.le_refl _))
 have HT := Aside0.mk ht
 have HR0 := Aside0.mk hr0
 have d1 : decide (sMany ([] : List S29) ≤ 0) = false := decide_eq_false (by omega)
 obtain ⟨x, hx⟩ : ∃ x, x = sMany ([] : List S29) := ⟨_, rfl⟩
 rw [← hx] at d1 HK
 clear hkk ht hr0 hs hx
 go_enter Tryd.func9, Tryd.ntmps9
 go_wp2_with (first
  | (go_at_call 6; refine (impl_SingMany.calls kk _ c0 [] x _ HT.out HR0.out (Nat.zero_le _) HK.out).mono ?_; rintro e w1 ⟨rfl, hb1⟩; have HB1 := Aside0.mk hb1; clear hb1)
  | ((with_reducible refine gate_dst (N := 16) rfl ?_); refine Kd.R_lit (Kd.int .i64) _ 3 ?hg (N := 16) ?hd (xs := ([] : List Int)) (inner := []) (ok := fun _ => True) (okp := fun _ => True) ?hr (Reps.none _ _) (fun _ hk => hk) trivial (Below.refl _ _) (Nat.le_refl _) (by simp) ?_; (case hd => rfl); (case hg => rfl); (case hr => first | (go_simp; done) | (go_simp; rfl)); intro v4 w2 ho hb _ _; have HO2 := Aside0.mk (Kd.R_lower ho HB1.out.size); have HB2 := Aside0.mk (below_step HB1.out hb); clear ho hb))
 go_ret2
 exact ⟨_, rfl, HO2.out, HB2.out⟩

end Go.Proofs.YtiagfjbngpbejaaDoor.Pure
namespace Go.Proofs.YtiagfjbngpbejaaDoor.Pure
set_option linter.unusedVariables false
set_option linter.unusedSimpArgs false
open Go Go.RowKit Go.Proofs.YtiagfjbngpbejaaDoor.PFnSingMany Go.Proofs.YtiagfjbngpbejaaDoorW.PrintWords Go.Proofs.YtiagfjbngpbejaaDoorW.PrintLast Go.Proofs.YtiagfjbngpbejaaDoorW.PrintMore

theorem gset (hs : List (List Int)) (y : Int) (i j : Nat) : stepF hs i y j = (finC (hs.drop i)).getD j 0 + (if i = 0 then 0 else if y = (hs.getD i []).getD j 0 then 0 else 1) := rfl
set_option maxHeartbeats 40000000 in
set_option maxRecDepth 100000 in
theorem impl_SingBest_some (m : List S29) (A0 : Option Addr) (c0 : Nat) (w : World) (ht : NTab w) (hr0 : Kd.C k29 w A0 m.length m) (hc0 : m.length ≤ c0) (hs : 0 < sMany m) (hm0 : 0 < m.length) :
 Calls Tryd.prog 9 #[.slice A0 m.length c0] w fun e w' => ∃ v, e = .returned (.tuple #[v, .bool true]) ∧ (Kd.int .i64).R 3 w' w.heap.size (fun _ => True) v (singB (hsOf m) m.length) ∧ Below w.heap.size w w' := by
 obtain ⟨kk, hkk⟩ := impl_SingMany_ev m
 have HK := Aside0.mk (hkk kk (Nat.le_refl _))
 have hok : melOk m = true := by
  unfold sMany at hs
  split at hs
  ·
   assumption
  ·
   omega
 have hm : m.length ≤ 24 := melOk_len hok
 have hne : ∀ t ∈ m, hexAll t ≠ [] := by
  refine sProd_ne m 1 ?_
  unfold sMany at hs
  rw [if_pos hok] at hs
  omega
 have hne2 : ∀ h ∈ hsOf m, h ≠ [] := by
  intro h hh
  obtain ⟨t, ht, rfl⟩ := List.mem_map.1 hh
  exact hne t ht
 obtain ⟨H, hH⟩ : ∃ H, H = hsOf m := ⟨_, rfl⟩
 have hhl : H.length = m.length := by rw [hH]; exact List.length_map ..
 have h7 : ∀ h ∈ H, h.length ≤ 7 := by rw [hH]; exact hs7 m
 have d1 : decide (sMany m ≤ 0) = false := decide_eq_false (by omega)
 have d2 : ((m.length : Int) == 0) = false := beq_eq_false_iff_ne.mpr (by omega)
 have d3 : decide ((m.length : Int) = 0) = false := decide_eq_false (by omega)
 obtain ⟨x, hx⟩ : ∃ x, x = sMany m := ⟨_, rfl⟩
 rw [← hx] at d1 HK
 rw [← hH] at hne2
 have HHH := Aside0.mk (And.intro hhl (And.intro h7 (And.intro hne2 (And.intro hm (And.intro hm0 (And.intro hne hH))))))
 rw [← hH]
 have HT := Aside0.mk ht
 have HR0 := Aside0.mk hr0
 have HC0 := Aside0.mk hc0
 have hinf := info3
 clear hkk hok hm hne hne2 hhl h7 ht hr0 hc0 hs hx hm0 hH
 go_enter Tryd.func9, Tryd.ntmps9
 go_wp2_with (first
  | (go_at_call 6; refine (impl_SingMany.calls kk _ _ m x _ HT.out HR0.out HC0.out HK.out).mono ?_; rintro e w1 ⟨rfl, hb1⟩; have HB1 := Aside0.mk hb1; clear hb1)
  | ((with_reducible refine gate_dst (N := 16) rfl ?_); refine Kd.R_lit (Kd.int .i64) _ 3 ?hg (N := 16) ?hd (xs := ([] : List Int)) (inner := []) (ok := fun _ => True) (okp := fun _ => True) ?hr (Reps.none _ _) (fun _ hk => hk) trivial (Below.refl _ _) (Nat.le_refl _) (by simp) ?_; (case hd => rfl); (case hg => rfl); (case hr => first | (go_simp; done) | (go_simp; rfl)); intro v4 w2 ho hb _ _; have HO2 := Aside0.mk (Kd.R_lower ho HB1.out.size); have HB2 := Aside0.mk (below_step HB1.out hb); clear ho hb)
  | (go_at_call 25; refine (newSinging_calls m _ _ _ (HT.out.below HB2.out) (Kd.C_below HR0.out HB2.out) HC0.out HHH.out.2.2.2.1 HHH.out.2.2.2.2.1 HHH.out.2.2.2.2.2.1).mono ?_; rintro e w3 ⟨σ, rs, rfl, hS, hF, hb⟩; have SH3 := Aside0.mk hS; rw [← HHH.out.2.2.2.2.2.2] at hF; have HF := Aside0.mk hF; have HO3 := Aside0.mk (Kd.R_below HO2.out hb); have HB3 := Aside0.mk (below_step HB2.out hb); have NB3 : Aside0 (NoB rs v4) := ⟨fun i r hr => by have h1 := Kd.R_lt HO2.out; have h2 := hS.lts i r hr; exact ⟨fun e => by have := h1 _ e; omega, fun e => by have := h1 _ e; omega⟩⟩; clear hS hF hb)
  | ((with_reducible refine gate_dst (N := 6) rfl ?_); refine box_event ?hg (N := 6) ?hd (cs := #[.int .i64 0, .int .i64 0]) (t := 57) ?hr ?_; (case hd => rfl); (case hg => rfl); (case hr => first | (go_simp; done) | (go_simp; rfl)); intro g6 hg w4 hbox hb; have K6 := Aside0.mk hbox; have SH4 := Aside0.mk (SH3.out.below hb); have HO4 := Aside0.mk (Kd.R_below HO3.out hb); have HB4 := Aside0.mk (below_step HB3.out hb); have G6 : Aside0 (w.heap.size ≤ g6) := ⟨by rw [hg]; exact HB3.out.size⟩; clear hb hbox hg)
  | ((with_reducible refine gate_ (.store 57 (.tmp 6) (.tmp 23)) rfl ?_); (refine box_store rfl rfl 57 (.tmp 6) (.tmp 23) rfl (g := g6) (off := 0) (new := #[.int .i64 0, .int .i64 0]) _ [.int .i64 0, .int .i64 0] K6.out rfl rfl rfl (by kernel_rfl) (by simp [Value.oneCell']) (Nat.le_of_ble_eq_true rfl) rfl ?_); intro w5 hh hg hz; have SH5 := Aside0.mk (SH4.out.grownSpl K6.out hg); have HO5 := Aside0.mk (Kd.R_reok rfl (Kd.R_grown (Kd.R_tight rfl HO4.out) hg (fun k hk e => Kd.R_ne HO4.out K6.out (by decide) (e.symm.trans hk))) (fun _ _ => trivial)); have HB5 := Aside0.mk (below_grown HB4.out hg G6.out HB4.out.size); have K65 := Aside0.mk hh; clear hh hg hz))
 obtain ⟨B, hB⟩ : ∃ B, B = w2.heap.size := ⟨_, rfl⟩
 rw [← hB] at SH5
 clear hB HO2 HB2 HB1 SH3 HO3 HB3 SH4 HO4 HB4 K6
 obtain ⟨n, hn⟩ : ∃ n, n = rs.length := ⟨_, rfl⟩
 have HNN : Aside0 (n = rs.length ∧ n = m.length) := ⟨hn, by rw [hn, HF.out.1, HHH.out.1]⟩
 clear hn
 go_loopg [4, 26] n (fun kq v4 v26 w' => ∃ (i : Nat) (a b : Int), v26 = .int .i64 (i : Int) ∧ Aside0 (kq = n - i ∧ i ≤ n) ∧ Aside0 ((Kd.int .i64).R 3 w' w.heap.size (fun _ => True) v4 (singB H i)) ∧ Aside0 (NoB rs v4) ∧ Aside0 (SHas w' B σ rs) ∧ Aside0 (w'.heap[g6]? = some (.cells #[.int .i64 a, .int .i64 b] 57 (0, 0))) ∧ Aside0 (0 < i → ∃ bn : Nat, a = ((i - 1 : Nat) : Int) ∧ b = (bn : Int) ∧ bn < (H.getD (i - 1) []).length ∧ (H.getD (i - 1) []).getD bn 0 = lastOf (singB H i)) ∧ Aside0 (Below w.heap.size w w'))
 case atStart => exact ⟨0, 0, 0, rfl, ⟨by omega⟩, HO5, NB3, SH5, K65, ⟨fun h => absurd h (Nat.lt_irrefl _)⟩, HB5⟩
 case round =>
  clear HO5 NB3 SH5 K65 HB5 d1
  obtain ⟨i, a, b6, rfl, HX, HO, NB, SH, K6, H6, HB⟩ := hrel
  obtain ⟨hkq, hin⟩ := HX.out
  clear HX
  by_cases hi : i < n
  rotate_left
  ·
   obtain rfl : i = n := by omega
   have d4 : decide ((i : Int) < (m.length : Int)) = false := decide_eq_false (by have := HNN.out.2; omega)
   have d4n : decide (i < m.length) = false := decide_eq_false (by have := HNN.out.2; omega)
   go_wp2
   go_ret2
   exact ⟨_, rfl, by rw [← HNN.out.2]; exact HO.out, HB.out⟩
  have d4 : decide ((i : Int) < (m.length : Int)) = true := decide_eq_true (by have := HNN.out.2; omega)
  have d4n : decide (i < m.length) = true := decide_eq_true (by have := HNN.out.2; omega)
  have q0 := eq_true (show (0 : Int) ≤ (i : Int) by omega)
  have q1 := eq_true (show (i : Int) < (n : Int) by omega)
  have p1 : IntKind.i64.wrap ((i : Int) + 1) = (i : Int) + 1 := by have := HNN.out.2; have := HHH.out.2.2.2.1; rw [Go.IntKind.wrap_i64]; omega
  have NX : Aside0 (n - (i + 1) < gk ∧ i + 1 ≤ n ∧ i < n) := ⟨by omega, by omega, hi⟩
  obtain ⟨r, hr⟩ : ∃ r, rs[i]? = some r := ⟨_, List.getElem?_eq_getElem (by have := HNN.out.1; omega)⟩
  obtain ⟨f1, f2⟩ := HF.out.2 i r hr
  have f2 : r.cs = finC (H.drop i) := f2
  obtain ⟨rr1, rr2, -, -⟩ := SH.out.rows i r hr
  obtain ⟨L, hL⟩ : ∃ L, L = r.hx.length := ⟨_, rfl⟩
  obtain ⟨y, hy⟩ : ∃ y, y = lastOf (singB H i) := ⟨_, rfl⟩
  obtain ⟨f, hf⟩ : ∃ f, f = stepF H i y := ⟨_, rfl⟩
  have hfa := finC_at H HHH.out.2.2.1 i (by have := HHH.out.1; have := HNN.out.2; omega)
  rw [← f1, ← f2] at hfa
  have HRW := Aside0.mk (And.intro hr (And.intro f1 (And.intro f2 (And.intro rr1 (And.intro rr2 (And.intro hL (And.intro hy (And.intro hf hfa.2))))))))
  have hL7 : L ≤ 7 := by
   rw [hL, f1, List.getD_eq_getElem?_getD, List.getElem?_eq_getElem (show i < H.length by have := HHH.out.1; have := HNN.out.2; omega)]
   exact HHH.out.2.1 _ (List.getElem_mem _)
  have HL7 := Aside0.mk hL7
  clear hkq hin hi hr f1 f2 rr1 rr2 hL hy hf hfa hL7
  have G6r := Aside0.mk (blk_lt K6.out)
  go_wp2_with (first
   | ((with_reducible refine gate_dst (N := 8) rfl ?_); refine box_event ?hg (N := 8) ?hd (cs := #[.int .i64 0, .int .i64 0]) (t := 57) ?hr ?_; (case hd => rfl); (case hg => rfl); (case hr => first | (go_simp; done) | (go_simp; rfl)); intro g8 hg w2 hbox hb; have K8 := Aside0.mk hbox; have SH2 := Aside0.mk (SH.out.below hb); have HO2 := Aside0.mk (Kd.R_below HO.out hb); have HB2 := Aside0.mk (below_step HB.out hb); have K62 := Aside0.mk (blk_below K6.out hb); have G8 : Aside0 (w.heap.size ≤ g8 ∧ g6 < g8) := ⟨by rw [hg]; exact HB.out.size, by rw [hg]; exact G6r.out⟩; clear hb hbox hg)
   | ((with_reducible refine gate_ (.store 57 (.tmp 8) (.tmp 30)) rfl ?_); (refine box_store rfl rfl 57 (.tmp 8) (.tmp 30) rfl (g := g8) (off := 0) (new := #[.int .i64 (i : Int), .int .i64 (-1)]) _ [.int .i64 (i : Int), .int .i64 (-1)] K8.out rfl rfl rfl (by kernel_rfl) (by simp [Value.oneCell']) (Nat.le_of_ble_eq_true rfl) rfl ?_); intro w3 hh hg hz; have SH3 := Aside0.mk (SH2.out.grownSpl K8.out hg); have HO3 := Aside0.mk (Kd.R_reok rfl (Kd.R_grown (Kd.R_tight rfl HO2.out) hg (fun k hk e => Kd.R_ne HO2.out K8.out (by decide) (e.symm.trans hk))) (fun _ _ => trivial)); have HB3 := Aside0.mk (below_grown HB2.out hg G8.out.1 HB2.out.size); have K83 := Aside0.mk hh; have K63 := Aside0.mk (blk_grown K62.out hg (fun h => by have h2 := Option.some.inj h; have h3 := G8.out.2; omega)); have m0 : w3.cell? ⟨σ.gs, 1, none⟩ = some (.slice (some ⟨σ.bC, 0, none⟩) n σ.cC) := (by rw [HNN.out.1]; exact SH3.out.c1); have m1 : w3.cell? ⟨σ.bC, i, none⟩ = some (.slice (some ⟨r.cb, 0, none⟩) L r.cc) := (by have h2 := SH3.out.crow HRW.out.1; unfold SRow.cv at h2; rw [HRW.out.2.2.2.1, ← HRW.out.2.2.2.2.2.1] at h2; exact h2); clear hh hg hz))
  obtain ⟨wo, hwo⟩ : ∃ x, x = wr := ⟨_, rfl⟩
  subst hwo
  go_loopg [9, 39] L (fun kq v9 v39 w' => ∃ (j : Nat), v39 = .int .i64 (j : Int) ∧ v9 = .int .i64 (pickB f j).2 ∧ Aside0 (kq = L - j ∧ j ≤ L) ∧ Aside0 ((Kd.int .i64).R 3 w' w.heap.size (fun _ => True) u4 (singB H i)) ∧ Aside0 (SHas w' B σ rs) ∧ Aside0 (w'.heap[g6]? = some (.cells #[.int .i64 a, .int .i64 b6] 57 (0, 0))) ∧ Aside0 (w'.heap[g8]? = some (.cells #[.int .i64 (i : Int), .int .i64 (pickB f j).1] 57 (0, 0))) ∧ Aside0 (Below w.heap.size w w'))
  case atStart => exact ⟨0, rfl, rfl, ⟨by omega⟩, HO3, SH3, K63, K83, HB3⟩
  case round =>
   clear HO HO2 HO3 SH SH2 SH3 K6 K62 K63 K8 K83 HB HB2 HB3 m0 m1 G6r
   obtain ⟨j, rfl, rfl, HX, HO, SH, K6, K8, HB⟩ := hrel
   obtain ⟨hkq, hjL⟩ := HX.out
   clear HX
   obtain ⟨b, hb⟩ : ∃ b, b = (pickB f j).1 := ⟨_, rfl⟩
   obtain ⟨l, hl⟩ : ∃ l, l = (pickB f j).2 := ⟨_, rfl⟩
   rw [← hb] at K8
   rw [← hl]
   have HBL := Aside0.mk (And.intro hb hl)
   by_cases hj : j < L
   ·
    skip
    have d5 : decide ((j : Int) < (L : Int)) = true := decide_eq_true (by omega)
    have d5n : decide (j < L) = true := decide_eq_true hj
    have q2 := eq_true (show (0 : Int) ≤ (j : Int) by omega)
    have q3 := eq_true (show (j : Int) < (L : Int) by omega)
    have p2 : IntKind.i64.wrap ((j : Int) + 1) = (j : Int) + 1 := by have := HL7.out; rw [Go.IntKind.wrap_i64]; omega
    have JX : Aside0 (L - (j + 1) < gk ∧ j + 1 ≤ L ∧ j < L) := ⟨by omega, by omega, hj⟩
    obtain ⟨c, hc⟩ : ∃ c, c = r.cs.getD j 0 := ⟨_, rfl⟩
    obtain ⟨h, hh⟩ : ∃ h, h = r.hx.getD j 0 := ⟨_, rfl⟩
    have hcb := HRW.out.2.2.2.2.2.2.2.2 j (by rw [← HRW.out.2.2.2.2.2.1]; exact hj)
    rw [← hc] at hcb
    have hfj : f j = c + (if i = 0 then 0 else if y = h then 0 else 1) := by
     rw [HRW.out.2.2.2.2.2.2.2.1, gset, ← HRW.out.2.2.1, ← HRW.out.2.1, ← hc, ← hh]
    obtain ⟨x, hx⟩ : ∃ x, x = f j := ⟨_, rfl⟩
    have hpk : pickB f (j + 1) = if b < 0 ∨ x < l then ((j : Int), x) else pickB f j := by rw [hb, hl, hx]; rfl
    have HPK := Aside0.mk hpk
    have HCH := Aside0.mk (And.intro hc (And.intro hh (And.intro hx (And.intro hfj hcb))))
    have y0 : wr.cell? ⟨r.cb, j, none⟩ = some (.int .i64 c) := by rw [hc]; exact SH.out.ccell HRW.out.1 j (by rw [HRW.out.2.2.2.1, ← HRW.out.2.2.2.2.2.1]; exact hj)
    have hjH : j < r.hx.length := by rw [← HRW.out.2.2.2.2.2.1]; exact hj
    have HJH := Aside0.mk hjH
    have G68r := Aside0.mk (And.intro (blk_lt K6.out) (blk_lt K8.out))
    clear hkq hjL hb hl hj hc hh hcb hfj hx hpk hjH
    by_cases hi0 : i = 0
    ·
     have d6 : decide ((0 : Int) < (i : Int)) = false := decide_eq_false (by omega)
     have d6' : decide ((i : Int) > 0) = false := decide_eq_false (by omega)
     have d6n : decide (0 < i) = false := decide_eq_false (by omega)
     have hxc : x = c := by rw [HCH.out.2.2.1, HCH.out.2.2.2.1, if_pos hi0, Int.add_zero]
     subst hxc
     clear hi0
     by_cases hb0 : b < 0
     ·
      have d7 : decide (b < 0) = true := decide_eq_true hb0
      have e9 := HPK.out
      rw [if_pos (.inl hb0)] at e9
      have HE := Aside0.mk e9
      clear e9 hb0
      go_wp2_with (first
       | ((with_reducible refine gate_dst (N := 12) rfl ?_); refine box_event ?hg (N := 12) ?hd (cs := #[.int .i64 0, .int .i64 0]) (t := 57) ?hr ?_; (case hd => rfl); (case hg => rfl); (case hr => first | (go_simp; done) | (go_simp; rfl)); intro gn hg w2 hbox hb; have KN := Aside0.mk hbox; have SH2 := Aside0.mk (SH.out.below hb); have HO2 := Aside0.mk (Kd.R_below HO.out hb); have HB2 := Aside0.mk (below_step HB.out hb); have K62 := Aside0.mk (blk_below K6.out hb); have K82 := Aside0.mk (blk_below K8.out hb); have GN : Aside0 (w.heap.size ≤ gn ∧ g6 < gn ∧ g8 < gn) := ⟨by rw [hg]; exact HB.out.size, by rw [hg]; exact G68r.out.1, by rw [hg]; exact G68r.out.2⟩; clear hb hbox hg)
       | ((with_reducible refine gate_ (.store 57 (.tmp 12) (.tmp 46)) rfl ?_); (refine box_store rfl rfl 57 (.tmp 12) (.tmp 46) rfl (g := gn) (off := 0) (new := #[.int .i64 (i : Int), .int .i64 (j : Int)]) _ [.int .i64 (i : Int), .int .i64 (j : Int)] KN.out rfl rfl rfl (by kernel_rfl) (by simp [Value.oneCell']) (Nat.le_of_ble_eq_true rfl) rfl ?_); intro w3 hh hg hz; have SH3 := Aside0.mk (SH2.out.grownSpl KN.out hg); have HO3 := Aside0.mk (Kd.R_reok rfl (Kd.R_grown (Kd.R_tight rfl HO2.out) hg (fun k hk e => Kd.R_ne HO2.out KN.out (by decide) (e.symm.trans hk))) (fun _ _ => trivial)); have HB3 := Aside0.mk (below_grown HB2.out hg GN.out.1 HB2.out.size); have KN3 := Aside0.mk hh; have K63 := Aside0.mk (blk_grown K62.out hg (fun h => by have h2 := Option.some.inj h; have h3 := GN.out; omega)); have K83 := Aside0.mk (blk_grown K82.out hg (fun h => by have h2 := Option.some.inj h; have h3 := GN.out; omega)); have e0 : w3.cell? ⟨g8, 1, none⟩ = some (.int .i64 b) := (blk_cell K83.out 1).trans rfl; have e1 : w3.cell? ⟨gn, 0, none⟩ = some (.int .i64 (i : Int)) := (blk_cell KN3.out 0).trans rfl; have e2 : w3.cell? ⟨gn, 1, none⟩ = some (.int .i64 (j : Int)) := (blk_cell KN3.out 1).trans rfl; clear hh hg hz)
       | ((with_reducible refine gate_ (.store 57 (.tmp 8) (.tmp 63)) rfl ?_); (refine box_store rfl rfl 57 (.tmp 8) (.tmp 63) rfl (g := g8) (off := 0) (new := #[.int .i64 (i : Int), .int .i64 (j : Int)]) _ [.int .i64 (i : Int), .int .i64 (j : Int)] K83.out rfl rfl rfl (by kernel_rfl) (by simp [Value.oneCell']) (Nat.le_of_ble_eq_true rfl) rfl ?_); intro w9 hh hg hz; have SH9 := Aside0.mk (SH3.out.grownSpl K83.out hg); have HO9 := Aside0.mk (Kd.R_reok rfl (Kd.R_grown (Kd.R_tight rfl HO3.out) hg (fun k hk e => Kd.R_ne HO3.out K83.out (by decide) (e.symm.trans hk))) (fun _ _ => trivial)); have HB9 := Aside0.mk (below_grown HB3.out hg G8.out.1 HB3.out.size); have K89 := Aside0.mk hh; have K69 := Aside0.mk (blk_grown K63.out hg (fun h => by have h2 := Option.some.inj h; have h3 := G8.out.2; omega)); clear hh hg hz))
      go_roundg (L - (j + 1))
      case measure => exact JX.out.1
      case rel => exact ⟨j + 1, by simp, by rw [HE.out], ⟨rfl, JX.out.2.1⟩, HO9, SH9, K69, ⟨by rw [HE.out]; exact K89.out⟩, HB9⟩
     have d7 : decide (b < 0) = false := decide_eq_false hb0
     by_cases hx0 : x < l
     ·
      have d8 : decide (x < l) = true := decide_eq_true hx0
      have e9 := HPK.out
      rw [if_pos (.inr hx0)] at e9
      have HE := Aside0.mk e9
      clear e9 hb0 hx0
      go_wp2_with (first
       | ((with_reducible refine gate_dst (N := 12) rfl ?_); refine box_event ?hg (N := 12) ?hd (cs := #[.int .i64 0, .int .i64 0]) (t := 57) ?hr ?_; (case hd => rfl); (case hg => rfl); (case hr => first | (go_simp; done) | (go_simp; rfl)); intro gn hg w2 hbox hb; have KN := Aside0.mk hbox; have SH2 := Aside0.mk (SH.out.below hb); have HO2 := Aside0.mk (Kd.R_below HO.out hb); have HB2 := Aside0.mk (below_step HB.out hb); have K62 := Aside0.mk (blk_below K6.out hb); have K82 := Aside0.mk (blk_below K8.out hb); have GN : Aside0 (w.heap.size ≤ gn ∧ g6 < gn ∧ g8 < gn) := ⟨by rw [hg]; exact HB.out.size, by rw [hg]; exact G68r.out.1, by rw [hg]; exact G68r.out.2⟩; clear hb hbox hg)
       | ((with_reducible refine gate_ (.store 57 (.tmp 12) (.tmp 46)) rfl ?_); (refine box_store rfl rfl 57 (.tmp 12) (.tmp 46) rfl (g := gn) (off := 0) (new := #[.int .i64 (i : Int), .int .i64 (j : Int)]) _ [.int .i64 (i : Int), .int .i64 (j : Int)] KN.out rfl rfl rfl (by kernel_rfl) (by simp [Value.oneCell']) (Nat.le_of_ble_eq_true rfl) rfl ?_); intro w3 hh hg hz; have SH3 := Aside0.mk (SH2.out.grownSpl KN.out hg); have HO3 := Aside0.mk (Kd.R_reok rfl (Kd.R_grown (Kd.R_tight rfl HO2.out) hg (fun k hk e => Kd.R_ne HO2.out KN.out (by decide) (e.symm.trans hk))) (fun _ _ => trivial)); have HB3 := Aside0.mk (below_grown HB2.out hg GN.out.1 HB2.out.size); have KN3 := Aside0.mk hh; have K63 := Aside0.mk (blk_grown K62.out hg (fun h => by have h2 := Option.some.inj h; have h3 := GN.out; omega)); have K83 := Aside0.mk (blk_grown K82.out hg (fun h => by have h2 := Option.some.inj h; have h3 := GN.out; omega)); have e0 : w3.cell? ⟨g8, 1, none⟩ = some (.int .i64 b) := (blk_cell K83.out 1).trans rfl; have e1 : w3.cell? ⟨gn, 0, none⟩ = some (.int .i64 (i : Int)) := (blk_cell KN3.out 0).trans rfl; have e2 : w3.cell? ⟨gn, 1, none⟩ = some (.int .i64 (j : Int)) := (blk_cell KN3.out 1).trans rfl; clear hh hg hz)
       | ((with_reducible refine gate_ (.store 57 (.tmp 8) (.tmp 63)) rfl ?_); (refine box_store rfl rfl 57 (.tmp 8) (.tmp 63) rfl (g := g8) (off := 0) (new := #[.int .i64 (i : Int), .int .i64 (j : Int)]) _ [.int .i64 (i : Int), .int .i64 (j : Int)] K83.out rfl rfl rfl (by kernel_rfl) (by simp [Value.oneCell']) (Nat.le_of_ble_eq_true rfl) rfl ?_); intro w9 hh hg hz; have SH9 := Aside0.mk (SH3.out.grownSpl K83.out hg); have HO9 := Aside0.mk (Kd.R_reok rfl (Kd.R_grown (Kd.R_tight rfl HO3.out) hg (fun k hk e => Kd.R_ne HO3.out K83.out (by decide) (e.symm.trans hk))) (fun _ _ => trivial)); have HB9 := Aside0.mk (below_grown HB3.out hg G8.out.1 HB3.out.size); have K89 := Aside0.mk hh; have K69 := Aside0.mk (blk_grown K63.out hg (fun h => by have h2 := Option.some.inj h; have h3 := G8.out.2; omega)); clear hh hg hz))
      go_roundg (L - (j + 1))
      case measure => exact JX.out.1
      case rel => exact ⟨j + 1, by simp, by rw [HE.out], ⟨rfl, JX.out.2.1⟩, HO9, SH9, K69, ⟨by rw [HE.out]; exact K89.out⟩, HB9⟩
     have d8 : decide (x < l) = false := decide_eq_false hx0
     have e9 := HPK.out
     rw [if_neg (by omega)] at e9
     have HE := Aside0.mk e9
     clear e9 hb0 hx0
     go_wp2_with (first
      | ((with_reducible refine gate_dst (N := 12) rfl ?_); refine box_event ?hg (N := 12) ?hd (cs := #[.int .i64 0, .int .i64 0]) (t := 57) ?hr ?_; (case hd => rfl); (case hg => rfl); (case hr => first | (go_simp; done) | (go_simp; rfl)); intro gn hg w2 hbox hb; have KN := Aside0.mk hbox; have SH2 := Aside0.mk (SH.out.below hb); have HO2 := Aside0.mk (Kd.R_below HO.out hb); have HB2 := Aside0.mk (below_step HB.out hb); have K62 := Aside0.mk (blk_below K6.out hb); have K82 := Aside0.mk (blk_below K8.out hb); have GN : Aside0 (w.heap.size ≤ gn ∧ g6 < gn ∧ g8 < gn) := ⟨by rw [hg]; exact HB.out.size, by rw [hg]; exact G68r.out.1, by rw [hg]; exact G68r.out.2⟩; clear hb hbox hg)
      | ((with_reducible refine gate_ (.store 57 (.tmp 12) (.tmp 46)) rfl ?_); (refine box_store rfl rfl 57 (.tmp 12) (.tmp 46) rfl (g := gn) (off := 0) (new := #[.int .i64 (i : Int), .int .i64 (j : Int)]) _ [.int .i64 (i : Int), .int .i64 (j : Int)] KN.out rfl rfl rfl (by kernel_rfl) (by simp [Value.oneCell']) (Nat.le_of_ble_eq_true rfl) rfl ?_); intro w3 hh hg hz; have SH3 := Aside0.mk (SH2.out.grownSpl KN.out hg); have HO3 := Aside0.mk (Kd.R_reok rfl (Kd.R_grown (Kd.R_tight rfl HO2.out) hg (fun k hk e => Kd.R_ne HO2.out KN.out (by decide) (e.symm.trans hk))) (fun _ _ => trivial)); have HB3 := Aside0.mk (below_grown HB2.out hg GN.out.1 HB2.out.size); have KN3 := Aside0.mk hh; have K63 := Aside0.mk (blk_grown K62.out hg (fun h => by have h2 := Option.some.inj h; have h3 := GN.out; omega)); have K83 := Aside0.mk (blk_grown K82.out hg (fun h => by have h2 := Option.some.inj h; have h3 := GN.out; omega)); have e0 : w3.cell? ⟨g8, 1, none⟩ = some (.int .i64 b) := (blk_cell K83.out 1).trans rfl; have e1 : w3.cell? ⟨gn, 0, none⟩ = some (.int .i64 (i : Int)) := (blk_cell KN3.out 0).trans rfl; have e2 : w3.cell? ⟨gn, 1, none⟩ = some (.int .i64 (j : Int)) := (blk_cell KN3.out 1).trans rfl; clear hh hg hz))
     go_roundg (L - (j + 1))
     case measure => exact JX.out.1
     case rel => exact ⟨j + 1, by simp, by rw [HE.out, HBL.out.2], ⟨rfl, JX.out.2.1⟩, HO3, SH3, K63, ⟨by rw [HE.out, ← HBL.out.1]; exact K83.out⟩, HB3⟩
    have d6 : decide ((0 : Int) < (i : Int)) = true := decide_eq_true (by omega)
    have d6' : decide ((i : Int) > 0) = true := decide_eq_true (by omega)
    have d6n : decide (0 < i) = true := decide_eq_true (by omega)
    obtain ⟨d, hd⟩ : ∃ d : Int, d = if y = h then 0 else 1 := ⟨_, rfl⟩
    have HD := Aside0.mk hd
    have hdb : 0 ≤ d ∧ d ≤ 1 := by rw [hd]; split <;> omega
    have pc : IntKind.i64.wrap (c + d) = x := by
     have h1 := HCH.out.2.2.2.2
     have h2 := HHH.out.1
     have h3 := HHH.out.2.2.2.1
     rw [HCH.out.2.2.1, HCH.out.2.2.2.1, if_neg hi0, ← hd, Go.IntKind.wrap_i64]
     omega
    obtain ⟨i1, hi1⟩ : ∃ i1, i1 = i - 1 := ⟨_, rfl⟩
    obtain ⟨bn, ha, hbn, hbl, hbv⟩ := H6.out (by omega)
    rw [← hi1] at ha hbl hbv
    obtain ⟨p, hp⟩ : ∃ p, rs[i1]? = some p := ⟨_, List.getElem?_eq_getElem (by have := HNN.out.1; have := NX.out.2.2; omega)⟩
    have hp1 := (HF.out.2 i1 p hp).1
    have HI1 := Aside0.mk (And.intro hi1 (And.intro (show i1 < n by have := NX.out.2.2; omega) (And.intro hp (And.intro (show bn < p.hx.length by rw [hp1]; exact hbl) (show p.hx.getD bn 0 = y by rw [hp1, HRW.out.2.2.2.2.2.2.1]; exact hbv)))))
    rw [ha, hbn] at K6
    clear hi0 hd hdb hi1 hbl hbv hp hp1
    subst ha
    subst hbn
    by_cases hb0 : b < 0
    ·
     have d7 : decide (b < 0) = true := decide_eq_true hb0
     have e9 := HPK.out
     rw [if_pos (.inl hb0)] at e9
     have HE := Aside0.mk e9
     clear e9 hb0
     go_wp2_with (first
      | ((with_reducible refine gate_dst (N := 12) rfl ?_); refine box_event ?hg (N := 12) ?hd (cs := #[.int .i64 0, .int .i64 0]) (t := 57) ?hr ?_; (case hd => rfl); (case hg => rfl); (case hr => first | (go_simp; done) | (go_simp; rfl)); intro gn hg w2 hbox hb; have KN := Aside0.mk hbox; have SH2 := Aside0.mk (SH.out.below hb); have HO2 := Aside0.mk (Kd.R_below HO.out hb); have HB2 := Aside0.mk (below_step HB.out hb); have K62 := Aside0.mk (blk_below K6.out hb); have K82 := Aside0.mk (blk_below K8.out hb); have GN : Aside0 (w.heap.size ≤ gn ∧ g6 < gn ∧ g8 < gn) := ⟨by rw [hg]; exact HB.out.size, by rw [hg]; exact G68r.out.1, by rw [hg]; exact G68r.out.2⟩; clear hb hbox hg)
      | ((with_reducible refine gate_ (.store 57 (.tmp 12) (.tmp 46)) rfl ?_); (refine box_store rfl rfl 57 (.tmp 12) (.tmp 46) rfl (g := gn) (off := 0) (new := #[.int .i64 (i : Int), .int .i64 (j : Int)]) _ [.int .i64 (i : Int), .int .i64 (j : Int)] KN.out rfl rfl rfl (by kernel_rfl) (by simp [Value.oneCell']) (Nat.le_of_ble_eq_true rfl) rfl ?_); intro w3 hh hg hz; have SH3 := Aside0.mk (SH2.out.grownSpl KN.out hg); have HO3 := Aside0.mk (Kd.R_reok rfl (Kd.R_grown (Kd.R_tight rfl HO2.out) hg (fun k hk e => Kd.R_ne HO2.out KN.out (by decide) (e.symm.trans hk))) (fun _ _ => trivial)); have HB3 := Aside0.mk (below_grown HB2.out hg GN.out.1 HB2.out.size); have KN3 := Aside0.mk hh; have K63 := Aside0.mk (blk_grown K62.out hg (fun h => by have h2 := Option.some.inj h; have h3 := GN.out; omega)); have K83 := Aside0.mk (blk_grown K82.out hg (fun h => by have h2 := Option.some.inj h; have h3 := GN.out; omega)); have e3 : w3.cell? ⟨g6, 0, none⟩ = some (.int .i64 (i1 : Int)) := (blk_cell K63.out 0).trans rfl; have e4 : w3.cell? ⟨g6, 1, none⟩ = some (.int .i64 (bn : Int)) := (blk_cell K63.out 1).trans rfl; have e1 : w3.cell? ⟨gn, 0, none⟩ = some (.int .i64 (i : Int)) := (blk_cell KN3.out 0).trans rfl; have e2 : w3.cell? ⟨gn, 1, none⟩ = some (.int .i64 (j : Int)) := (blk_cell KN3.out 1).trans rfl; clear hh hg hz)
      | (go_at_call 26; refine (sing_change_calls σ.gs σ.bH σ.cH n i1 bn i j p.hb p.hx.length p.hc r.hb r.hx.length r.hc y h _ (by rw [HNN.out.1]; exact SH3.out.c0) HI1.out.2.1 NX.out.2.2 (SH3.out.hrow HI1.out.2.2.1) (SH3.out.hrow HRW.out.1) HI1.out.2.2.2.1 HJH.out (by rw [← HI1.out.2.2.2.2]; exact SH3.out.hcell HI1.out.2.2.1 bn HI1.out.2.2.2.1) (by rw [HCH.out.2.1]; exact SH3.out.hcell HRW.out.1 j HJH.out)).mono ?_; rintro e w4 ⟨rfl, hb4⟩; rw [← HD.out]; have SH4 := Aside0.mk (SH3.out.below hb4); have HO4 := Aside0.mk (Kd.R_below HO3.out hb4); have HB4 := Aside0.mk (below_step HB3.out hb4); have KN4 := Aside0.mk (blk_below KN3.out hb4); have K64 := Aside0.mk (blk_below K63.out hb4); have K84 := Aside0.mk (blk_below K83.out hb4); have e0 : w4.cell? ⟨g8, 1, none⟩ = some (.int .i64 b) := (blk_cell K84.out 1).trans rfl; have e1 : w4.cell? ⟨gn, 0, none⟩ = some (.int .i64 (i : Int)) := (blk_cell KN4.out 0).trans rfl; have e2 : w4.cell? ⟨gn, 1, none⟩ = some (.int .i64 (j : Int)) := (blk_cell KN4.out 1).trans rfl; clear hb4)
      | ((with_reducible refine gate_ (.store 57 (.tmp 8) (.tmp 63)) rfl ?_); (refine box_store rfl rfl 57 (.tmp 8) (.tmp 63) rfl (g := g8) (off := 0) (new := #[.int .i64 (i : Int), .int .i64 (j : Int)]) _ [.int .i64 (i : Int), .int .i64 (j : Int)] K84.out rfl rfl rfl (by kernel_rfl) (by simp [Value.oneCell']) (Nat.le_of_ble_eq_true rfl) rfl ?_); intro w9 hh hg hz; have SH9 := Aside0.mk (SH4.out.grownSpl K84.out hg); have HO9 := Aside0.mk (Kd.R_reok rfl (Kd.R_grown (Kd.R_tight rfl HO4.out) hg (fun k hk e => Kd.R_ne HO4.out K84.out (by decide) (e.symm.trans hk))) (fun _ _ => trivial)); have HB9 := Aside0.mk (below_grown HB4.out hg G8.out.1 HB4.out.size); have K89 := Aside0.mk hh; have K69 := Aside0.mk (blk_grown K64.out hg (fun h => by have h2 := Option.some.inj h; have h3 := G8.out.2; omega)); clear hh hg hz))
     go_roundg (L - (j + 1))
     case measure => exact JX.out.1
     case rel => exact ⟨j + 1, by simp, by rw [HE.out], ⟨rfl, JX.out.2.1⟩, HO9, SH9, K69, ⟨by rw [HE.out]; exact K89.out⟩, HB9⟩
    have d7 : decide (b < 0) = false := decide_eq_false hb0
    by_cases hx0 : x < l
    ·
     have d8 : decide (x < l) = true := decide_eq_true hx0
     have e9 := HPK.out
     rw [if_pos (.inr hx0)] at e9
     have HE := Aside0.mk e9
     clear e9 hb0 hx0
     go_wp2_with (first
      | ((with_reducible refine gate_dst (N := 12) rfl ?_); refine box_event ?hg (N := 12) ?hd (cs := #[.int .i64 0, .int .i64 0]) (t := 57) ?hr ?_; (case hd => rfl); (case hg => rfl); (case hr => first | (go_simp; done) | (go_simp; rfl)); intro gn hg w2 hbox hb; have KN := Aside0.mk hbox; have SH2 := Aside0.mk (SH.out.below hb); have HO2 := Aside0.mk (Kd.R_below HO.out hb); have HB2 := Aside0.mk (below_step HB.out hb); have K62 := Aside0.mk (blk_below K6.out hb); have K82 := Aside0.mk (blk_below K8.out hb); have GN : Aside0 (w.heap.size ≤ gn ∧ g6 < gn ∧ g8 < gn) := ⟨by rw [hg]; exact HB.out.size, by rw [hg]; exact G68r.out.1, by rw [hg]; exact G68r.out.2⟩; clear hb hbox hg)
      | ((with_reducible refine gate_ (.store 57 (.tmp 12) (.tmp 46)) rfl ?_); (refine box_store rfl rfl 57 (.tmp 12) (.tmp 46) rfl (g := gn) (off := 0) (new := #[.int .i64 (i : Int), .int .i64 (j : Int)]) _ [.int .i64 (i : Int), .int .i64 (j : Int)] KN.out rfl rfl rfl (by kernel_rfl) (by simp [Value.oneCell']) (Nat.le_of_ble_eq_true rfl) rfl ?_); intro w3 hh hg hz; have SH3 := Aside0.mk (SH2.out.grownSpl KN.out hg); have HO3 := Aside0.mk (Kd.R_reok rfl (Kd.R_grown (Kd.R_tight rfl HO2.out) hg (fun k hk e => Kd.R_ne HO2.out KN.out (by decide) (e.symm.trans hk))) (fun _ _ => trivial)); have HB3 := Aside0.mk (below_grown HB2.out hg GN.out.1 HB2.out.size); have KN3 := Aside0.mk hh; have K63 := Aside0.mk (blk_grown K62.out hg (fun h => by have h2 := Option.some.inj h; have h3 := GN.out; omega)); have K83 := Aside0.mk (blk_grown K82.out hg (fun h => by have h2 := Option.some.inj h; have h3 := GN.out; omega)); have e3 : w3.cell? ⟨g6, 0, none⟩ = some (.int .i64 (i1 : Int)) := (blk_cell K63.out 0).trans rfl; have e4 : w3.cell? ⟨g6, 1, none⟩ = some (.int .i64 (bn : Int)) := (blk_cell K63.out 1).trans rfl; have e1 : w3.cell? ⟨gn, 0, none⟩ = some (.int .i64 (i : Int)) := (blk_cell KN3.out 0).trans rfl; have e2 : w3.cell? ⟨gn, 1, none⟩ = some (.int .i64 (j : Int)) := (blk_cell KN3.out 1).trans rfl; clear hh hg hz)
      | (go_at_call 26; refine (sing_change_calls σ.gs σ.bH σ.cH n i1 bn i j p.hb p.hx.length p.hc r.hb r.hx.length r.hc y h _ (by rw [HNN.out.1]; exact SH3.out.c0) HI1.out.2.1 NX.out.2.2 (SH3.out.hrow HI1.out.2.2.1) (SH3.out.hrow HRW.out.1) HI1.out.2.2.2.1 HJH.out (by rw [← HI1.out.2.2.2.2]; exact SH3.out.hcell HI1.out.2.2.1 bn HI1.out.2.2.2.1) (by rw [HCH.out.2.1]; exact SH3.out.hcell HRW.out.1 j HJH.out)).mono ?_; rintro e w4 ⟨rfl, hb4⟩; rw [← HD.out]; have SH4 := Aside0.mk (SH3.out.below hb4); have HO4 := Aside0.mk (Kd.R_below HO3.out hb4); have HB4 := Aside0.mk (below_step HB3.out hb4); have KN4 := Aside0.mk (blk_below KN3.out hb4); have K64 := Aside0.mk (blk_below K63.out hb4); have K84 := Aside0.mk (blk_below K83.out hb4); have e0 : w4.cell? ⟨g8, 1, none⟩ = some (.int .i64 b) := (blk_cell K84.out 1).trans rfl; have e1 : w4.cell? ⟨gn, 0, none⟩ = some (.int .i64 (i : Int)) := (blk_cell KN4.out 0).trans rfl; have e2 : w4.cell? ⟨gn, 1, none⟩ = some (.int .i64 (j : Int)) := (blk_cell KN4.out 1).trans rfl; clear hb4)
      | ((with_reducible refine gate_ (.store 57 (.tmp 8) (.tmp 63)) rfl ?_); (refine box_store rfl rfl 57 (.tmp 8) (.tmp 63) rfl (g := g8) (off := 0) (new := #[.int .i64 (i : Int), .int .i64 (j : Int)]) _ [.int .i64 (i : Int), .int .i64 (j : Int)] K84.out rfl rfl rfl (by kernel_rfl) (by simp [Value.oneCell']) (Nat.le_of_ble_eq_true rfl) rfl ?_); intro w9 hh hg hz; have SH9 := Aside0.mk (SH4.out.grownSpl K84.out hg); have HO9 := Aside0.mk (Kd.R_reok rfl (Kd.R_grown (Kd.R_tight rfl HO4.out) hg (fun k hk e => Kd.R_ne HO4.out K84.out (by decide) (e.symm.trans hk))) (fun _ _ => trivial)); have HB9 := Aside0.mk (below_grown HB4.out hg G8.out.1 HB4.out.size); have K89 := Aside0.mk hh; have K69 := Aside0.mk (blk_grown K64.out hg (fun h => by have h2 := Option.some.inj h; have h3 := G8.out.2; omega)); clear hh hg hz))
     go_roundg (L - (j + 1))
     case measure => exact JX.out.1
     case rel => exact ⟨j + 1, by simp, by rw [HE.out], ⟨rfl, JX.out.2.1⟩, HO9, SH9, K69, ⟨by rw [HE.out]; exact K89.out⟩, HB9⟩
    have d8 : decide (x < l) = false := decide_eq_false hx0
    have e9 := HPK.out
    rw [if_neg (by omega)] at e9
    have HE := Aside0.mk e9
    clear e9 hb0 hx0
    go_wp2_with (first
     | ((with_reducible refine gate_dst (N := 12) rfl ?_); refine box_event ?hg (N := 12) ?hd (cs := #[.int .i64 0, .int .i64 0]) (t := 57) ?hr ?_; (case hd => rfl); (case hg => rfl); (case hr => first | (go_simp; done) | (go_simp; rfl)); intro gn hg w2 hbox hb; have KN := Aside0.mk hbox; have SH2 := Aside0.mk (SH.out.below hb); have HO2 := Aside0.mk (Kd.R_below HO.out hb); have HB2 := Aside0.mk (below_step HB.out hb); have K62 := Aside0.mk (blk_below K6.out hb); have K82 := Aside0.mk (blk_below K8.out hb); have GN : Aside0 (w.heap.size ≤ gn ∧ g6 < gn ∧ g8 < gn) := ⟨by rw [hg]; exact HB.out.size, by rw [hg]; exact G68r.out.1, by rw [hg]; exact G68r.out.2⟩; clear hb hbox hg)
     | ((with_reducible refine gate_ (.store 57 (.tmp 12) (.tmp 46)) rfl ?_); (refine box_store rfl rfl 57 (.tmp 12) (.tmp 46) rfl (g := gn) (off := 0) (new := #[.int .i64 (i : Int), .int .i64 (j : Int)]) _ [.int .i64 (i : Int), .int .i64 (j : Int)] KN.out rfl rfl rfl (by kernel_rfl) (by simp [Value.oneCell']) (Nat.le_of_ble_eq_true rfl) rfl ?_); intro w3 hh hg hz; have SH3 := Aside0.mk (SH2.out.grownSpl KN.out hg); have HO3 := Aside0.mk (Kd.R_reok rfl (Kd.R_grown (Kd.R_tight rfl HO2.out) hg (fun k hk e => Kd.R_ne HO2.out KN.out (by decide) (e.symm.trans hk))) (fun _ _ => trivial)); have HB3 := Aside0.mk (below_grown HB2.out hg GN.out.1 HB2.out.size); have KN3 := Aside0.mk hh; have K63 := Aside0.mk (blk_grown K62.out hg (fun h => by have h2 := Option.some.inj h; have h3 := GN.out; omega)); have K83 := Aside0.mk (blk_grown K82.out hg (fun h => by have h2 := Option.some.inj h; have h3 := GN.out; omega)); have e3 : w3.cell? ⟨g6, 0, none⟩ = some (.int .i64 (i1 : Int)) := (blk_cell K63.out 0).trans rfl; have e4 : w3.cell? ⟨g6, 1, none⟩ = some (.int .i64 (bn : Int)) := (blk_cell K63.out 1).trans rfl; have e1 : w3.cell? ⟨gn, 0, none⟩ = some (.int .i64 (i : Int)) := (blk_cell KN3.out 0).trans rfl; have e2 : w3.cell? ⟨gn, 1, none⟩ = some (.int .i64 (j : Int)) := (blk_cell KN3.out 1).trans rfl; clear hh hg hz)
     | (go_at_call 26; refine (sing_change_calls σ.gs σ.bH σ.cH n i1 bn i j p.hb p.hx.length p.hc r.hb r.hx.length r.hc y h _ (by rw [HNN.out.1]; exact SH3.out.c0) HI1.out.2.1 NX.out.2.2 (SH3.out.hrow HI1.out.2.2.1) (SH3.out.hrow HRW.out.1) HI1.out.2.2.2.1 HJH.out (by rw [← HI1.out.2.2.2.2]; exact SH3.out.hcell HI1.out.2.2.1 bn HI1.out.2.2.2.1) (by rw [HCH.out.2.1]; exact SH3.out.hcell HRW.out.1 j HJH.out)).mono ?_; rintro e w4 ⟨rfl, hb4⟩; rw [← HD.out]; have SH4 := Aside0.mk (SH3.out.below hb4); have HO4 := Aside0.mk (Kd.R_below HO3.out hb4); have HB4 := Aside0.mk (below_step HB3.out hb4); have KN4 := Aside0.mk (blk_below KN3.out hb4); have K64 := Aside0.mk (blk_below K63.out hb4); have K84 := Aside0.mk (blk_below K83.out hb4); have e0 : w4.cell? ⟨g8, 1, none⟩ = some (.int .i64 b) := (blk_cell K84.out 1).trans rfl; have e1 : w4.cell? ⟨gn, 0, none⟩ = some (.int .i64 (i : Int)) := (blk_cell KN4.out 0).trans rfl; have e2 : w4.cell? ⟨gn, 1, none⟩ = some (.int .i64 (j : Int)) := (blk_cell KN4.out 1).trans rfl; clear hb4))
    go_roundg (L - (j + 1))
    case measure => exact JX.out.1
    case rel => exact ⟨j + 1, by simp, by rw [HE.out, HBL.out.2], ⟨rfl, JX.out.2.1⟩, HO4, SH4, K64, ⟨by rw [HE.out, ← HBL.out.1]; exact K84.out⟩, HB4⟩
   obtain rfl : j = L := by omega
   have d5 : decide ((j : Int) < (j : Int)) = false := decide_eq_false (by omega)
   obtain ⟨bn, hbn⟩ : ∃ bn : Nat, b = (bn : Int) ∧ bn < j := by
    have h1 := pickB_range f j
    rw [← hb] at h1
    have h2 := HRW.out.2.2.2.2.1
    have h3 := HRW.out.2.2.2.2.2.1
    rcases h1 with ⟨h1, _⟩ | h1
    ·
     omega
    ·
     exact ⟨b.toNat, by omega, by omega⟩
   obtain ⟨hbn, hbj⟩ := hbn
   have hbA : bAt H i y = bn := by
    unfold bAt
    rw [← HRW.out.2.2.2.2.2.2.2.1, ← HRW.out.2.1, ← HRW.out.2.2.2.2.2.1, ← hb, hbn, Int.toNat_natCast]
   subst hbn
   obtain ⟨z, hz⟩ : ∃ z, z = r.hx.getD bn 0 := ⟨_, rfl⟩
   have hsb : singB H (i + 1) = singB H i ++ [z] := by rw [hz, ← hbA, HRW.out.2.1, HRW.out.2.2.2.2.2.2.1]; rfl
   have HSB := Aside0.mk (And.intro hsb (And.intro hbj hz))
   have e0 : wr.cell? ⟨g8, 0, none⟩ = some (.int .i64 (i : Int)) := (blk_cell K8.out 0).trans rfl
   have e1 : wr.cell? ⟨g8, 1, none⟩ = some (.int .i64 (bn : Int)) := (blk_cell K8.out 1).trans rfl
   have q2 := eq_true (show (0 : Int) ≤ (bn : Int) by omega)
   have q3 := eq_true (show (bn : Int) < (j : Int) by omega)
   clear hkq hjL hb hl hj hbj hbA hz hsb
   go_upto_region 23 with (first
    | ((with_reducible refine gate_ (.store 57 (.tmp 6) (.tmp 66)) rfl ?_); (refine box_store rfl rfl 57 (.tmp 6) (.tmp 66) rfl (g := g6) (off := 0) (new := #[.int .i64 (i : Int), .int .i64 (bn : Int)]) _ [.int .i64 (i : Int), .int .i64 (bn : Int)] K6.out rfl rfl rfl (by kernel_rfl) (by simp [Value.oneCell']) (Nat.le_of_ble_eq_true rfl) rfl ?_); intro w3 hh hg hz; have SH3 := Aside0.mk (SH.out.grownSpl K6.out hg); have HO3 := Aside0.mk (Kd.R_reok rfl (Kd.R_grown (Kd.R_tight rfl HO.out) hg (fun k hk e => Kd.R_ne HO.out K6.out (by decide) (e.symm.trans hk))) (fun _ _ => trivial)); have HB3 := Aside0.mk (below_grown HB.out hg G6.out HB.out.size); have K63 := Aside0.mk hh; clear hh hg hz)
    | fail)
   (try simp only [Act.put, List.setIfInBounds_toArray, List.set_cons_zero, List.set_cons_succ])
   have CE : Aside0 (w3.cell? ⟨σ.gs, 0, none⟩ = some (.slice (some ⟨σ.bH, 0, none⟩) n σ.cH) ∧ w3.cell? ⟨σ.bH, i, none⟩ = some (.slice (some ⟨r.hb, 0, none⟩) j r.hc) ∧ w3.cell? ⟨g6, 1, none⟩ = some (.int .i64 (bn : Int)) ∧ w3.cell? ⟨r.hb, bn, none⟩ = some (.int .i64 z)) := ⟨by rw [HNN.out.1]; exact SH3.out.c0, by have h2 := SH3.out.hrow HRW.out.1; unfold SRow.hv at h2; rw [← HRW.out.2.2.2.2.2.1] at h2; exact h2, (blk_cell K63.out 1).trans rfl, by rw [HSB.out.2.2]; exact SH3.out.hcell HRW.out.1 bn (by rw [← HRW.out.2.2.2.2.2.1]; exact HSB.out.2.1)⟩
   clear e0 e1
   refine start_ (n := 15) (S := (fun w' => w'.cell? ⟨σ.gs, 0, none⟩ = some (.slice (some ⟨σ.bH, 0, none⟩) n σ.cH) ∧ w'.cell? ⟨σ.bH, i, none⟩ = some (.slice (some ⟨r.hb, 0, none⟩) j r.hc) ∧ w'.cell? ⟨g6, 1, none⟩ = some (.int .i64 (bn : Int)) ∧ w'.cell? ⟨r.hb, bn, none⟩ = some (.int .i64 z))) (ds := [13]) (rowB 15 0) (by kernel_rfl) rfl rfl CE.out (fun hHeld => ?_)
   refine pure_ (i := 0) (N := some 67) (v := ?_) (a' := ?_) (rowB 15 1) rfl rfl (by kernel_rfl) (fun _ _ _ h => h) (Or.inl ⟨by rfl, ?_⟩) ?_ ?_
   rotate_left
   ·
    intro w'
    go_simp
    with_reducible rfl
   rotate_left
   ·
    simp only [Act.put, List.setIfInBounds_toArray, List.set_cons_zero, List.set_cons_succ, i64_w, i32_w]
    rfl
   refine pure_ (i := 1) (N := some 68) (v := ?_) (a' := ?_) (rowB 15 3) rfl rfl (by kernel_rfl) (fun _ _ _ h => h) (Or.inl ⟨by rfl, ?_⟩) ?_ ?_
   rotate_left
   ·
    intro w'
    go_simp
    with_reducible rfl
   rotate_left
   ·
    simp only [Act.put, List.setIfInBounds_toArray, List.set_cons_zero, List.set_cons_succ, i64_w, i32_w]
    rfl
   refine pure_ (i := 2) (N := some 69) (v := ?_) (a' := ?_) (rowB 15 7) rfl rfl (by kernel_rfl) (fun _ _ _ h => h) (Or.inl ⟨by rfl, ?_⟩) ?_ ?_
   rotate_left
   ·
    intro w'
    go_simp
    with_reducible rfl
   rotate_left
   ·
    simp only [Act.put, List.setIfInBounds_toArray, List.set_cons_zero, List.set_cons_succ, i64_w, i32_w]
    rfl
   refine pure_ (i := 3) (N := some 70) (v := ?_) (a' := ?_) (rowB 15 15) rfl rfl (by kernel_rfl) (fun _ _ _ h => h) (Or.inl ⟨by rfl, ?_⟩) ?_ ?_
   rotate_left
   ·
    intro w'
    go_simp
    with_reducible rfl
   rotate_left
   ·
    simp only [Act.put, List.setIfInBounds_toArray, List.set_cons_zero, List.set_cons_succ, i64_w, i32_w]
    rfl
   refine take_ (i := 4) (N := some 71) (v := ?_) (a' := ?_) (rowB 15 31) rfl rfl (by kernel_rfl) (fun _ _ _ h => h) (Or.inl ⟨by rfl, ?_⟩) hHeld ?_ ?_
   rotate_left
   ·
    rintro w' ⟨s0, s1, s2, s3⟩
    go_simp
    with_reducible rfl
   rotate_left
   ·
    simp only [Act.put, List.setIfInBounds_toArray, List.set_cons_zero, List.set_cons_succ, i64_w, i32_w]
    rfl
   refine pure_ (i := 5) (N := some 72) (v := ?_) (a' := ?_) (rowB 15 63) rfl rfl (by kernel_rfl) (fun _ _ _ h => h) (Or.inl ⟨by rfl, ?_⟩) ?_ ?_
   rotate_left
   ·
    intro w'
    go_simp
    with_reducible rfl
   rotate_left
   ·
    simp only [Act.put, List.setIfInBounds_toArray, List.set_cons_zero, List.set_cons_succ, i64_w, i32_w]
    rfl
   refine pure_ (i := 6) (N := some 73) (v := ?_) (a' := ?_) (rowB 15 127) rfl rfl (by kernel_rfl) (fun _ _ _ h => h) (Or.inl ⟨by rfl, ?_⟩) ?_ ?_
   rotate_left
   ·
    intro w'
    go_simp
    with_reducible rfl
   rotate_left
   ·
    simp only [Act.put, List.setIfInBounds_toArray, List.set_cons_zero, List.set_cons_succ, i64_w, i32_w]
    rfl
   refine take_ (i := 7) (N := some 74) (v := ?_) (a' := ?_) (rowB 15 255) rfl rfl (by kernel_rfl) (fun _ _ _ h => h) (Or.inl ⟨by rfl, ?_⟩) hHeld ?_ ?_
   rotate_left
   ·
    rintro w' ⟨s0, s1, s2, s3⟩
    go_simp
    with_reducible rfl
   rotate_left
   ·
    simp only [Act.put, List.setIfInBounds_toArray, List.set_cons_zero, List.set_cons_succ, i64_w, i32_w]
    rfl
   refine pure_ (i := 8) (N := some 75) (v := ?_) (a' := ?_) (rowB 15 511) rfl rfl (by kernel_rfl) (fun _ _ _ h => h) (Or.inl ⟨by rfl, ?_⟩) ?_ ?_
   rotate_left
   ·
    intro w'
    go_simp
    with_reducible rfl
   rotate_left
   ·
    simp only [Act.put, List.setIfInBounds_toArray, List.set_cons_zero, List.set_cons_succ, i64_w, i32_w]
    rfl
   refine take_ (i := 9) (N := some 76) (v := ?_) (a' := ?_) (rowB 15 1023) rfl rfl (by kernel_rfl) (fun _ _ _ h => h) (Or.inl ⟨by rfl, ?_⟩) hHeld ?_ ?_
   rotate_left
   ·
    rintro w' ⟨s0, s1, s2, s3⟩
    go_simp
    with_reducible rfl
   rotate_left
   ·
    simp only [Act.put, List.setIfInBounds_toArray, List.set_cons_zero, List.set_cons_succ, i64_w, i32_w]
    rfl
   refine pure_ (i := 10) (N := some 77) (v := ?_) (a' := ?_) (rowB 15 2047) rfl rfl (by kernel_rfl) (fun _ _ _ h => h) (Or.inl ⟨by rfl, ?_⟩) ?_ ?_
   rotate_left
   ·
    intro w'
    go_simp
    with_reducible rfl
   rotate_left
   ·
    simp only [Act.put, List.setIfInBounds_toArray, List.set_cons_zero, List.set_cons_succ, i64_w, i32_w]
    rfl
   refine take_ (i := 11) (N := some 78) (v := ?_) (a' := ?_) (rowB 15 4095) rfl rfl (by kernel_rfl) (fun _ _ _ h => h) (Or.inl ⟨by rfl, ?_⟩) hHeld ?_ ?_
   rotate_left
   ·
    rintro w' ⟨s0, s1, s2, s3⟩
    go_simp
    with_reducible rfl
   rotate_left
   ·
    simp only [Act.put, List.setIfInBounds_toArray, List.set_cons_zero, List.set_cons_succ, i64_w, i32_w]
    rfl
   refine one_ (i := 12) (N := some 79) (rowB 15 8191) rfl rfl (by kernel_rfl) (by decide) (fun K hK => ?_)
   refine event_step (w1 := ?_) (v := ?_) (by rfl) ?_ ?_
   rotate_left 2
   ·
    go_simp
    constructor
    ·
     rfl
    ·
     rfl
   refine hK.out _ _ (by have hb := below_alloc (Below.refl w3.drew.heap.size w3.drew) (.cells (#[.int .i64 z]) 3 (0, 0)); have hc := CE.out; exact ⟨pw_cell_below hb hc.1, pw_cell_below hb hc.2.1, pw_cell_below hb hc.2.2.1, pw_cell_below hb hc.2.2.2⟩) (fun hHeld => ?_)
   clear hK K
   refine norm_ (a' := ?_) ?_ ?_
   rotate_left
   ·
    show Act.put _ (some 79) _ = _
    simp only [Act.put, List.setIfInBounds_toArray, List.set_cons_zero, List.set_cons_succ, i64_w, i32_w]
    rfl
   refine last_ (i := 13) (N := some 80) (rowB 15 16383) rfl rfl (by kernel_rfl) (by decide) (fun K hK => ?_)
   refine Kd.R_append_step (Kd.int .i64) (w0 := w) (W := w3.drew) w.heap.size (by rfl) (.tmp 67) (.tmp 79) 26 3 (.int .i64 0) 8 rfl Tryd.underlying26 hinf rfl (by decide) (by omega) u4 (singB H i) z [.int .i64 z] (fun _ => True) (fun _ => False) rfl rfl rfl (fun _ h => h.elim) (fun _ _ => trivial) ?aO ?aB ?aS ?aL ?_
   (case aO => exact Kd.R_drew HO3.out)
   (case aB => exact below_drew HB3.out)
   (case aS => exact HB3.out.size)
   (case aL => rw [singB_len]; have := NX.out.2.2; have := HNN.out.2; have := HHH.out.2.2.2.1; omega)
   intro v80 w8 ho hb hg hat
   have HO8 := Aside0.mk ho
   have HB8 := Aside0.mk hb
   have SH8 := Aside0.mk ((SH3.out.below (below_drew (Below.refl _ _))).grownOwn (Kd.R_drew HO3.out) NB.out hg)
   have K68 := Aside0.mk (blk_grown (blk_drew K63.out) hg (Kd.R_ne HO3.out K63.out (by decide)))
   have NB8 : Aside0 (NoB rs v80) := ⟨fun i2 r2 hr2 => by
    have h1 := NB.out i2 r2 hr2
    have h2 := SH3.out.lts i2 r2 hr2
    rcases hat with hat | ⟨k, hat, hk⟩
    ·
     rw [hat]; exact h1
    ·
     rw [hat]
     have hk : w3.heap.size ≤ k := hk
     exact ⟨fun e => by have := Option.some.inj e; omega, fun e => by have := Option.some.inj e; omega⟩⟩
   clear ho hb hg hat
   refine hK.out _ _ ?_
   clear hK K
   refine norm_ (a' := ?_) ?_ ?_
   rotate_left
   ·
    show Act.put _ (some 80) _ = _
    simp only [Act.put, List.setIfInBounds_toArray, List.set_cons_zero, List.set_cons_succ, i64_w, i32_w]
    rfl
   refine pure_ (i := 14) (N := some 4) (v := ?_) (a' := ?_) (rowB 15 32767) rfl rfl (by kernel_rfl) (fun _ _ _ h => h) (Or.inl ⟨by rfl, ?_⟩) ?_ ?_
   rotate_left
   ·
    intro w'
    go_simp
    with_reducible rfl
   rotate_left
   ·
    simp only [Act.put, List.setIfInBounds_toArray, List.set_cons_zero, List.set_cons_succ, i64_w, i32_w]
    rfl
   refine done_ (by kernel_rfl) ?_
   go_wp2
   go_roundg (n - (i + 1))
   case measure => exact NX.out.1
   case rel => exact ⟨i + 1, (i : Int), (bn : Int), by simp, ⟨rfl, NX.out.2.1⟩, ⟨by rw [HSB.out.1]; exact HO8.out⟩, NB8, SH8, K68, ⟨fun _ => ⟨bn, by simp, rfl, by rw [Nat.add_sub_cancel, ← HRW.out.2.1, ← HRW.out.2.2.2.2.2.1]; exact HSB.out.2.1, by rw [Nat.add_sub_cancel, HSB.out.1, lastOf_snoc, ← HRW.out.2.1]; exact HSB.out.2.2.symm⟩⟩, HB8⟩
theorem impl_SingBest_calls (m : List S29) (A0 : Option Addr) (c0 : Nat) (w : World) (ht : NTab w) (hr0 : Kd.C k29 w A0 m.length m) (hc0 : m.length ≤ c0) :
 Calls Tryd.prog 9 #[.slice A0 m.length c0] w fun e w' => ∃ v, e = .returned (.tuple #[v, .bool (sBest m).2]) ∧ (Kd.int .i64).R 3 w' w.heap.size (fun _ => True) v (sBest m).1 ∧ Below w.heap.size w w' := by
 unfold sBest
 by_cases h : 0 < sMany m
 ·
  rw [if_pos h]
  match m, hr0, hc0, h with
  | [], hr0, hc0, h => exact impl_SingBest_nil A0 c0 w ht hr0 h
  | t :: ts, hr0, hc0, h => exact impl_SingBest_some (t :: ts) A0 c0 w ht hr0 hc0 h (Nat.succ_pos _)
 ·
  rw [if_neg h]
  refine (impl_SingBest_none m A0 c0 w ht hr0 hc0 (by omega)).mono ?_
  rintro e w' ⟨rfl, hb⟩
  exact ⟨_, rfl, Kd.R_nil _ _ _ _ _, hb⟩

end Go.Proofs.YtiagfjbngpbejaaDoor.Pure
namespace Go.Proofs.YtiagfjbngpbejaaDoor.PFnSingMany
set_option linter.unusedVariables false
set_option linter.unusedSimpArgs false
open Go Go.RowKit Go.Proofs.YtiagfjbngpbejaaDoor.Pure Go.Proofs.YtiagfjbngpbejaaDoorW.PrintWords Go.Proofs.YtiagfjbngpbejaaDoorW.PrintLast Go.Proofs.YtiagfjbngpbejaaDoorW.PrintMore
def impl_SingBest.f (l0 : List S29) : Option (List Int × Bool) := some (sBest l0)
theorem impl_SingBest.calls (A0 : Option Addr) (c0 : Nat) (l0 : List S29) (r1 : List Int) (r2 : Bool) (w : World) (ht : NTab w) (hr0 : Kd.C k29 w A0 l0.length l0) (hc0 : l0.length ≤ c0) (h : impl_SingBest.f l0 = some (r1, r2)) :
 Calls Tryd.prog 9 #[.slice A0 l0.length c0] w fun e w' => ∃ v0_ : Value, e = .returned (.tuple #[v0_, .bool r2]) ∧ Kd.R (Kd.int .i64) 3 w' w.heap.size (fun _ => True) v0_ r1 ∧ Below w.heap.size w w' := by
 unfold impl_SingBest.f at h; injection h with h
 have := impl_SingBest_calls l0 A0 c0 w ht hr0 hc0; rw [h] at this; exact this

end Go.Proofs.YtiagfjbngpbejaaDoor.PFnSingMany
