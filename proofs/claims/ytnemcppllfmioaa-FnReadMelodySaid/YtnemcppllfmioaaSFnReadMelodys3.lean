/- Lemmas for the law FnReadMelody. -/
import Derived.BigRegion
import Derived.Deep.Slices
import Derived.Laws.CopyOwn
import Derived.Test.YtnemcppllfmioaaSFnReadMelodys2
namespace Go.Proofs.Ytnemcppllfmioaa.PFnReadMelody
open Go.RowKit Go.Proofs.YtnemcppllfmioaaW.PrintWords Go.Proofs.YtnemcppllfmioaaW.PrintLast Go.Proofs.YtnemcppllfmioaaW.PrintMore
attribute [local go_sem] max2_int min2_int max_two min_two max_three min_three max_four min_four   -- for this text's walks alone
set_option linter.unusedVariables false
set_option linter.unusedSimpArgs false

def spec_l91Tone.f (k : Nat) (s0_0 : List Int) (s0_1 : Int) : Option (Int × Bool × Int) := (spec_l6Rd_pick.f k s0_0 s0_1 40).bind fun bt292 => (if bt292.1 = 0 then ((some (([(-1), 21, 20, 0] : List Int) : List Int)).bind fun y294 => ((spec_l6Rd_pick.f k s0_0 bt292.2 4).bind fun bt297 => (if 0 ≤ bt297.1 then (if bt297.1 < (y294.length : Int) then (some (rd y294 bt297.1, false, bt297.2)) else (none)) else (none)))) else (if bt292.1 = 1 then ((spec_l6Rd_pick.f k s0_0 bt292.2 21).bind fun bt300 => (some (bt300.1, true, bt300.2))) else ((spec_l6Rd_pick.f k s0_0 bt292.2 11).bind fun bt302 => ((spec_l1Letter.f (wrap64 (3 + bt302.1))).bind fun t304 => (if t304 = 2 then ((spec_l6Rd_pick.f k s0_0 bt302.2 2).bind fun bt305 => (some (wrap64 (3 + bt302.1), (bt305.1 == 0), bt305.2))) else (some (wrap64 (3 + bt302.1), false, bt302.2)))))))
set_option maxHeartbeats 8000000 in
set_option maxRecDepth 100000 in
theorem spec_l91Tone.calls (k : Nat) (g : Nat) (s0_0 : List Int) (s0_1 : Int) (r1 : Int) (r2 : Bool) (r3 : Int) (w0 w : World) (hI : IsS126 w0 w g s0_0 s0_1) (hB : Below w0.heap.size w0 w) (h : spec_l91Tone.f k s0_0 s0_1 = some (r1, r2, r3)) :
 Calls Try.prog 94 #[.pointer (some ⟨g, 0, none⟩)] w fun e w' => e = .returned (.agg #[.int .i64 r1, .bool r2]) ∧ IsS126 w0 w' g s0_0 r3 ∧ Below w0.heap.size w0 w' ∧ KeepBut w w' g none := by
 have hu64 := Try.underlying64; have HI0 := Aside0.mk hI; have HK := Aside0.mk (KeepBut.refl w g none); have HL := Aside0.mk hB.size; clear hI; have HW0 := Aside0.mk hB.size; have HB := Aside0.mk hB; clear hB; have H : ((spec_l6Rd_pick.f k s0_0 s0_1 40).bind fun bt292 => (if bt292.1 = 0 then ((some (([(-1), 21, 20, 0] : List Int) : List Int)).bind fun y294 => ((spec_l6Rd_pick.f k s0_0 bt292.2 4).bind fun bt297 => (if 0 ≤ bt297.1 then (if bt297.1 < (y294.length : Int) then (some (rd y294 bt297.1, false, bt297.2)) else (none)) else (none)))) else (if bt292.1 = 1 then ((spec_l6Rd_pick.f k s0_0 bt292.2 21).bind fun bt300 => (some (bt300.1, true, bt300.2))) else ((spec_l6Rd_pick.f k s0_0 bt292.2 11).bind fun bt302 => ((spec_l1Letter.f (wrap64 (3 + bt302.1))).bind fun t304 => (if t304 = 2 then ((spec_l6Rd_pick.f k s0_0 bt302.2 2).bind fun bt305 => (some (wrap64 (3 + bt302.1), (bt305.1 == 0), bt305.2))) else (some (wrap64 (3 + bt302.1), false, bt302.2)))))))) = some (r1, r2, r3) := h; clear h; replace H := Option.bind_eq_some_iff.mp H; obtain ⟨⟨t292, t293⟩, A20, H⟩ := H; replace H : (if t292 = 0 then ((some (([(-1), 21, 20, 0] : List Int) : List Int)).bind fun y294 => ((spec_l6Rd_pick.f k s0_0 t293 4).bind fun bt297 => (if 0 ≤ bt297.1 then (if bt297.1 < (y294.length : Int) then (some (rd y294 bt297.1, false, bt297.2)) else (none)) else (none)))) else (if t292 = 1 then ((spec_l6Rd_pick.f k s0_0 t293 21).bind fun bt300 => (some (bt300.1, true, bt300.2))) else ((spec_l6Rd_pick.f k s0_0 t293 11).bind fun bt302 => ((spec_l1Letter.f (wrap64 (3 + bt302.1))).bind fun t304 => (if t304 = 2 then ((spec_l6Rd_pick.f k s0_0 bt302.2 2).bind fun bt305 => (some (wrap64 (3 + bt302.1), (bt305.1 == 0), bt305.2))) else (some (wrap64 (3 + bt302.1), false, bt302.2))))))) = some (r1, r2, r3) := H; have A2 := Aside0.mk A20; clear A20; by_cases c3 : t292 = 0
 ·
  rw [if_pos c3] at H; have c3b0 : (t292 == 0) = true := beq_iff_eq.mpr c3; have c3b1 : (t292 != 0) = false := bne_eq_false_iff_eq.mpr c3; clear c3; obtain ⟨y294, hy294⟩ : ∃ y_ : List Int, y_ = (([(-1), 21, 20, 0] : List Int)) := ⟨_, rfl⟩
  replace H : ((spec_l6Rd_pick.f k s0_0 t293 4).bind fun bt297 => (if 0 ≤ bt297.1 then (if bt297.1 < (y294.length : Int) then (some (rd y294 bt297.1, false, bt297.2)) else (none)) else (none))) = some (r1, r2, r3) := by first | (rw [hy294]; with_reducible exact H) | (have H2_ := (Option.bind_some _ _).symm.trans H; rw [hy294]; with_reducible exact H2_) | (have H2_ := (Option.bind_some _ _).symm.trans H; with_reducible exact H2_) | with_reducible exact H | (rw [hy294]; exact H) | exact H
  have Ny294 := Aside0.mk hy294; clear hy294; replace H := Option.bind_eq_some_iff.mp H; obtain ⟨⟨t297, t298⟩, A40, H⟩ := H; replace H : (if 0 ≤ t297 then (if t297 < (y294.length : Int) then (some (rd y294 t297, false, t298)) else (none)) else (none)) = some (r1, r2, r3) := H; have A4 := Aside0.mk A40; clear A40; by_cases c5 : 0 ≤ t297
  ·
   rw [if_pos c5] at H; have c5b0 : decide (0 ≤ t297) = true := decide_eq_true c5; clear c5; by_cases c6 : t297 < (y294.length : Int)
   ·
    rw [if_pos c6] at H; have c6b0 : decide (t297 < (y294.length : Int)) = true := decide_eq_true c6; clear c6; simp only [Option.some.injEq, Prod.mk.injEq] at H; obtain ⟨rfl, rfl, rfl⟩ := H; go_enter Try.func94, Try.ntmps94
    go_wp2_with (first | ((with_reducible refine gate_dst (N := 2) rfl ?_); refine box_event ?hg (N := 2) ?hd (cs := #[.int .i64 0, .bool false]) (t := 64) ?hr ?_; (case hd => rfl); (case hg => rfl); (case hr => first | (go_simp; done) | (go_simp; rfl)); intro gb291 hg w7 hbox hb; have n0_ := Aside0.mk (IsS126.below (by repeat (first | (with_reducible first | exact HI0.out | apply IsS126.alloc | apply IsS126.drewN | apply IsS126.drew | apply IsS126.set_1) | exact HI0.out)) hb); have n1_ := Aside0.mk (KeepBut.trans (by repeat (first | (with_reducible first | exact HK.out | apply KeepBut.set_ | apply keep_drewN | apply keep_drew | apply keep_alloc) | exact HK.out)) (KeepBut.of_below hb g none) (.inl rfl)); have n2_ := Aside0.mk (below_step (by repeat (first | (with_reducible first | exact HB.out | apply below_alloc | apply pw_below_drewN | apply below_drew1 | refine below_set ?_ (IsS126.ge HI0.out)) | exact HB.out)) hb); have n3_ := Aside0.mk (hbox); have n4_ := Aside0.mk ((by rw [hg]; exact (keep_size (w := w) (g := g) (row := none) (by repeat (first | (with_reducible first | exact HK.out | apply KeepBut.set_ | apply keep_drewN | apply keep_drew | apply keep_alloc) | exact HK.out))) : w.heap.size ≤ gb291)); have n5_ := Aside0.mk ((Nat.le_trans HW0.out (by rw [hg]; exact (keep_size (w := w) (g := g) (row := none) (by repeat (first | (with_reducible first | exact HK.out | apply KeepBut.set_ | apply keep_drewN | apply keep_drew | apply keep_alloc) | exact HK.out))) : w.heap.size ≤ gb291) : w0.heap.size ≤ gb291)); have n6_ := Aside0.mk ((by rw [hg]; exact Nat.ne_of_lt (IsS126.lt (show IsS126 w0 _ g s0_0 s0_1 from by repeat (first | (with_reducible first | exact HI0.out | apply IsS126.alloc | apply IsS126.drewN | apply IsS126.drew | apply IsS126.set_1) | exact HI0.out))) : g ≠ gb291)); have n7_ := Aside0.mk ((by rw [hg]; exact Nat.ne_of_gt (IsS126.lt (show IsS126 w0 _ g s0_0 s0_1 from by repeat (first | (with_reducible first | exact HI0.out | apply IsS126.alloc | apply IsS126.drewN | apply IsS126.drew | apply IsS126.set_1) | exact HI0.out))) : gb291 ≠ g)); clear HI0; clear HK; clear HB; have HI0 := n0_; have HK := n1_; have HB := n2_; have BK291 := n3_; have GW291 := n4_; have GE291 := n5_; have NB0_291 := n6_; have NB291_0 := n7_; clear n0_ n1_ n2_ n3_ n4_ n5_ n6_ n7_; clear hb hbox hg) | ((with_reducible refine gate_callee (f := 59) rfl ?_); refine goesL_ (some 5) rfl rfl Try.func59 (by kernel_rfl) rfl #[.pointer (some ⟨g, 0, none⟩), .int .i64 40] rfl (by (try simp only [List.map_toArray, List.map_cons, List.map_nil]); first | done | rfl | (simp only [List.length_drop, List.length_take]; rfl)) ?_; (with_reducible refine (spec_l6Rd_pick.calls k g s0_0 s0_1 40 t292 t293 w0 _ ?side1 ?side2 A2.out).mono ?_); (case side1 => repeat (first | (with_reducible first | exact HI0.out | apply IsS126.alloc | apply IsS126.drewN | apply IsS126.drew | apply IsS126.set_1 | refine IsS126.far ?_ NB0_291.out _) | exact HI0.out)); (case side2 => repeat (first | (with_reducible first | exact HB.out | apply below_alloc | apply pw_below_drewN | apply below_drew1 | refine below_set ?_ (IsS126.ge HI0.out) | refine below_set ?_ GE291.out) | exact HB.out)); rintro e w8 ⟨rfl, hi, hb, hk⟩; refine ⟨_, rfl, ?_⟩; have n0_ := Aside0.mk (KeepBut.blk hk (g' := gb291) (o := .cells #[.int .i64 0, .bool false] 64 (0, 0)) (by (with_reducible repeat (first | refine blk_drewN ?_ _ | refine blk_drew ?_ | refine blk_alloc ?_ _)); exact BK291.out) NB291_0.out (by simp)); have n1_ := Aside0.mk (KeepBut.trans (by repeat (first | (with_reducible first | exact HK.out | apply KeepBut.set_ | apply keep_drewN | apply keep_drew | apply keep_alloc | refine keep_far ?_ GW291.out _) | exact HK.out)) hk (.inl rfl)); have n2_ := Aside0.mk (hb); have n3_ := Aside0.mk (hi); clear BK291; clear HK; clear HB; clear HI0; have BK291 := n0_; have HK := n1_; have HB := n2_; have HI0 := n3_; clear n0_ n1_ n2_ n3_; (try clear hb); (try clear hb2); (try clear hk); (try clear hi)) | ((with_reducible refine gate_dst (N := 8) rfl ?_); refine Kd.R_lit (Kd.int .i64) _ 3 ?hg (N := 8) ?hd (xs := ([(-1), 21, 20, 0] : List Int)) (inner := [.int .i64 (-1), .int .i64 21, .int .i64 20, .int .i64 0]) (ok := fun _ => True) (okp := fun _ => True) ?hr ?hp (fun _ hk => hk) trivial (Below.refl _ _) (Nat.le_refl _) (by simp) ?_; (case hd => rfl); (case hg => rfl); (case hr => first | (go_simp; done) | (go_simp; rfl)); (case hp => exact (Reps.one (show Kd.M (Kd.int .i64) _ _ _ (-1) [.int .i64 (-1)] from rfl) (Reps.one (show Kd.M (Kd.int .i64) _ _ _ 21 [.int .i64 21] from rfl) (Reps.one (show Kd.M (Kd.int .i64) _ _ _ 20 [.int .i64 20] from rfl) (Reps.one (show Kd.M (Kd.int .i64) _ _ _ 0 [.int .i64 0] from rfl) (Reps.none _ _)))))); intro v295 w9 ho10 hb hg_ hnew_; clear hg_ hnew_; (first | rw [← Ny294.out] at ho10 | (simp only [Int.reduceToNat] at ho10; rw [← Ny294.out] at ho10)); have n0_ := Aside0.mk (Kd.R_lower ho10 (keep_size (w := w) (g := g) (row := none) (by repeat (first | (with_reducible first | exact HK.out | apply KeepBut.set_ | apply keep_drewN | apply keep_drew | apply keep_alloc | refine keep_far ?_ GW291.out _) | exact HK.out)))); have n1_ := Aside0.mk (IsS126.below (by repeat (first | (with_reducible first | exact HI0.out | apply IsS126.alloc | apply IsS126.drewN | apply IsS126.drew | apply IsS126.set_1 | refine IsS126.far ?_ NB0_291.out _) | exact HI0.out)) hb); have n2_ := Aside0.mk (blk_below (g := gb291) (o := .cells #[.int .i64 0, .bool false] 64 (0, 0)) (by (with_reducible repeat (first | refine blk_drewN ?_ _ | refine blk_drew ?_ | refine blk_alloc ?_ _)); exact BK291.out) hb); have n3_ := Aside0.mk (KeepBut.trans (by repeat (first | (with_reducible first | exact HK.out | apply KeepBut.set_ | apply keep_drewN | apply keep_drew | apply keep_alloc | refine keep_far ?_ GW291.out _) | exact HK.out)) (KeepBut.of_below hb g none) (.inl rfl)); have n4_ := Aside0.mk (below_step (by repeat (first | (with_reducible first | exact HB.out | apply below_alloc | apply pw_below_drewN | apply below_drew1 | refine below_set ?_ (IsS126.ge HI0.out) | refine below_set ?_ GE291.out) | exact HB.out)) hb); clear HI0; clear BK291; clear HK; clear HB; have HO296 := n0_; have HI0 := n1_; have BK291 := n2_; have HK := n3_; have HB := n4_; clear n0_ n1_ n2_ n3_ n4_; clear hb ho10) | ((with_reducible refine gate_callee (f := 59) rfl ?_); refine goesL_ (some 10) rfl rfl Try.func59 (by kernel_rfl) rfl #[.pointer (some ⟨g, 0, none⟩), .int .i64 4] rfl (by (try simp only [List.map_toArray, List.map_cons, List.map_nil]); first | done | rfl | (simp only [List.length_drop, List.length_take]; rfl)) ?_; (with_reducible refine (spec_l6Rd_pick.calls k g s0_0 t293 4 t297 t298 w0 _ ?side1 ?side2 A4.out).mono ?_); (case side1 => repeat (first | (with_reducible first | exact HI0.out | apply IsS126.alloc | apply IsS126.drewN | apply IsS126.drew | apply IsS126.set_1 | refine IsS126.far ?_ NB0_291.out _) | exact HI0.out)); (case side2 => repeat (first | (with_reducible first | exact HB.out | apply below_alloc | apply pw_below_drewN | apply below_drew1 | refine below_set ?_ (IsS126.ge HI0.out) | refine below_set ?_ GE291.out) | exact HB.out)); rintro e w11 ⟨rfl, hi, hb, hk⟩; refine ⟨_, rfl, ?_⟩; have n0_ := Aside0.mk (KeepBut.blk hk (g' := gb291) (o := .cells #[.int .i64 0, .bool false] 64 (0, 0)) (by (with_reducible repeat (first | refine blk_drewN ?_ _ | refine blk_drew ?_ | refine blk_alloc ?_ _)); exact BK291.out) NB291_0.out (by simp)); have n1_ := Aside0.mk (Kd.R_mono (Kd.R_keep (IsS126.apart (show IsS126 w0 _ g s0_0 t293 from by repeat (first | (with_reducible first | exact HI0.out | apply IsS126.alloc | apply IsS126.drewN | apply IsS126.drew | apply IsS126.set_1 | refine IsS126.far ?_ NB0_291.out _) | exact HI0.out)) (by (with_reducible repeat (first | apply Kd.R_alloc | apply Kd.R_drewN | apply Kd.R_drew)); exact HO296.out) (by decide)) hk (fun _ h => h.2)) (fun _ h => h.1)); have n2_ := Aside0.mk (KeepBut.trans (by repeat (first | (with_reducible first | exact HK.out | apply KeepBut.set_ | apply keep_drewN | apply keep_drew | apply keep_alloc | refine keep_far ?_ GW291.out _) | exact HK.out)) hk (.inl rfl)); have n3_ := Aside0.mk (hb); have n4_ := Aside0.mk (hi); clear BK291; clear HO296; clear HK; clear HB; clear HI0; have BK291 := n0_; have HO296 := n1_; have HK := n2_; have HB := n3_; have HI0 := n4_; clear n0_ n1_ n2_ n3_ n4_; (try clear hb); (try clear hb2); (try clear hk); (try clear hi); obtain ⟨Ao12, co12, eo12⟩ := Kd.R_slice HO296.out; subst eo12; have p299 : 0 ≤ (t297 : Int) := of_decide_eq_true (by first | (with_reducible assumption) | assumption); have q299 : t297 < (y294.length : Int) := of_decide_eq_true (by first | (with_reducible assumption) | assumption); obtain ⟨ad299, e299, hx299_0⟩ := Kd.at_int (Kd.R_reads' HO296.out).2.2 t297 p299 q299; cases e299; replace p299 := eq_true p299; replace q299 := eq_true q299; have hnb13 := NB291_0.out; have hnc13 := NB0_291.out; have hcz14_0 : w11.cell? ⟨gb291, 0, none⟩ = some (.int .i64 0) := (blk_cell BK291.out 0).trans rfl; have hcz14_1 : w11.cell? ⟨gb291, 1, none⟩ = some (.bool false) := (blk_cell BK291.out 1).trans rfl; have hfz14_0 := blk_frozen BK291.out 0; have hfz14_1 := blk_frozen BK291.out 1))
    refine bodyPost_ret (results_cell_row rfl _ _ gb291 64 #[.int .i64 (rd y294 t297), .bool false] (0, 0) _ rfl (by (with_reducible repeat (first | refine blk_drewN ?_ _ | refine blk_drew ?_ | refine blk_alloc ?_ _)); refine blk_put (cs := #[.int .i64 (rd y294 t297), .bool false]) ?_ 1 _ rfl; (with_reducible repeat (first | refine blk_drewN ?_ _ | refine blk_drew ?_ | refine blk_alloc ?_ _)); refine blk_put (cs := #[.int .i64 0, .bool false]) ?_ 0 _ rfl; (with_reducible repeat (first | refine blk_drewN ?_ _ | refine blk_drew ?_ | refine blk_alloc ?_ _)); exact BK291.out) Try.underlying64 rfl (by kernel_rfl)) rfl ?_; exact ⟨by first | rfl | (simp [errW_none, errW_some] <;> rfl) | (simp [*, errW_none, errW_some] <;> rfl), by repeat (first | (with_reducible first | exact HI0.out | apply IsS126.alloc | apply IsS126.drewN | apply IsS126.drew | apply IsS126.set_1 | refine IsS126.far ?_ NB0_291.out _) | exact HI0.out), by repeat (first | (with_reducible first | exact HB.out | apply below_alloc | apply pw_below_drewN | apply below_drew1 | refine below_set ?_ (IsS126.ge HI0.out) | refine below_set ?_ GE291.out) | exact HB.out), by repeat (first | (with_reducible first | exact HK.out | apply KeepBut.set_ | apply keep_drewN | apply keep_drew | apply keep_alloc | refine keep_far ?_ GW291.out _) | exact HK.out)⟩
   ·
    rw [if_neg c6] at H; exact absurd H (by simp)
  ·
   rw [if_neg c5] at H; exact absurd H (by simp)
 ·
  rw [if_neg c3] at H; have c3b0 : (t292 == 0) = false := beq_eq_false_iff_ne.mpr c3; have c3b1 : (t292 != 0) = true := bne_iff_ne.mpr c3; by_cases c15 : t292 = 1
  ·
   rw [if_pos c15] at H; have c15b0 : (t292 == 1) = true := beq_iff_eq.mpr c15; have c15b1 : (t292 != 1) = false := bne_eq_false_iff_eq.mpr c15; clear c15; replace H := Option.bind_eq_some_iff.mp H; obtain ⟨⟨t300, t301⟩, A160, H⟩ := H; replace H : (some (t300, true, t301)) = some (r1, r2, r3) := H; have A16 := Aside0.mk A160; clear A160; simp only [Option.some.injEq, Prod.mk.injEq] at H; obtain ⟨rfl, rfl, rfl⟩ := H; go_enter Try.func94, Try.ntmps94
   go_wp2_with (first | ((with_reducible refine gate_dst (N := 2) rfl ?_); refine box_event ?hg (N := 2) ?hd (cs := #[.int .i64 0, .bool false]) (t := 64) ?hr ?_; (case hd => rfl); (case hg => rfl); (case hr => first | (go_simp; done) | (go_simp; rfl)); intro gb291 hg w17 hbox hb; have n0_ := Aside0.mk (IsS126.below (by repeat (first | (with_reducible first | exact HI0.out | apply IsS126.alloc | apply IsS126.drewN | apply IsS126.drew | apply IsS126.set_1) | exact HI0.out)) hb); have n1_ := Aside0.mk (KeepBut.trans (by repeat (first | (with_reducible first | exact HK.out | apply KeepBut.set_ | apply keep_drewN | apply keep_drew | apply keep_alloc) | exact HK.out)) (KeepBut.of_below hb g none) (.inl rfl)); have n2_ := Aside0.mk (below_step (by repeat (first | (with_reducible first | exact HB.out | apply below_alloc | apply pw_below_drewN | apply below_drew1 | refine below_set ?_ (IsS126.ge HI0.out)) | exact HB.out)) hb); have n3_ := Aside0.mk (hbox); have n4_ := Aside0.mk ((by rw [hg]; exact (keep_size (w := w) (g := g) (row := none) (by repeat (first | (with_reducible first | exact HK.out | apply KeepBut.set_ | apply keep_drewN | apply keep_drew | apply keep_alloc) | exact HK.out))) : w.heap.size ≤ gb291)); have n5_ := Aside0.mk ((Nat.le_trans HW0.out (by rw [hg]; exact (keep_size (w := w) (g := g) (row := none) (by repeat (first | (with_reducible first | exact HK.out | apply KeepBut.set_ | apply keep_drewN | apply keep_drew | apply keep_alloc) | exact HK.out))) : w.heap.size ≤ gb291) : w0.heap.size ≤ gb291)); have n6_ := Aside0.mk ((by rw [hg]; exact Nat.ne_of_lt (IsS126.lt (show IsS126 w0 _ g s0_0 s0_1 from by repeat (first | (with_reducible first | exact HI0.out | apply IsS126.alloc | apply IsS126.drewN | apply IsS126.drew | apply IsS126.set_1) | exact HI0.out))) : g ≠ gb291)); have n7_ := Aside0.mk ((by rw [hg]; exact Nat.ne_of_gt (IsS126.lt (show IsS126 w0 _ g s0_0 s0_1 from by repeat (first | (with_reducible first | exact HI0.out | apply IsS126.alloc | apply IsS126.drewN | apply IsS126.drew | apply IsS126.set_1) | exact HI0.out))) : gb291 ≠ g)); clear HI0; clear HK; clear HB; have HI0 := n0_; have HK := n1_; have HB := n2_; have BK291 := n3_; have GW291 := n4_; have GE291 := n5_; have NB0_291 := n6_; have NB291_0 := n7_; clear n0_ n1_ n2_ n3_ n4_ n5_ n6_ n7_; clear hb hbox hg) | ((with_reducible refine gate_callee (f := 59) rfl ?_); refine goesL_ (some 5) rfl rfl Try.func59 (by kernel_rfl) rfl #[.pointer (some ⟨g, 0, none⟩), .int .i64 40] rfl (by (try simp only [List.map_toArray, List.map_cons, List.map_nil]); first | done | rfl | (simp only [List.length_drop, List.length_take]; rfl)) ?_; (with_reducible refine (spec_l6Rd_pick.calls k g s0_0 s0_1 40 t292 t293 w0 _ ?side1 ?side2 A2.out).mono ?_); (case side1 => repeat (first | (with_reducible first | exact HI0.out | apply IsS126.alloc | apply IsS126.drewN | apply IsS126.drew | apply IsS126.set_1 | refine IsS126.far ?_ NB0_291.out _) | exact HI0.out)); (case side2 => repeat (first | (with_reducible first | exact HB.out | apply below_alloc | apply pw_below_drewN | apply below_drew1 | refine below_set ?_ (IsS126.ge HI0.out) | refine below_set ?_ GE291.out) | exact HB.out)); rintro e w18 ⟨rfl, hi, hb, hk⟩; refine ⟨_, rfl, ?_⟩; have n0_ := Aside0.mk (KeepBut.blk hk (g' := gb291) (o := .cells #[.int .i64 0, .bool false] 64 (0, 0)) (by (with_reducible repeat (first | refine blk_drewN ?_ _ | refine blk_drew ?_ | refine blk_alloc ?_ _)); exact BK291.out) NB291_0.out (by simp)); have n1_ := Aside0.mk (KeepBut.trans (by repeat (first | (with_reducible first | exact HK.out | apply KeepBut.set_ | apply keep_drewN | apply keep_drew | apply keep_alloc | refine keep_far ?_ GW291.out _) | exact HK.out)) hk (.inl rfl)); have n2_ := Aside0.mk (hb); have n3_ := Aside0.mk (hi); clear BK291; clear HK; clear HB; clear HI0; have BK291 := n0_; have HK := n1_; have HB := n2_; have HI0 := n3_; clear n0_ n1_ n2_ n3_; (try clear hb); (try clear hb2); (try clear hk); (try clear hi)) | ((with_reducible refine gate_callee (f := 59) rfl ?_); refine goesL_ (some 17) rfl rfl Try.func59 (by kernel_rfl) rfl #[.pointer (some ⟨g, 0, none⟩), .int .i64 21] rfl (by (try simp only [List.map_toArray, List.map_cons, List.map_nil]); first | done | rfl | (simp only [List.length_drop, List.length_take]; rfl)) ?_; (with_reducible refine (spec_l6Rd_pick.calls k g s0_0 t293 21 t300 t301 w0 _ ?side1 ?side2 A16.out).mono ?_); (case side1 => repeat (first | (with_reducible first | exact HI0.out | apply IsS126.alloc | apply IsS126.drewN | apply IsS126.drew | apply IsS126.set_1 | refine IsS126.far ?_ NB0_291.out _) | exact HI0.out)); (case side2 => repeat (first | (with_reducible first | exact HB.out | apply below_alloc | apply pw_below_drewN | apply below_drew1 | refine below_set ?_ (IsS126.ge HI0.out) | refine below_set ?_ GE291.out) | exact HB.out)); rintro e w19 ⟨rfl, hi, hb, hk⟩; refine ⟨_, rfl, ?_⟩; have n0_ := Aside0.mk (KeepBut.blk hk (g' := gb291) (o := .cells #[.int .i64 0, .bool false] 64 (0, 0)) (by (with_reducible repeat (first | refine blk_drewN ?_ _ | refine blk_drew ?_ | refine blk_alloc ?_ _)); exact BK291.out) NB291_0.out (by simp)); have n1_ := Aside0.mk (KeepBut.trans (by repeat (first | (with_reducible first | exact HK.out | apply KeepBut.set_ | apply keep_drewN | apply keep_drew | apply keep_alloc | refine keep_far ?_ GW291.out _) | exact HK.out)) hk (.inl rfl)); have n2_ := Aside0.mk (hb); have n3_ := Aside0.mk (hi); clear BK291; clear HK; clear HB; clear HI0; have BK291 := n0_; have HK := n1_; have HB := n2_; have HI0 := n3_; clear n0_ n1_ n2_ n3_; (try clear hb); (try clear hb2); (try clear hk); (try clear hi); have hnb20 := NB291_0.out; have hnc20 := NB0_291.out; have hcz21_0 : w19.cell? ⟨gb291, 0, none⟩ = some (.int .i64 0) := (blk_cell BK291.out 0).trans rfl; have hcz21_1 : w19.cell? ⟨gb291, 1, none⟩ = some (.bool false) := (blk_cell BK291.out 1).trans rfl; have hfz21_0 := blk_frozen BK291.out 0; have hfz21_1 := blk_frozen BK291.out 1))
   refine bodyPost_ret (results_cell_row rfl _ _ gb291 64 #[.int .i64 t300, .bool true] (0, 0) _ rfl (by (with_reducible repeat (first | refine blk_drewN ?_ _ | refine blk_drew ?_ | refine blk_alloc ?_ _)); refine blk_put (cs := #[.int .i64 t300, .bool false]) ?_ 1 _ rfl; (with_reducible repeat (first | refine blk_drewN ?_ _ | refine blk_drew ?_ | refine blk_alloc ?_ _)); refine blk_put (cs := #[.int .i64 0, .bool false]) ?_ 0 _ rfl; (with_reducible repeat (first | refine blk_drewN ?_ _ | refine blk_drew ?_ | refine blk_alloc ?_ _)); exact BK291.out) Try.underlying64 rfl (by kernel_rfl)) rfl ?_; exact ⟨by first | rfl | (simp [errW_none, errW_some] <;> rfl) | (simp [*, errW_none, errW_some] <;> rfl), by repeat (first | (with_reducible first | exact HI0.out | apply IsS126.alloc | apply IsS126.drewN | apply IsS126.drew | apply IsS126.set_1 | refine IsS126.far ?_ NB0_291.out _) | exact HI0.out), by repeat (first | (with_reducible first | exact HB.out | apply below_alloc | apply pw_below_drewN | apply below_drew1 | refine below_set ?_ (IsS126.ge HI0.out) | refine below_set ?_ GE291.out) | exact HB.out), by repeat (first | (with_reducible first | exact HK.out | apply KeepBut.set_ | apply keep_drewN | apply keep_drew | apply keep_alloc | refine keep_far ?_ GW291.out _) | exact HK.out)⟩
  ·
   rw [if_neg c15] at H; have c15b0 : (t292 == 1) = false := beq_eq_false_iff_ne.mpr c15; have c15b1 : (t292 != 1) = true := bne_iff_ne.mpr c15; replace H := Option.bind_eq_some_iff.mp H; obtain ⟨⟨t302, t303⟩, A220, H⟩ := H; replace H : ((spec_l1Letter.f (wrap64 (3 + t302))).bind fun t304 => (if t304 = 2 then ((spec_l6Rd_pick.f k s0_0 t303 2).bind fun bt305 => (some (wrap64 (3 + t302), (bt305.1 == 0), bt305.2))) else (some (wrap64 (3 + t302), false, t303)))) = some (r1, r2, r3) := H; have A22 := Aside0.mk A220; clear A220; replace H := Option.bind_eq_some_iff.mp H; obtain ⟨t304, A230, H⟩ := H; replace H : (if t304 = 2 then ((spec_l6Rd_pick.f k s0_0 t303 2).bind fun bt305 => (some (wrap64 (3 + t302), (bt305.1 == 0), bt305.2))) else (some (wrap64 (3 + t302), false, t303))) = some (r1, r2, r3) := H; have A23 := Aside0.mk A230; clear A230; by_cases c24 : t304 = 2
   ·
    rw [if_pos c24] at H; have c24b0 : (t304 == 2) = true := beq_iff_eq.mpr c24; have c24b1 : (t304 != 2) = false := bne_eq_false_iff_eq.mpr c24; clear c24; replace H := Option.bind_eq_some_iff.mp H; obtain ⟨⟨t305, t306⟩, A250, H⟩ := H; replace H : (some (wrap64 (3 + t302), (t305 == 0), t306)) = some (r1, r2, r3) := H; have A25 := Aside0.mk A250; clear A250; simp only [Option.some.injEq, Prod.mk.injEq] at H; obtain ⟨rfl, rfl, rfl⟩ := H; go_enter Try.func94, Try.ntmps94
    go_wp2_with (first | ((with_reducible refine gate_dst (N := 2) rfl ?_); refine box_event ?hg (N := 2) ?hd (cs := #[.int .i64 0, .bool false]) (t := 64) ?hr ?_; (case hd => rfl); (case hg => rfl); (case hr => first | (go_simp; done) | (go_simp; rfl)); intro gb291 hg w26 hbox hb; have n0_ := Aside0.mk (IsS126.below (by repeat (first | (with_reducible first | exact HI0.out | apply IsS126.alloc | apply IsS126.drewN | apply IsS126.drew | apply IsS126.set_1) | exact HI0.out)) hb); have n1_ := Aside0.mk (KeepBut.trans (by repeat (first | (with_reducible first | exact HK.out | apply KeepBut.set_ | apply keep_drewN | apply keep_drew | apply keep_alloc) | exact HK.out)) (KeepBut.of_below hb g none) (.inl rfl)); have n2_ := Aside0.mk (below_step (by repeat (first | (with_reducible first | exact HB.out | apply below_alloc | apply pw_below_drewN | apply below_drew1 | refine below_set ?_ (IsS126.ge HI0.out)) | exact HB.out)) hb); have n3_ := Aside0.mk (hbox); have n4_ := Aside0.mk ((by rw [hg]; exact (keep_size (w := w) (g := g) (row := none) (by repeat (first | (with_reducible first | exact HK.out | apply KeepBut.set_ | apply keep_drewN | apply keep_drew | apply keep_alloc) | exact HK.out))) : w.heap.size ≤ gb291)); have n5_ := Aside0.mk ((Nat.le_trans HW0.out (by rw [hg]; exact (keep_size (w := w) (g := g) (row := none) (by repeat (first | (with_reducible first | exact HK.out | apply KeepBut.set_ | apply keep_drewN | apply keep_drew | apply keep_alloc) | exact HK.out))) : w.heap.size ≤ gb291) : w0.heap.size ≤ gb291)); have n6_ := Aside0.mk ((by rw [hg]; exact Nat.ne_of_lt (IsS126.lt (show IsS126 w0 _ g s0_0 s0_1 from by repeat (first | (with_reducible first | exact HI0.out | apply IsS126.alloc | apply IsS126.drewN | apply IsS126.drew | apply IsS126.set_1) | exact HI0.out))) : g ≠ gb291)); have n7_ := Aside0.mk ((by rw [hg]; exact Nat.ne_of_gt (IsS126.lt (show IsS126 w0 _ g s0_0 s0_1 from by repeat (first | (with_reducible first | exact HI0.out | apply IsS126.alloc | apply IsS126.drewN | apply IsS126.drew | apply IsS126.set_1) | exact HI0.out))) : gb291 ≠ g)); clear HI0; clear HK; clear HB; have HI0 := n0_; have HK := n1_; have HB := n2_; have BK291 := n3_; have GW291 := n4_; have GE291 := n5_; have NB0_291 := n6_; have NB291_0 := n7_; clear n0_ n1_ n2_ n3_ n4_ n5_ n6_ n7_; clear hb hbox hg) | ((with_reducible refine gate_callee (f := 59) rfl ?_); refine goesL_ (some 5) rfl rfl Try.func59 (by kernel_rfl) rfl #[.pointer (some ⟨g, 0, none⟩), .int .i64 40] rfl (by (try simp only [List.map_toArray, List.map_cons, List.map_nil]); first | done | rfl | (simp only [List.length_drop, List.length_take]; rfl)) ?_; (with_reducible refine (spec_l6Rd_pick.calls k g s0_0 s0_1 40 t292 t293 w0 _ ?side1 ?side2 A2.out).mono ?_); (case side1 => repeat (first | (with_reducible first | exact HI0.out | apply IsS126.alloc | apply IsS126.drewN | apply IsS126.drew | apply IsS126.set_1 | refine IsS126.far ?_ NB0_291.out _) | exact HI0.out)); (case side2 => repeat (first | (with_reducible first | exact HB.out | apply below_alloc | apply pw_below_drewN | apply below_drew1 | refine below_set ?_ (IsS126.ge HI0.out) | refine below_set ?_ GE291.out) | exact HB.out)); rintro e w27 ⟨rfl, hi, hb, hk⟩; refine ⟨_, rfl, ?_⟩; have n0_ := Aside0.mk (KeepBut.blk hk (g' := gb291) (o := .cells #[.int .i64 0, .bool false] 64 (0, 0)) (by (with_reducible repeat (first | refine blk_drewN ?_ _ | refine blk_drew ?_ | refine blk_alloc ?_ _)); exact BK291.out) NB291_0.out (by simp)); have n1_ := Aside0.mk (KeepBut.trans (by repeat (first | (with_reducible first | exact HK.out | apply KeepBut.set_ | apply keep_drewN | apply keep_drew | apply keep_alloc | refine keep_far ?_ GW291.out _) | exact HK.out)) hk (.inl rfl)); have n2_ := Aside0.mk (hb); have n3_ := Aside0.mk (hi); clear BK291; clear HK; clear HB; clear HI0; have BK291 := n0_; have HK := n1_; have HB := n2_; have HI0 := n3_; clear n0_ n1_ n2_ n3_; (try clear hb); (try clear hb2); (try clear hk); (try clear hi)) | ((with_reducible refine gate_callee (f := 59) rfl ?_); refine goesL_ (some 20) rfl rfl Try.func59 (by kernel_rfl) rfl #[.pointer (some ⟨g, 0, none⟩), .int .i64 11] rfl (by (try simp only [List.map_toArray, List.map_cons, List.map_nil]); first | done | rfl | (simp only [List.length_drop, List.length_take]; rfl)) ?_; (with_reducible refine (spec_l6Rd_pick.calls k g s0_0 t293 11 t302 t303 w0 _ ?side1 ?side2 A22.out).mono ?_); (case side1 => repeat (first | (with_reducible first | exact HI0.out | apply IsS126.alloc | apply IsS126.drewN | apply IsS126.drew | apply IsS126.set_1 | refine IsS126.far ?_ NB0_291.out _) | exact HI0.out)); (case side2 => repeat (first | (with_reducible first | exact HB.out | apply below_alloc | apply pw_below_drewN | apply below_drew1 | refine below_set ?_ (IsS126.ge HI0.out) | refine below_set ?_ GE291.out) | exact HB.out)); rintro e w28 ⟨rfl, hi, hb, hk⟩; refine ⟨_, rfl, ?_⟩; have n0_ := Aside0.mk (KeepBut.blk hk (g' := gb291) (o := .cells #[.int .i64 0, .bool false] 64 (0, 0)) (by (with_reducible repeat (first | refine blk_drewN ?_ _ | refine blk_drew ?_ | refine blk_alloc ?_ _)); exact BK291.out) NB291_0.out (by simp)); have n1_ := Aside0.mk (KeepBut.trans (by repeat (first | (with_reducible first | exact HK.out | apply KeepBut.set_ | apply keep_drewN | apply keep_drew | apply keep_alloc | refine keep_far ?_ GW291.out _) | exact HK.out)) hk (.inl rfl)); have n2_ := Aside0.mk (hb); have n3_ := Aside0.mk (hi); clear BK291; clear HK; clear HB; clear HI0; have BK291 := n0_; have HK := n1_; have HB := n2_; have HI0 := n3_; clear n0_ n1_ n2_ n3_; (try clear hb); (try clear hb2); (try clear hk); (try clear hi)) | ((with_reducible refine gate_callee (f := 109) rfl ?_); refine goesL_ (some 24) rfl rfl Try.func109 (by kernel_rfl) rfl #[.int .i64 (wrap64 (3 + t302))] rfl (by (try simp only [List.map_toArray, List.map_cons, List.map_nil]); first | done | rfl | (simp only [List.length_drop, List.length_take]; rfl)) ?_; (with_reducible refine (spec_l1Letter.calls (wrap64 (3 + t302)) t304 _ A23.out).mono ?_); rintro e w' ⟨rfl, ⟨nd, rfl⟩⟩; refine ⟨_, rfl, ?_⟩; (try (rw [drewN_self w28]; generalize hq_ : World.drewN w28 _ = w28; have n0_ : Aside0 (w28.heap[gb291]? = some (.cells #[.int .i64 0, .bool false] 64 (0, 0))) := ⟨by rw [← hq_]; exact (by (with_reducible repeat (first | refine blk_drewN ?_ _ | refine blk_drew ?_ | refine blk_alloc ?_ _)); exact BK291.out)⟩; have n1_ : Aside0 (IsS126 w0 w28 g s0_0 t303) := ⟨by rw [← hq_]; exact (by repeat (first | (with_reducible first | exact HI0.out | apply IsS126.alloc | apply IsS126.drewN | apply IsS126.drew | apply IsS126.set_1 | refine IsS126.far ?_ NB0_291.out _) | exact HI0.out))⟩; have n2_ : Aside0 (KeepBut w w28 g none) := ⟨by rw [← hq_]; exact (by repeat (first | (with_reducible first | exact HK.out | apply KeepBut.set_ | apply keep_drewN | apply keep_drew | apply keep_alloc | refine keep_far ?_ GW291.out _) | exact HK.out))⟩; have n3_ : Aside0 (Below w0.heap.size w0 w28) := ⟨by rw [← hq_]; exact (by repeat (first | (with_reducible first | exact HB.out | apply below_alloc | apply pw_below_drewN | apply below_drew1 | refine below_set ?_ (IsS126.ge HI0.out) | refine below_set ?_ GE291.out) | exact HB.out))⟩; clear BK291 HI0 HK HB hq_; have BK291 := n0_; have HI0 := n1_; have HK := n2_; have HB := n3_; clear n0_ n1_ n2_ n3_))) | (go_at_call 59; (with_reducible refine (spec_l6Rd_pick.calls k g s0_0 t303 2 t305 t306 w0 _ ?side1 ?side2 A25.out).mono ?_); (case side1 => repeat (first | (with_reducible first | exact HI0.out | apply IsS126.alloc | apply IsS126.drewN | apply IsS126.drew | apply IsS126.set_1 | refine IsS126.far ?_ NB0_291.out _) | exact HI0.out)); (case side2 => repeat (first | (with_reducible first | exact HB.out | apply below_alloc | apply pw_below_drewN | apply below_drew1 | refine below_set ?_ (IsS126.ge HI0.out) | refine below_set ?_ GE291.out) | exact HB.out)); rintro e w29 ⟨rfl, hi, hb, hk⟩; have n0_ := Aside0.mk (KeepBut.blk hk (g' := gb291) (o := .cells #[.int .i64 0, .bool false] 64 (0, 0)) (by (with_reducible repeat (first | refine blk_drewN ?_ _ | refine blk_drew ?_ | refine blk_alloc ?_ _)); exact BK291.out) NB291_0.out (by simp)); have n1_ := Aside0.mk (KeepBut.trans (by repeat (first | (with_reducible first | exact HK.out | apply KeepBut.set_ | apply keep_drewN | apply keep_drew | apply keep_alloc | refine keep_far ?_ GW291.out _) | exact HK.out)) hk (.inl rfl)); have n2_ := Aside0.mk (hb); have n3_ := Aside0.mk (hi); clear BK291; clear HK; clear HB; clear HI0; have BK291 := n0_; have HK := n1_; have HB := n2_; have HI0 := n3_; clear n0_ n1_ n2_ n3_; (try clear hb); (try clear hb2); (try clear hk); (try clear hi); have hnb30 := NB291_0.out; have hnc30 := NB0_291.out; have hcz31_0 : w29.cell? ⟨gb291, 0, none⟩ = some (.int .i64 0) := (blk_cell BK291.out 0).trans rfl; have hcz31_1 : w29.cell? ⟨gb291, 1, none⟩ = some (.bool false) := (blk_cell BK291.out 1).trans rfl; have hfz31_0 := blk_frozen BK291.out 0; have hfz31_1 := blk_frozen BK291.out 1))
    refine bodyPost_ret (results_cell_row rfl _ _ gb291 64 #[.int .i64 (wrap64 (3 + t302)), .bool (t305 == 0)] (0, 0) _ rfl (by (with_reducible repeat (first | refine blk_drewN ?_ _ | refine blk_drew ?_ | refine blk_alloc ?_ _)); refine blk_put (cs := #[.int .i64 (wrap64 (3 + t302)), .bool false]) ?_ 1 _ rfl; (with_reducible repeat (first | refine blk_drewN ?_ _ | refine blk_drew ?_ | refine blk_alloc ?_ _)); refine blk_put (cs := #[.int .i64 0, .bool false]) ?_ 0 _ rfl; (with_reducible repeat (first | refine blk_drewN ?_ _ | refine blk_drew ?_ | refine blk_alloc ?_ _)); exact BK291.out) Try.underlying64 rfl (by kernel_rfl)) rfl ?_; exact ⟨by first | rfl | (simp [errW_none, errW_some] <;> rfl) | (simp [*, errW_none, errW_some] <;> rfl), by repeat (first | (with_reducible first | exact HI0.out | apply IsS126.alloc | apply IsS126.drewN | apply IsS126.drew | apply IsS126.set_1 | refine IsS126.far ?_ NB0_291.out _) | exact HI0.out), by repeat (first | (with_reducible first | exact HB.out | apply below_alloc | apply pw_below_drewN | apply below_drew1 | refine below_set ?_ (IsS126.ge HI0.out) | refine below_set ?_ GE291.out) | exact HB.out), by repeat (first | (with_reducible first | exact HK.out | apply KeepBut.set_ | apply keep_drewN | apply keep_drew | apply keep_alloc | refine keep_far ?_ GW291.out _) | exact HK.out)⟩
   ·
    rw [if_neg c24] at H; have c24b0 : (t304 == 2) = false := beq_eq_false_iff_ne.mpr c24; have c24b1 : (t304 != 2) = true := bne_iff_ne.mpr c24; simp only [Option.some.injEq, Prod.mk.injEq] at H; obtain ⟨rfl, rfl, rfl⟩ := H; go_enter Try.func94, Try.ntmps94
    go_wp2_with (first | ((with_reducible refine gate_dst (N := 2) rfl ?_); refine box_event ?hg (N := 2) ?hd (cs := #[.int .i64 0, .bool false]) (t := 64) ?hr ?_; (case hd => rfl); (case hg => rfl); (case hr => first | (go_simp; done) | (go_simp; rfl)); intro gb291 hg w32 hbox hb; have n0_ := Aside0.mk (IsS126.below (by repeat (first | (with_reducible first | exact HI0.out | apply IsS126.alloc | apply IsS126.drewN | apply IsS126.drew | apply IsS126.set_1) | exact HI0.out)) hb); have n1_ := Aside0.mk (KeepBut.trans (by repeat (first | (with_reducible first | exact HK.out | apply KeepBut.set_ | apply keep_drewN | apply keep_drew | apply keep_alloc) | exact HK.out)) (KeepBut.of_below hb g none) (.inl rfl)); have n2_ := Aside0.mk (below_step (by repeat (first | (with_reducible first | exact HB.out | apply below_alloc | apply pw_below_drewN | apply below_drew1 | refine below_set ?_ (IsS126.ge HI0.out)) | exact HB.out)) hb); have n3_ := Aside0.mk (hbox); have n4_ := Aside0.mk ((by rw [hg]; exact (keep_size (w := w) (g := g) (row := none) (by repeat (first | (with_reducible first | exact HK.out | apply KeepBut.set_ | apply keep_drewN | apply keep_drew | apply keep_alloc) | exact HK.out))) : w.heap.size ≤ gb291)); have n5_ := Aside0.mk ((Nat.le_trans HW0.out (by rw [hg]; exact (keep_size (w := w) (g := g) (row := none) (by repeat (first | (with_reducible first | exact HK.out | apply KeepBut.set_ | apply keep_drewN | apply keep_drew | apply keep_alloc) | exact HK.out))) : w.heap.size ≤ gb291) : w0.heap.size ≤ gb291)); have n6_ := Aside0.mk ((by rw [hg]; exact Nat.ne_of_lt (IsS126.lt (show IsS126 w0 _ g s0_0 s0_1 from by repeat (first | (with_reducible first | exact HI0.out | apply IsS126.alloc | apply IsS126.drewN | apply IsS126.drew | apply IsS126.set_1) | exact HI0.out))) : g ≠ gb291)); have n7_ := Aside0.mk ((by rw [hg]; exact Nat.ne_of_gt (IsS126.lt (show IsS126 w0 _ g s0_0 s0_1 from by repeat (first | (with_reducible first | exact HI0.out | apply IsS126.alloc | apply IsS126.drewN | apply IsS126.drew | apply IsS126.set_1) | exact HI0.out))) : gb291 ≠ g)); clear HI0; clear HK; clear HB; have HI0 := n0_; have HK := n1_; have HB := n2_; have BK291 := n3_; have GW291 := n4_; have GE291 := n5_; have NB0_291 := n6_; have NB291_0 := n7_; clear n0_ n1_ n2_ n3_ n4_ n5_ n6_ n7_; clear hb hbox hg) | ((with_reducible refine gate_callee (f := 59) rfl ?_); refine goesL_ (some 5) rfl rfl Try.func59 (by kernel_rfl) rfl #[.pointer (some ⟨g, 0, none⟩), .int .i64 40] rfl (by (try simp only [List.map_toArray, List.map_cons, List.map_nil]); first | done | rfl | (simp only [List.length_drop, List.length_take]; rfl)) ?_; (with_reducible refine (spec_l6Rd_pick.calls k g s0_0 s0_1 40 t292 t293 w0 _ ?side1 ?side2 A2.out).mono ?_); (case side1 => repeat (first | (with_reducible first | exact HI0.out | apply IsS126.alloc | apply IsS126.drewN | apply IsS126.drew | apply IsS126.set_1 | refine IsS126.far ?_ NB0_291.out _) | exact HI0.out)); (case side2 => repeat (first | (with_reducible first | exact HB.out | apply below_alloc | apply pw_below_drewN | apply below_drew1 | refine below_set ?_ (IsS126.ge HI0.out) | refine below_set ?_ GE291.out) | exact HB.out)); rintro e w33 ⟨rfl, hi, hb, hk⟩; refine ⟨_, rfl, ?_⟩; have n0_ := Aside0.mk (KeepBut.blk hk (g' := gb291) (o := .cells #[.int .i64 0, .bool false] 64 (0, 0)) (by (with_reducible repeat (first | refine blk_drewN ?_ _ | refine blk_drew ?_ | refine blk_alloc ?_ _)); exact BK291.out) NB291_0.out (by simp)); have n1_ := Aside0.mk (KeepBut.trans (by repeat (first | (with_reducible first | exact HK.out | apply KeepBut.set_ | apply keep_drewN | apply keep_drew | apply keep_alloc | refine keep_far ?_ GW291.out _) | exact HK.out)) hk (.inl rfl)); have n2_ := Aside0.mk (hb); have n3_ := Aside0.mk (hi); clear BK291; clear HK; clear HB; clear HI0; have BK291 := n0_; have HK := n1_; have HB := n2_; have HI0 := n3_; clear n0_ n1_ n2_ n3_; (try clear hb); (try clear hb2); (try clear hk); (try clear hi)) | ((with_reducible refine gate_callee (f := 59) rfl ?_); refine goesL_ (some 20) rfl rfl Try.func59 (by kernel_rfl) rfl #[.pointer (some ⟨g, 0, none⟩), .int .i64 11] rfl (by (try simp only [List.map_toArray, List.map_cons, List.map_nil]); first | done | rfl | (simp only [List.length_drop, List.length_take]; rfl)) ?_; (with_reducible refine (spec_l6Rd_pick.calls k g s0_0 t293 11 t302 t303 w0 _ ?side1 ?side2 A22.out).mono ?_); (case side1 => repeat (first | (with_reducible first | exact HI0.out | apply IsS126.alloc | apply IsS126.drewN | apply IsS126.drew | apply IsS126.set_1 | refine IsS126.far ?_ NB0_291.out _) | exact HI0.out)); (case side2 => repeat (first | (with_reducible first | exact HB.out | apply below_alloc | apply pw_below_drewN | apply below_drew1 | refine below_set ?_ (IsS126.ge HI0.out) | refine below_set ?_ GE291.out) | exact HB.out)); rintro e w34 ⟨rfl, hi, hb, hk⟩; refine ⟨_, rfl, ?_⟩; have n0_ := Aside0.mk (KeepBut.blk hk (g' := gb291) (o := .cells #[.int .i64 0, .bool false] 64 (0, 0)) (by (with_reducible repeat (first | refine blk_drewN ?_ _ | refine blk_drew ?_ | refine blk_alloc ?_ _)); exact BK291.out) NB291_0.out (by simp)); have n1_ := Aside0.mk (KeepBut.trans (by repeat (first | (with_reducible first | exact HK.out | apply KeepBut.set_ | apply keep_drewN | apply keep_drew | apply keep_alloc | refine keep_far ?_ GW291.out _) | exact HK.out)) hk (.inl rfl)); have n2_ := Aside0.mk (hb); have n3_ := Aside0.mk (hi); clear BK291; clear HK; clear HB; clear HI0; have BK291 := n0_; have HK := n1_; have HB := n2_; have HI0 := n3_; clear n0_ n1_ n2_ n3_; (try clear hb); (try clear hb2); (try clear hk); (try clear hi)) | ((with_reducible refine gate_callee (f := 109) rfl ?_); refine goesL_ (some 24) rfl rfl Try.func109 (by kernel_rfl) rfl #[.int .i64 (wrap64 (3 + t302))] rfl (by (try simp only [List.map_toArray, List.map_cons, List.map_nil]); first | done | rfl | (simp only [List.length_drop, List.length_take]; rfl)) ?_; (with_reducible refine (spec_l1Letter.calls (wrap64 (3 + t302)) t304 _ A23.out).mono ?_); rintro e w' ⟨rfl, ⟨nd, rfl⟩⟩; refine ⟨_, rfl, ?_⟩; (try (rw [drewN_self w34]; generalize hq_ : World.drewN w34 _ = w34; have n0_ : Aside0 (w34.heap[gb291]? = some (.cells #[.int .i64 0, .bool false] 64 (0, 0))) := ⟨by rw [← hq_]; exact (by (with_reducible repeat (first | refine blk_drewN ?_ _ | refine blk_drew ?_ | refine blk_alloc ?_ _)); exact BK291.out)⟩; have n1_ : Aside0 (IsS126 w0 w34 g s0_0 t303) := ⟨by rw [← hq_]; exact (by repeat (first | (with_reducible first | exact HI0.out | apply IsS126.alloc | apply IsS126.drewN | apply IsS126.drew | apply IsS126.set_1 | refine IsS126.far ?_ NB0_291.out _) | exact HI0.out))⟩; have n2_ : Aside0 (KeepBut w w34 g none) := ⟨by rw [← hq_]; exact (by repeat (first | (with_reducible first | exact HK.out | apply KeepBut.set_ | apply keep_drewN | apply keep_drew | apply keep_alloc | refine keep_far ?_ GW291.out _) | exact HK.out))⟩; have n3_ : Aside0 (Below w0.heap.size w0 w34) := ⟨by rw [← hq_]; exact (by repeat (first | (with_reducible first | exact HB.out | apply below_alloc | apply pw_below_drewN | apply below_drew1 | refine below_set ?_ (IsS126.ge HI0.out) | refine below_set ?_ GE291.out) | exact HB.out))⟩; clear BK291 HI0 HK HB hq_; have BK291 := n0_; have HI0 := n1_; have HK := n2_; have HB := n3_; clear n0_ n1_ n2_ n3_)); have hnb35 := NB291_0.out; have hnc35 := NB0_291.out; have hcz36_0 : w34.cell? ⟨gb291, 0, none⟩ = some (.int .i64 0) := (blk_cell BK291.out 0).trans rfl; have hcz36_1 : w34.cell? ⟨gb291, 1, none⟩ = some (.bool false) := (blk_cell BK291.out 1).trans rfl; have hfz36_0 := blk_frozen BK291.out 0; have hfz36_1 := blk_frozen BK291.out 1))
    refine bodyPost_ret (results_cell_row rfl _ _ gb291 64 #[.int .i64 (wrap64 (3 + t302)), .bool false] (0, 0) _ rfl (by (with_reducible repeat (first | refine blk_drewN ?_ _ | refine blk_drew ?_ | refine blk_alloc ?_ _)); refine blk_put (cs := #[.int .i64 (wrap64 (3 + t302)), .bool false]) ?_ 1 _ rfl; (with_reducible repeat (first | refine blk_drewN ?_ _ | refine blk_drew ?_ | refine blk_alloc ?_ _)); refine blk_put (cs := #[.int .i64 0, .bool false]) ?_ 0 _ rfl; (with_reducible repeat (first | refine blk_drewN ?_ _ | refine blk_drew ?_ | refine blk_alloc ?_ _)); exact BK291.out) Try.underlying64 rfl (by kernel_rfl)) rfl ?_; exact ⟨by first | rfl | (simp [errW_none, errW_some] <;> rfl) | (simp [*, errW_none, errW_some] <;> rfl), by repeat (first | (with_reducible first | exact HI0.out | apply IsS126.alloc | apply IsS126.drewN | apply IsS126.drew | apply IsS126.set_1 | refine IsS126.far ?_ NB0_291.out _) | exact HI0.out), by repeat (first | (with_reducible first | exact HB.out | apply below_alloc | apply pw_below_drewN | apply below_drew1 | refine below_set ?_ (IsS126.ge HI0.out) | refine below_set ?_ GE291.out) | exact HB.out), by repeat (first | (with_reducible first | exact HK.out | apply KeepBut.set_ | apply keep_drewN | apply keep_drew | apply keep_alloc | refine keep_far ?_ GW291.out _) | exact HK.out)⟩

end Go.Proofs.Ytnemcppllfmioaa.PFnReadMelody
namespace Go.Proofs.Ytnemcppllfmioaa.PFnReadMelody
open Go.RowKit Go.Proofs.YtnemcppllfmioaaW.PrintWords Go.Proofs.YtnemcppllfmioaaW.PrintLast Go.Proofs.YtnemcppllfmioaaW.PrintMore
attribute [local go_sem] max2_int min2_int max_two min_two max_three min_three max_four min_four   -- for this text's walks alone
set_option linter.unusedVariables false
set_option linter.unusedSimpArgs false

def spec_DrawFormulasMelody.f (k : Nat) (l0 : List Int) : Option ((List (S55)) × List Int × Int × Bool) := (spec_l6Open.f l0).bind fun bt308 => ((spec_l92Formulas.f k bt308.1 bt308.2).bind fun bt311 => ((spec_l92Reading.f k bt308.1 bt311.2 (bt311.1.length : Int)).bind fun bt315 => ((spec_l91Tone.f k bt308.1 bt315.2).bind fun bt319 => (some (bt311.1, bt315.1, bt319.1, bt319.2.1)))))
set_option maxHeartbeats 8000000 in
set_option maxRecDepth 100000 in
theorem spec_DrawFormulasMelody.calls (k : Nat) (A0 : Option Addr) (c0 : Nat) (l0 : List Int) (r1 : List (S55)) (r2 : List Int) (r3 : Int) (r4 : Bool) (w : World) (hr0 : Kd.C (Kd.int .u8) w A0 l0.length l0) (hc0 : l0.length ≤ c0) (h : spec_DrawFormulasMelody.f k l0 = some (r1, r2, r3, r4)) :
 Calls Try.prog 49 #[.slice A0 l0.length c0] w fun e w' => ∃ v0_ v1_ : Value, e = .returned (.tuple #[v0_, v1_, .agg #[.int .i64 r3, .bool r4]]) ∧ Kd.N k55 55 w' w.heap.size (fun k_ => (w.heap.size ≤ k_) ∧ some k_ ≠ (v1_ : Value).ownBlock) v0_ r1 ∧ Kd.R (Kd.int .i64) 3 w' w.heap.size (fun k_ => (w.heap.size ≤ k_)) v1_ r2 ∧ Below w.heap.size w w' := by
 have hu64 := Try.underlying64; have HR0 := Aside0.mk hr0; have HC0 := Aside0.mk hc0; clear hr0 hc0; have HB := Aside0.mk (Below.refl w.heap.size w); have H : ((spec_l6Open.f l0).bind fun bt308 => ((spec_l92Formulas.f k bt308.1 bt308.2).bind fun bt311 => ((spec_l92Reading.f k bt308.1 bt311.2 (bt311.1.length : Int)).bind fun bt315 => ((spec_l91Tone.f k bt308.1 bt315.2).bind fun bt319 => (some (bt311.1, bt315.1, bt319.1, bt319.2.1)))))) = some (r1, r2, r3, r4) := h; clear h; replace H := Option.bind_eq_some_iff.mp H; obtain ⟨⟨t308, t309⟩, A20, H⟩ := H; replace H : ((spec_l92Formulas.f k t308 t309).bind fun bt311 => ((spec_l92Reading.f k t308 bt311.2 (bt311.1.length : Int)).bind fun bt315 => ((spec_l91Tone.f k t308 bt315.2).bind fun bt319 => (some (bt311.1, bt315.1, bt319.1, bt319.2.1))))) = some (r1, r2, r3, r4) := H; have A2 := Aside0.mk A20; clear A20; replace H := Option.bind_eq_some_iff.mp H; obtain ⟨⟨t311, t314⟩, A30, H⟩ := H; replace H : ((spec_l92Reading.f k t308 t314 (t311.length : Int)).bind fun bt315 => ((spec_l91Tone.f k t308 bt315.2).bind fun bt319 => (some (t311, bt315.1, bt319.1, bt319.2.1)))) = some (r1, r2, r3, r4) := H; have A3 := Aside0.mk A30; clear A30; replace H := Option.bind_eq_some_iff.mp H; obtain ⟨⟨t315, t318⟩, A40, H⟩ := H; replace H : ((spec_l91Tone.f k t308 t318).bind fun bt319 => (some (t311, t315, bt319.1, bt319.2.1))) = some (r1, r2, r3, r4) := H; have A4 := Aside0.mk A40; clear A40; replace H := Option.bind_eq_some_iff.mp H; obtain ⟨⟨t319, t320, t321⟩, A50, H⟩ := H; replace H : (some (t311, t315, t319, t320)) = some (r1, r2, r3, r4) := H; have A5 := Aside0.mk A50; clear A50; simp only [Option.some.injEq, Prod.mk.injEq] at H; obtain ⟨rfl, rfl, rfl, rfl⟩ := H; go_enter Try.func49, Try.ntmps49
 go_wp2_with (first | ((with_reducible refine gate_dst (N := 4) rfl ?_); refine box_event ?hg (N := 4) ?hd (cs := #[.int .i64 0, .bool false]) (t := 64) ?hr ?_; (case hd => rfl); (case hg => rfl); (case hr => first | (go_simp; done) | (go_simp; rfl)); intro gb307 hg w6 hbox hb; have n0_ := Aside0.mk (below_step (by repeat (first | (with_reducible first | exact HB.out | apply below_alloc | apply pw_below_drewN | apply below_drew1) | exact HB.out)) hb); have n1_ := Aside0.mk (hbox); have n2_ := Aside0.mk ((by rw [hg]; exact (below_size (by repeat (first | (with_reducible first | exact HB.out | apply below_alloc | apply pw_below_drewN | apply below_drew1) | exact HB.out))) : w.heap.size ≤ gb307)); have n3_ := Aside0.mk ((by rw [hg]; exact (below_size (by repeat (first | (with_reducible first | exact HB.out | apply below_alloc | apply pw_below_drewN | apply below_drew1) | exact HB.out))) : w.heap.size ≤ gb307)); clear HB; have HB := n0_; have BK307 := n1_; have GW307 := n2_; have GE307 := n3_; clear n0_ n1_ n2_ n3_; clear hb hbox hg) | ((with_reducible refine gate_callee (f := 56) rfl ?_); refine goesL_ (some 9) rfl rfl Try.func56 (by kernel_rfl) rfl #[.slice A0 l0.length c0] rfl (by (try simp only [List.map_toArray, List.map_cons, List.map_nil]); first | done | rfl | (simp only [List.length_drop, List.length_take]; rfl)) ?_; (with_reducible refine (spec_l6Open.calls _ _ l0 t308 t309 w _ ?side1 ?side2 ?side3 A2.out).mono ?_); (case side1 => repeat (first | (with_reducible first | exact HB.out | apply below_alloc | apply pw_below_drewN | apply below_drew1 | refine below_set ?_ GE307.out) | exact HB.out)); (case side2 => exact HR0.out); (case side3 => exact HC0.out); rintro e w7 ⟨g310, rfl, hi, hb, hb2⟩; refine ⟨_, rfl, ?_⟩; have n0_ := Aside0.mk (blk_below (g := gb307) (o := .cells #[.int .i64 0, .bool false] 64 (0, 0)) (by (with_reducible repeat (first | refine blk_drewN ?_ _ | refine blk_drew ?_ | refine blk_alloc ?_ _)); exact BK307.out) hb2); have n1_ := Aside0.mk (hb); have n2_ := Aside0.mk (hi); have n3_ := Aside0.mk (IsS126.ne_blk hi (blk_below (g := gb307) (o := .cells #[.int .i64 0, .bool false] 64 (0, 0)) (by (with_reducible repeat (first | refine blk_drewN ?_ _ | refine blk_drew ?_ | refine blk_alloc ?_ _)); exact BK307.out) hb2) (by decide)); have n4_ := Aside0.mk (Ne.symm (IsS126.ne_blk hi (blk_below (g := gb307) (o := .cells #[.int .i64 0, .bool false] 64 (0, 0)) (by (with_reducible repeat (first | refine blk_drewN ?_ _ | refine blk_drew ?_ | refine blk_alloc ?_ _)); exact BK307.out) hb2) (by decide))); clear BK307; clear HB; have BK307 := n0_; have HB := n1_; have HI310 := n2_; have NB310_307 := n3_; have NB307_310 := n4_; clear n0_ n1_ n2_ n3_ n4_; (try clear hb); (try clear hb2); (try clear hk); (try clear hi)) | ((with_reducible refine gate_callee (f := 75) rfl ?_); refine goesL_ (some 11) rfl rfl Try.func75 (by kernel_rfl) rfl #[.pointer (some ⟨g310, 0, none⟩)] rfl (by (try simp only [List.map_toArray, List.map_cons, List.map_nil]); first | done | rfl | (simp only [List.length_drop, List.length_take]; rfl)) ?_; (with_reducible refine (spec_l92Formulas.calls k g310 t308 t309 t311 t314 w _ ?side1 ?side2 A3.out).mono ?_); (case side1 => repeat (first | (with_reducible first | exact HI310.out | apply IsS126.alloc | apply IsS126.drewN | apply IsS126.drew | apply IsS126.set_1 | refine IsS126.far ?_ NB310_307.out _) | exact HI310.out)); (case side2 => repeat (first | (with_reducible first | exact HB.out | apply below_alloc | apply pw_below_drewN | apply below_drew1 | refine below_set ?_ (IsS126.ge HI310.out) | refine below_set ?_ GE307.out) | exact HB.out)); rintro e w8 ⟨v312, rfl, ho0, hi, hb, hk⟩; refine ⟨_, rfl, ?_⟩; have n0_ := Aside0.mk (KeepBut.blk hk (g' := gb307) (o := .cells #[.int .i64 0, .bool false] 64 (0, 0)) (by (with_reducible repeat (first | refine blk_drewN ?_ _ | refine blk_drew ?_ | refine blk_alloc ?_ _)); exact BK307.out) NB307_310.out (by simp)); have n1_ := Aside0.mk (Kd.N_lower (Kd.N_mono (ok' := fun k_ => (w.heap.size ≤ k_) ∧ k_ ≠ gb307 ∧ k_ ≠ g310) ho0 (fun k_ hk_ => ⟨(Nat.le_trans (below_size (by repeat (first | (with_reducible first | exact HB.out | apply below_alloc | apply pw_below_drewN | apply below_drew1 | refine below_set ?_ (IsS126.ge HI310.out) | refine below_set ?_ GE307.out) | exact HB.out))) hk_), (Kd.freshB (g := gb307) (o := .cells #[.int .i64 0, .bool false] 64 (0, 0)) (by (with_reducible repeat (first | refine blk_drewN ?_ _ | refine blk_drew ?_ | refine blk_alloc ?_ _)); exact BK307.out) k_ hk_), (IsS126.fresh (by repeat (first | (with_reducible first | exact HI310.out | apply IsS126.alloc | apply IsS126.drewN | apply IsS126.drew | apply IsS126.set_1 | refine IsS126.far ?_ NB310_307.out _) | exact HI310.out)) k_ hk_)⟩)) (below_size (by repeat (first | (with_reducible first | exact HB.out | apply below_alloc | apply pw_below_drewN | apply below_drew1 | refine below_set ?_ (IsS126.ge HI310.out) | refine below_set ?_ GE307.out) | exact HB.out)))); have n2_ := Aside0.mk (hb); have n3_ := Aside0.mk (hi); clear BK307; clear HB; clear HI310; have BK307 := n0_; have HO313 := n1_; have HB := n2_; have HI310 := n3_; clear n0_ n1_ n2_ n3_; (try clear hb); (try clear hb2); (try clear hk); (try clear hi); (try clear ho0); obtain ⟨Ao9, co9, eo9⟩ := Kd.N_slice HO313.out; subst eo9) | ((with_reducible refine gate_callee (f := 93) rfl ?_); refine goesL_ (some 15) rfl rfl Try.func93 (by kernel_rfl) rfl #[.pointer (some ⟨g310, 0, none⟩), .int .i64 (t311.length : Int)] rfl (by (try simp only [List.map_toArray, List.map_cons, List.map_nil]); first | done | rfl | (simp only [List.length_drop, List.length_take]; rfl)) ?_; (with_reducible refine (spec_l92Reading.calls k g310 t308 t314 (t311.length : Int) t315 t318 w _ ?side1 ?side2 A4.out).mono ?_); (case side1 => repeat (first | (with_reducible first | exact HI310.out | apply IsS126.alloc | apply IsS126.drewN | apply IsS126.drew | apply IsS126.set_1 | refine IsS126.far ?_ NB310_307.out _) | exact HI310.out)); (case side2 => repeat (first | (with_reducible first | exact HB.out | apply below_alloc | apply pw_below_drewN | apply below_drew1 | refine below_set ?_ (IsS126.ge HI310.out) | refine below_set ?_ GE307.out) | exact HB.out)); rintro e w10 ⟨v316, rfl, ho0, hi, hb, hk⟩; refine ⟨_, rfl, ?_⟩; have n0_ := Aside0.mk (KeepBut.blk hk (g' := gb307) (o := .cells #[.int .i64 0, .bool false] 64 (0, 0)) (by (with_reducible repeat (first | refine blk_drewN ?_ _ | refine blk_drew ?_ | refine blk_alloc ?_ _)); exact BK307.out) NB307_310.out (by simp)); have n1_ := Aside0.mk (Kd.N_mono (Kd.N_told (Kd.N_oldK (Kd.N_mono (ok := fun k_ => (((w.heap.size ≤ k_)) ∧ (k_ ≠ gb307 ∧ k_ ≠ g310))) (by (with_reducible repeat (first | apply Kd.N_alloc | apply Kd.N_drewN | apply Kd.N_drew)); exact HO313.out) (fun k_ hk_ => (⟨hk_, hk_.2.2⟩ : _ ∧ k_ ≠ g310))) hk) (Kd.R_base ho0)) (fun _ h_ => h_.1)); have n2_ := Aside0.mk (Kd.R_lower (Kd.R_newM (M := fun k_ => (w.heap.size ≤ k_)) ho0 (below_size (by repeat (first | (with_reducible first | exact HB.out | apply below_alloc | apply pw_below_drewN | apply below_drew1 | refine below_set ?_ (IsS126.ge HI310.out) | refine below_set ?_ GE307.out) | exact HB.out))) (fun k_ h_ => h_)) (below_size (by repeat (first | (with_reducible first | exact HB.out | apply below_alloc | apply pw_below_drewN | apply below_drew1 | refine below_set ?_ (IsS126.ge HI310.out) | refine below_set ?_ GE307.out) | exact HB.out)))); have n3_ := Aside0.mk (hb); have n4_ := Aside0.mk (hi); clear BK307; clear HO313; clear HB; clear HI310; have BK307 := n0_; have HO313 := n1_; have HO317 := n2_; have HB := n3_; have HI310 := n4_; clear n0_ n1_ n2_ n3_ n4_; (try clear hb); (try clear hb2); (try clear hk); (try clear hi); (try clear ho0)) | ((with_reducible refine gate_callee (f := 94) rfl ?_); refine goesL_ (some 19) rfl rfl Try.func94 (by kernel_rfl) rfl #[.pointer (some ⟨g310, 0, none⟩)] rfl (by (try simp only [List.map_toArray, List.map_cons, List.map_nil]); first | done | rfl | (simp only [List.length_drop, List.length_take]; rfl)) ?_; (with_reducible refine (spec_l91Tone.calls k g310 t308 t318 t319 t320 t321 w _ ?side1 ?side2 A5.out).mono ?_); (case side1 => repeat (first | (with_reducible first | exact HI310.out | apply IsS126.alloc | apply IsS126.drewN | apply IsS126.drew | apply IsS126.set_1 | refine IsS126.far ?_ NB310_307.out _) | exact HI310.out)); (case side2 => repeat (first | (with_reducible first | exact HB.out | apply below_alloc | apply pw_below_drewN | apply below_drew1 | refine below_set ?_ (IsS126.ge HI310.out) | refine below_set ?_ GE307.out) | exact HB.out)); rintro e w11 ⟨rfl, hi, hb, hk⟩; refine ⟨_, rfl, ?_⟩; have n0_ := Aside0.mk (KeepBut.blk hk (g' := gb307) (o := .cells #[.int .i64 0, .bool false] 64 (0, 0)) (by (with_reducible repeat (first | refine blk_drewN ?_ _ | refine blk_drew ?_ | refine blk_alloc ?_ _)); exact BK307.out) NB307_310.out (by simp)); have n1_ := Aside0.mk (Kd.N_mono (Kd.N_keep (Kd.N_mono (ok := fun k_ => ((((w.heap.size ≤ k_)) ∧ (k_ ≠ gb307 ∧ k_ ≠ g310)) ∧ some k_ ≠ (v316 : Value).ownBlock)) (by (with_reducible repeat (first | apply Kd.N_alloc | apply Kd.N_drewN | apply Kd.N_drew)); exact HO313.out) (fun k_ hk_ => (⟨hk_, hk_.1.2.2⟩ : _ ∧ k_ ≠ g310))) hk (fun _ h => h.2)) (fun _ h => h.1)); have n2_ := Aside0.mk (Kd.R_mono (Kd.R_keep (IsS126.apart (show IsS126 w _ g310 t308 t318 from by repeat (first | (with_reducible first | exact HI310.out | apply IsS126.alloc | apply IsS126.drewN | apply IsS126.drew | apply IsS126.set_1 | refine IsS126.far ?_ NB310_307.out _) | exact HI310.out)) (by (with_reducible repeat (first | apply Kd.R_alloc | apply Kd.R_drewN | apply Kd.R_drew)); exact HO317.out) (by decide)) hk (fun _ h => h.2)) (fun _ h => h.1)); have n3_ := Aside0.mk (hb); have n4_ := Aside0.mk (hi); clear BK307; clear HO313; clear HO317; clear HB; clear HI310; have BK307 := n0_; have HO313 := n1_; have HO317 := n2_; have HB := n3_; have HI310 := n4_; clear n0_ n1_ n2_ n3_ n4_; (try clear hb); (try clear hb2); (try clear hk); (try clear hi); have hnb12 := NB307_310.out; have hnc12 := NB310_307.out; have hcz13_0 : w11.cell? ⟨gb307, 0, none⟩ = some (.int .i64 0) := (blk_cell BK307.out 0).trans rfl; have hcz13_1 : w11.cell? ⟨gb307, 1, none⟩ = some (.bool false) := (blk_cell BK307.out 1).trans rfl; have hfz13_0 := blk_frozen BK307.out 0; have hfz13_1 := blk_frozen BK307.out 1))
 refine bodyPost_ret (results_list (rs := [.tmp 2, .tmp 3, .cell 4 64]) rfl (by simp) (.tmp (.tmp (.cell gb307 64 #[.int .i64 t319, .bool t320] (0, 0) _ rfl (by (with_reducible repeat (first | refine blk_drewN ?_ _ | refine blk_drew ?_ | refine blk_alloc ?_ _)); refine blk_put (cs := #[.int .i64 t319, .bool false]) ?_ 1 _ rfl; (with_reducible repeat (first | refine blk_drewN ?_ _ | refine blk_drew ?_ | refine blk_alloc ?_ _)); refine blk_put (cs := #[.int .i64 0, .bool false]) ?_ 0 _ rfl; (with_reducible repeat (first | refine blk_drewN ?_ _ | refine blk_drew ?_ | refine blk_alloc ?_ _)); exact BK307.out) Try.underlying64 rfl (by kernel_rfl) .nil)))) rfl ?_; exact ⟨_, _, by first | rfl | (simp [errW_none, errW_some] <;> rfl) | (simp [*, errW_none, errW_some] <;> rfl), by (with_reducible repeat (first | apply Kd.N_alloc | apply Kd.N_drewN | apply Kd.N_drew)); exact Kd.N_mono (Kd.N_far (p := ⟨gb307, 1, none⟩) (Kd.N_far (p := ⟨gb307, 0, none⟩) (Kd.N_mono HO313.out (fun k_ hk => (⟨hk, hk.1.2.1⟩ : _ ∧ k_ ≠ gb307))) (fun _ hk => hk.2) (.int .i64 t319)) (fun _ hk => hk.2) (.bool t320)) (fun _ hk => ⟨hk.1.1.1, hk.1.2⟩), by (with_reducible repeat (first | apply Kd.R_alloc | apply Kd.R_drewN | apply Kd.R_drew)); exact Kd.R_mono (Kd.R_far (p := ⟨gb307, 1, none⟩) (Kd.R_far (p := ⟨gb307, 0, none⟩) (Kd.R_types HO317.out BK307.out (by decide)) (fun _ hk => hk.2) (.int .i64 t319)) (fun _ hk => hk.2) (.bool t320)) (fun _ hk => hk.1.1), by repeat (first | (with_reducible first | exact HB.out | apply below_alloc | apply pw_below_drewN | apply below_drew1 | refine below_set ?_ (IsS126.ge HI310.out) | refine below_set ?_ GE307.out) | exact HB.out)⟩

end Go.Proofs.Ytnemcppllfmioaa.PFnReadMelody
namespace Go.Proofs.Ytnemcppllfmioaa.Pure
set_option linter.unusedVariables false
set_option linter.unusedSimpArgs false
open Go Go.RowKit Go.Proofs.Ytnemcppllfmioaa.PFnReadMelody Go.Proofs.YtnemcppllfmioaaW.PrintWords Go.Proofs.YtnemcppllfmioaaW.PrintLast Go.Proofs.YtnemcppllfmioaaW.PrintMore

theorem Ev.succ {α : Type} {g : Nat → Option α} {r : α} (h : Ev (fun k => g (k + 1)) r) : Ev g r := Ev.step (fun _ => rfl) h
theorem Ev.pos {α : Type} {c : Prop} [Decidable c] {f g : Nat → Option α} {r : α} (hc : c) (h : Ev f r) : Ev (fun k => if c then f k else g k) r := by
 simp only [if_pos hc]; exact h
theorem Ev.neg {α : Type} {c : Prop} [Decidable c] {f g : Nat → Option α} {r : α} (hc : ¬ c) (h : Ev g r) : Ev (fun k => if c then f k else g k) r := by
 simp only [if_neg hc]; exact h
theorem Ev.someb {α β : Type} {a : α} {f : Nat → α → Option β} {r : β} (h : Ev (fun n => f n a) r) : Ev (fun n => (some a).bind (f n)) r := h
theorem Ev.conb {α β : Type} {x : Option α} {a : α} {f : Nat → α → Option β} {r : β} (hx : x = some a) (h : Ev (fun n => f n a) r) : Ev (fun n => x.bind (f n)) r := by subst hx; exact h
theorem Ev.eqr {α : Type} {g : Nat → Option α} {r r' : α} (h : Ev g r) (e : r = r') : Ev g r' := e ▸ h
/-- A loop over the places of a list, from the front. -/
theorem Ev.over {α ρ σ : Type} (d : α) (xs : List α) (L : Nat → σ → Int → Option ρ) (F : σ → List α → ρ) (I : Nat → σ → Prop)
 (hend : ∀ s, I xs.length s → Ev (fun k => L k s (xs.length : Int)) (F s []))
 (hstep : ∀ s (i : Nat) rest, I i s → i < xs.length → xs.drop i = xs.getD i d :: rest → (∀ s', I (i + 1) s' → Ev (fun k => L k s' ((i : Int) + 1)) (F s' rest)) → Ev (fun k => L k s (i : Int)) (F s (xs.getD i d :: rest))) :
 ∀ (i : Nat) (s : σ), i ≤ xs.length → I i s → Ev (fun k => L k s (i : Int)) (F s (xs.drop i)) := by
 intro i s hi hI
 obtain ⟨n, hn⟩ : ∃ n, n = xs.length - i := ⟨_, rfl⟩
 induction n generalizing i s with
 | zero =>
  have e : i = xs.length := by omega
  subst e
  rw [List.drop_length]
  exact hend s hI
 | succ n ih =>
  have hlt : i < xs.length := by omega
  have e : xs.drop i = xs.getD i d :: xs.drop (i + 1) := by
   rw [List.drop_eq_getElem_cons hlt, List.getD_eq_getElem?_getD, List.getElem?_eq_getElem hlt]; rfl
  rw [e]
  refine hstep s i _ hI hlt e (fun s' hs' => ?_)
  have := ih (i + 1) s' (by omega) hs' (by omega)
  simpa using this
theorem w64 {x : Int} (h : -9223372036854775808 ≤ x) (h' : x ≤ 9223372036854775807) : wrap64 x = x := by unfold wrap64; omega
theorem xor_bd (x y : Int) (hx : 0 ≤ x) (hx' : x < 4611686018427387904) (hy : 0 ≤ y) (hy' : y < 4611686018427387904) : 0 ≤ Go.bits .xor .i64 x y := by
 obtain ⟨a, rfl⟩ := Int.eq_ofNat_of_zero_le hx
 obtain ⟨b, rfl⟩ := Int.eq_ofNat_of_zero_le hy
 have ha : a < 2 ^ 62 := by omega
 have hb : b < 2 ^ 62 := by omega
 have hc : a ^^^ b < 2 ^ 62 := Nat.xor_lt_two_pow ha hb
 have ha' : a % 2 ^ IntKind.i64.bits = a := Nat.mod_eq_of_lt (Nat.lt_of_lt_of_le ha (by decide))
 have hb' : b % 2 ^ IntKind.i64.bits = b := Nat.mod_eq_of_lt (Nat.lt_of_lt_of_le hb (by decide))
 have e : Go.bits .xor .i64 (a : Int) (b : Int) = ((a ^^^ b : Nat) : Int) := by
  simp only [Go.bits, BitVec.ofInt_natCast, BitVec.toNat_xor, BitVec.toNat_ofNat, ha', hb']
  rw [Go.IntKind.wrap_i64]; omega
 rw [e]; omega
theorem mn_le (a b : Int) : mn a b ≤ a ∧ mn a b ≤ b ∧ (mn a b = a ∨ mn a b = b) := by unfold mn; split <;> omega
/-- From some number of rounds on there is an answer, and it is such a one. -/
def Evx {α : Type} (g : Nat → Option α) (P : α → Prop) : Prop := ∃ r, Ev g r ∧ P r
theorem Evx.now {α : Type} {P : α → Prop} {r : α} (h : P r) : Evx (fun _ => some r) P := ⟨r, Ev.now r, h⟩
theorem Evx.mono {α : Type} {g : Nat → Option α} {P Q : α → Prop} (h : Evx g P) (hPQ : ∀ r, P r → Q r) : Evx g Q := by
 obtain ⟨r, h, hP⟩ := h; exact ⟨r, h, hPQ r hP⟩
theorem Evx.bind {α β : Type} {g : Nat → Option α} {f : Nat → α → Option β} {P : α → Prop} {Q : β → Prop} (h : Evx g P) (k : ∀ a, P a → Evx (fun n => f n a) Q) : Evx (fun n => (g n).bind (f n)) Q := by
 obtain ⟨a, h, hP⟩ := h
 obtain ⟨r, h', hQ⟩ := k a hP
 exact ⟨r, Ev.bind h h', hQ⟩
theorem Evx.succ {α : Type} {g : Nat → Option α} {P : α → Prop} (h : Evx (fun k => g (k + 1)) P) : Evx g P := by
 obtain ⟨r, h, hP⟩ := h; exact ⟨r, Ev.succ h, hP⟩
theorem Evx.pos {α : Type} {c : Prop} [Decidable c] {f g : Nat → Option α} {P : α → Prop} (hc : c) (h : Evx f P) : Evx (fun k => if c then f k else g k) P := by
 simp only [if_pos hc]; exact h
theorem Evx.neg {α : Type} {c : Prop} [Decidable c] {f g : Nat → Option α} {P : α → Prop} (hc : ¬ c) (h : Evx g P) : Evx (fun k => if c then f k else g k) P := by
 simp only [if_neg hc]; exact h
theorem Evx.ite {α : Type} {c : Prop} [Decidable c] {f g : Nat → Option α} {P : α → Prop} (h : c → Evx f P) (h' : ¬ c → Evx g P) : Evx (fun k => if c then f k else g k) P := by
 by_cases hc : c
 ·
  exact Evx.pos hc (h hc)
 ·
  exact Evx.neg hc (h' hc)
theorem Evx.someb {α β : Type} {a : α} {f : Nat → α → Option β} {P : β → Prop} (h : Evx (fun n => f n a) P) : Evx (fun n => (some a).bind (f n)) P := h
theorem Evx.conb {α β : Type} {x : Option α} {a : α} {f : Nat → α → Option β} {P : β → Prop} (hx : x = some a) (h : Evx (fun n => f n a) P) : Evx (fun n => x.bind (f n)) P := by subst hx; exact h
theorem Evx.bind1 {α β : Type} {g : Nat → Option α} {f : Nat → α → Option β} {a : α} {Q : β → Prop} (h : Ev g a) (k : Evx (fun n => f n a) Q) : Evx (fun n => (g n).bind (f n)) Q := by
 obtain ⟨r, h', hQ⟩ := k
 exact ⟨r, Ev.bind h h', hQ⟩
theorem rd_bd {s : List Int} (hs : ∀ x ∈ s, 0 ≤ x ∧ x ≤ 255) (i : Int) : 0 ≤ rd s i ∧ rd s i ≤ 255 := by
 unfold rd
 rw [List.getD_eq_getElem?_getD]
 cases h : s[i.toNat]? with
 | none => simp
 | some v => exact hs v (List.mem_of_getElem? h)
theorem spec_l6In_eq (a b c : Int) : spec_l6In.f a b c = some (decide (b ≤ a ∧ a ≤ c)) := by
 unfold spec_l6In.f
 by_cases h : a ≥ b
 ·
  rw [if_pos h]; simp [show b ≤ a from h]
 ·
  rw [if_neg h]; simp [show ¬ b ≤ a from h]

open Go.MapKept Go.ChangeMaps in
def MapFn (w : World) (M : Nat) (F : Int → Option Value) : Prop :=
 ∃ es clock, w.heap[M]? = some (.map es clock) ∧ (es.toList.map (·.key)).Nodup ∧ (∀ e ∈ es.toList, ∃ k, e.key = .int .i64 k ∧ F k = some e.val) ∧ ∀ k v, F k = some v → ∃ e ∈ es.toList, e.key = .int .i64 k ∧ e.val = v
theorem MapFn.made {w : World} {M : Nat} (h : w.heap[M]? = some (.map #[] 0)) : MapFn w M (fun _ => none) := ⟨_, _, h, by simp, by simp, by simp⟩
theorem MapFn.lt {w : World} {M : Nat} {F : Int → Option Value} (h : MapFn w M F) : M < w.heap.size := by
 obtain ⟨es, clock, hb, _⟩ := h; exact blk_lt hb
theorem MapFn.move {w w' : World} {M : Nat} {F : Int → Option Value} (h : MapFn w M F) (hw : w'.heap[M]? = w.heap[M]?) : MapFn w' M F := by
 obtain ⟨es, clock, hb, h⟩ := h; exact ⟨es, clock, hw.trans hb, h⟩
theorem MapFn.look {P : Program} {w : World} {M : Nat} {F : Int → Option Value} (h : MapFn w M F) {t kt e : TypeId} (ht : P.underlying t = some (.map kt e)) (hk : P.underlying kt = some (.int .i64)) {z : Value} (hz : ∀ w, (zeroValue e).run P w = .ok z w) (k : Int) (c : Bool) :
 (Instr.lookup t (.map (some M)) (.int .i64 k) c).run P w = .ok (if c then .tuple #[(F k).getD z, .bool (F k).isSome] else (F k).getD z) w := by
 obtain ⟨es, clock, hb, _, h1, h2⟩ := h
 have hkey : MapKept.IsKey (.int .i64) (.int .i64 k) := by simp [MapKept.IsKey]
 have hks : ∀ x ∈ es.toList, MapKept.IsKey (.int .i64) x.key := fun x hx => by
  obtain ⟨k, hk, _⟩ := h1 x hx
  rw [hk]; simp [MapKept.IsKey]
 rcases MapKept.findNow_spec hkey es.toList 0 hks with ⟨f1, f2⟩ | ⟨j, e0, f1, f2, f3⟩
 ·
  have hF : F k = none := by
   cases hF : F k with
   | none => rfl
   | some v =>
    obtain ⟨x, hx, hx1, _⟩ := h2 k v hF
    exact absurd hx1 (f2 x hx)
  simp [Instr.lookup, run_underlying ht, MapKept.run_getObj_map hb, MapKept.run_checkKey hk hkey, MapKept.run_findKey hk f1, hz, Result.andThen, hF]
 ·
  have hm : e0 ∈ es.toList := List.mem_of_getElem? f2
  obtain ⟨k', hk', hF⟩ := h1 e0 hm
  have e1 : k' = k := by rw [f3] at hk'; cases hk'; rfl
  subst e1
  simp [Instr.lookup, run_underlying ht, MapKept.run_getObj_map hb, MapKept.run_checkKey hk hkey, MapKept.run_findKey hk f1, Result.andThen, hF]
theorem MapFn.put {P : Program} {w : World} {M : Nat} {F : Int → Option Value} (h : MapFn w M F) {t kt e : TypeId} (ht : P.underlying t = some (.map kt e)) (hk : P.underlying kt = some (.int .i64)) (k : Int) (v : Value) :
 ∃ es clock, (Instr.mapUpdate t (.map (some M)) (.int .i64 k) v).run P w = .ok () (ChangeMaps.setBlock w M (.map es clock)) ∧ MapFn (ChangeMaps.setBlock w M (.map es clock)) M (fun j => if j = k then some v else F j) := by
 obtain ⟨es, clock, hb, hn, h1, h2⟩ := h
 have hlt := blk_lt hb
 have hset : ∀ o, (ChangeMaps.setBlock w M o).heap[M]? = some o := fun o => by simp [ChangeMaps.setBlock, hlt]
 have hkey : MapKept.IsKey (.int .i64) (.int .i64 k) := by simp [MapKept.IsKey]
 have hks : ∀ x ∈ es.toList, MapKept.IsKey (.int .i64) x.key := fun x hx => by
  obtain ⟨k, hk, _⟩ := h1 x hx
  rw [hk]; simp [MapKept.IsKey]
 rcases MapKept.findNow_spec hkey es.toList 0 hks with ⟨f1, f2⟩ | ⟨j, e0, f1, f2, f3⟩
 ·
  refine ⟨es.push ⟨.int .i64 k, v, clock⟩, clock + 1, ?_, _, _, hset _, ?_, ?_, ?_⟩
  ·
   simp [Instr.mapUpdate, run_underlying ht, MapKept.run_getObj_map hb, MapKept.run_checkKey hk hkey, MapKept.run_findKey hk f1, MapKept.run_setObj_map _ hb, Result.andThen, ChangeMaps.setBlock]
  ·
   simp only [Array.toList_push, List.map_append, List.map_cons, List.map_nil]
   rw [List.nodup_append]
   refine ⟨hn, by simp, ?_⟩
   intro a ha b hb'
   obtain ⟨x, hx, rfl⟩ := List.mem_map.1 ha
   rw [List.mem_singleton.1 hb']
   exact f2 x hx
  ·
   intro x hx
   simp only [Array.toList_push, List.mem_append, List.mem_singleton] at hx
   rcases hx with hx | rfl
   ·
    obtain ⟨k', hk', hF⟩ := h1 x hx
    refine ⟨k', hk', ?_⟩
    have : k' ≠ k := fun e => f2 x hx (by rw [hk', e])
    show (if k' = k then _ else _) = _
    rw [if_neg this]; exact hF
   ·
    exact ⟨k, rfl, if_pos rfl⟩
  ·
   intro k' v' hF
   replace hF : (if k' = k then some v else F k') = some v' := hF
   simp only [Array.toList_push, List.mem_append, List.mem_singleton]
   by_cases e : k' = k
   ·
    subst e
    rw [if_pos rfl] at hF
    cases hF
    exact ⟨_, .inr rfl, rfl, rfl⟩
   ·
    rw [if_neg e] at hF
    obtain ⟨x, hx, hx1⟩ := h2 k' v' hF
    exact ⟨x, .inl hx, hx1⟩
 ·
  have hm : e0 ∈ es.toList := List.mem_of_getElem? f2
  have hjl := (List.getElem?_eq_some_iff.1 f2).1
  have hje : es[j]? = some e0 := by simpa using f2
  have hmod : (es.modify j fun e => { e with key := .int .i64 k, val := v }).toList = es.toList.set j { e0 with key := .int .i64 k, val := v } := by
   apply List.ext_getElem?
   intro i
   rw [Array.getElem?_toList, Array.getElem?_modify, List.getElem?_set]
   by_cases e : j = i
   ·
    subst e
    rw [if_pos rfl, if_pos rfl, hje, if_pos hjl]; rfl
   ·
    rw [if_neg e, if_neg e, Array.getElem?_toList]
  refine ⟨es.modify j fun e => { e with key := .int .i64 k, val := v }, clock, ?_, _, _, hset _, ?_, ?_, ?_⟩
  ·
   simp [Instr.mapUpdate, run_underlying ht, MapKept.run_getObj_map hb, MapKept.run_checkKey hk hkey, MapKept.run_findKey hk f1, MapKept.run_setObj_map _ hb, hje, f3, MapKept.run_keyThatStays hkey, Result.andThen, ChangeMaps.setBlock]
  ·
   rw [hmod, List.map_set]
   have : (es.toList.map (·.key)).set j (.int .i64 k) = es.toList.map (·.key) := by
    apply List.ext_getElem?
    intro i
    rw [List.getElem?_set]
    by_cases e : j = i
    ·
     subst e
     rw [if_pos rfl, List.length_map, if_pos hjl, List.getElem?_map, f2]
     simp [f3]
    ·
     rw [if_neg e]
   rw [this]; exact hn
  ·
   intro x hx
   rw [hmod] at hx
   obtain ⟨i, hi⟩ := List.mem_iff_getElem?.1 hx
   rw [List.getElem?_set] at hi
   by_cases e : j = i
   ·
    subst e
    rw [if_pos rfl, if_pos hjl] at hi
    cases hi
    exact ⟨k, rfl, if_pos rfl⟩
   ·
    rw [if_neg e] at hi
    obtain ⟨k', hk', hF⟩ := h1 x (List.mem_of_getElem? hi)
    refine ⟨k', hk', ?_⟩
    have : k' ≠ k := by
     rintro rfl
     have hnn := List.nodup_iff_pairwise_ne.1 hn
     have a1 : (es.toList.map (·.key))[i]? = some (.int .i64 k') := by rw [List.getElem?_map, hi]; simp [hk']
     have a2 : (es.toList.map (·.key))[j]? = some (.int .i64 k') := by rw [List.getElem?_map, f2]; simp [f3]
     obtain ⟨i1, i2⟩ := List.getElem?_eq_some_iff.1 a1
     obtain ⟨j1, j2⟩ := List.getElem?_eq_some_iff.1 a2
     exact e ((List.getElem_inj hn).1 (j2.trans i2.symm))
    show (if k' = k then _ else _) = _
    rw [if_neg this]; exact hF
  ·
   intro k' v' hF
   replace hF : (if k' = k then some v else F k') = some v' := hF
   rw [hmod]
   by_cases e : k' = k
   ·
    subst e
    rw [if_pos rfl] at hF
    cases hF
    exact ⟨_, List.mem_iff_getElem?.2 ⟨j, by rw [List.getElem?_set, if_pos rfl, if_pos hjl]⟩, rfl, rfl⟩
   ·
    rw [if_neg e] at hF
    obtain ⟨x, hx, hx1, hx2⟩ := h2 k' v' hF
    obtain ⟨i, hi⟩ := List.mem_iff_getElem?.1 hx
    have hji : j ≠ i := by
     rintro rfl
     rw [f2] at hi; cases hi
     rw [f3] at hx1; cases hx1; exact e rfl
    exact ⟨x, List.mem_iff_getElem?.2 ⟨i, by rw [List.getElem?_set, if_neg hji]; exact hi⟩, hx1, hx2⟩
theorem below_setBlock {w W : World} {B M : Nat} {o : Obj} (h : Below B w W) (hM : B ≤ M) : Below B w (ChangeMaps.setBlock W M o) :=
 h.trans ⟨rfl, rfl, rfl, by simp [ChangeMaps.setBlock], fun k hk => by simp [ChangeMaps.setBlock, show M ≠ k by omega]⟩
theorem kept_setBlock {w W : World} {S : Nat → Prop} {M : Nat} {o : Obj} (h : Kept w W S) (hM : S M ∨ w.heap.size ≤ M) : Kept w (ChangeMaps.setBlock W M o) S :=
 h.then_ (S2 := fun k => k = M) ⟨by simp [ChangeMaps.setBlock], fun i _ hn => by simp [ChangeMaps.setBlock, show M ≠ i from fun e => hn e.symm]⟩ (fun k hk => by rw [hk]; exact hM)
theorem blk_setBlock {w : World} {g M : Nat} {o o' : Obj} (h : w.heap[g]? = some o) (hne : g ≠ M) : (ChangeMaps.setBlock w M o').heap[g]? = some o := by
 simp [ChangeMaps.setBlock, show M ≠ g from fun e => hne e.symm, h]

structure OutC where
 f0 : Int
 f1 : Int
 f2 : Int
def outW (o : OutC) (f : S55) (r : OutC) : OutC := if o.f0 > 0 then ⟨wrap64 (o.f0 + r.f0), mn (wrap64 (f.f1 + r.f1)) o.f1, mn (wrap64 (1 + r.f2)) o.f2⟩ else ⟨wrap64 (o.f0 + r.f0), wrap64 (f.f1 + r.f1), wrap64 (1 + r.f2)⟩
def outV (o : OutC) : Value := .agg #[.int .i64 o.f0, .int .i64 o.f1, .int .i64 o.f2]
attribute [local go_sem] max2_int min2_int max_two min_two max_three min_three max_four min_four
theorem first_of {a b : Int} {x : Bool} (h : decide (a < b) = x) : (a < b) = (x = true) := by subst h; simp
set_option maxHeartbeats 4000000 in
set_option maxRecDepth 100000 in
theorem impl_outcome_with_some (a b d fw x y z U V M N : Int) (A : Option Addr) (n c : Nat) (w : World) (h : 0 < a) (hU : IntKind.i64.wrap (fw + y) = U) (hV : IntKind.i64.wrap (1 + z) = V) (b1 b2 : Bool) (h1 : decide (b < U) = b1) (h2 : decide (d < V) = b2) (hM : M = if b1 then b else U) (hN : N = if b2 then d else V) :
 Calls Try.prog 106 #[.agg #[.int .i64 a, .int .i64 b, .int .i64 d], .agg #[.slice A n c, .int .i64 fw], .agg #[.int .i64 x, .int .i64 y, .int .i64 z]] w fun e w' => e = .returned (.agg #[.int .i64 (wrap64 (a + x)), .int .i64 M, .int .i64 N]) ∧ Below w.heap.size w w' := by
 have hu1 := Try.underlying109
 have hu2 := Try.underlying55
 have d1 : decide (0 < a) = true := decide_eq_true h
 have HU := Aside0.mk hU
 have HV := Aside0.mk hV
 clear h hU hV
 cases b1 <;> cases b2
 all_goals
  simp only [Bool.false_eq_true, if_false, if_true] at hM hN
  rw [hM, hN]
  have q1 := first_of h1
  have q2 := first_of h2
  simp only [Bool.false_eq_true, eq_self] at q1 q2
  clear hM hN h1 h2
  go_enter Try.func106, Try.ntmps106
  go_upto_region 1 with (first
   | ((with_reducible refine gate_dst (N := 3) rfl ?_); refine box_event ?hg (N := 3) ?hd (cs := #[.int .i64 a, .int .i64 b, .int .i64 d]) (t := 109) ?hr ?_; (case hd => rfl); (case hg => rfl); (case hr => first | (go_simp; done) | (go_simp; rfl)); intro g3 hg w3 hbox hb; have HB := Aside0.mk hb; have K3 := Aside0.mk hbox; have G3 := Aside0.mk (show w.heap.size ≤ g3 from (by rw [hg]; exact Nat.le_refl _)); clear hg hbox hb)
   | ((with_reducible refine gate_dst (N := 4) rfl ?_); refine box_event ?hg (N := 4) ?hd (cs := #[.slice A n c, .int .i64 fw]) (t := 55) ?hr ?_; (case hd => rfl); (case hg => rfl); (case hr => first | (go_simp; done) | (go_simp; rfl)); intro g4 hg w4 hbox hb; have K3' := Aside0.mk (blk_below K3.out hb); have K4 := Aside0.mk hbox; have HB' := Aside0.mk (below_step HB.out hb); have G4 := Aside0.mk (show w.heap.size ≤ g4 from (by rw [hg]; exact HB.out.size)); clear HB K3; clear hg hbox hb)
   | ((with_reducible refine gate_dst (N := 5) rfl ?_); refine box_event ?hg (N := 5) ?hd (cs := #[.int .i64 x, .int .i64 y, .int .i64 z]) (t := 109) ?hr ?_; (case hd => rfl); (case hg => rfl); (case hr => first | (go_simp; done) | (go_simp; rfl)); intro g5 hg w5 hbox hb; have K3'' := Aside0.mk (blk_below K3'.out hb); have K4' := Aside0.mk (blk_below K4.out hb); have K5 := Aside0.mk hbox; have HB'' := Aside0.mk (below_step HB'.out hb); have G5 := Aside0.mk (show w.heap.size ≤ g5 from (by rw [hg]; exact HB'.out.size)); clear HB' K3' K4; clear hg hbox hb)
   | ((with_reducible refine gate_dst (N := 6) rfl ?_); refine box_event ?hg (N := 6) ?hd (cs := #[.int .i64 0, .int .i64 0, .int .i64 0]) (t := 109) ?hr ?_; (case hd => rfl); (case hg => rfl); (case hr => first | (go_simp; done) | (go_simp; rfl)); intro g6 hg w6 hbox hb; have L3 := Aside0.mk (blk_below K3''.out hb); have L4 := Aside0.mk (blk_below K4'.out hb); have L5 := Aside0.mk (blk_below K5.out hb); have L6 := Aside0.mk hbox; have HB6 := Aside0.mk (below_step HB''.out hb); have G6 := Aside0.mk (show w.heap.size ≤ g6 from (by rw [hg]; exact HB''.out.size)); have N3 := Aside0.mk (show g6 ≠ g3 from (by rw [hg]; exact (Nat.ne_of_lt (blk_lt K3''.out)).symm)); have N4 := Aside0.mk (show g6 ≠ g4 from (by rw [hg]; exact (Nat.ne_of_lt (blk_lt K4'.out)).symm)); have N5 := Aside0.mk (show g6 ≠ g5 from (by rw [hg]; exact (Nat.ne_of_lt (blk_lt K5.out)).symm)); clear HB'' K3'' K4' K5; clear hg hbox hb))
  have c30 : w6.cell? ⟨g3, 0, none⟩ = some (.int .i64 a) := (blk_cell L3.out 0).trans rfl
  have c31 : w6.cell? ⟨g3, 1, none⟩ = some (.int .i64 b) := (blk_cell L3.out 1).trans rfl
  have c32 : w6.cell? ⟨g3, 2, none⟩ = some (.int .i64 d) := (blk_cell L3.out 2).trans rfl
  have c41 : w6.cell? ⟨g4, 1, none⟩ = some (.int .i64 fw) := (blk_cell L4.out 1).trans rfl
  have c50 : w6.cell? ⟨g5, 0, none⟩ = some (.int .i64 x) := (blk_cell L5.out 0).trans rfl
  have c51 : w6.cell? ⟨g5, 1, none⟩ = some (.int .i64 y) := (blk_cell L5.out 1).trans rfl
  have c52 : w6.cell? ⟨g5, 2, none⟩ = some (.int .i64 z) := (blk_cell L5.out 2).trans rfl
  have c60 : w6.cell? ⟨g6, 0, none⟩ = some (.int .i64 0) := (blk_cell L6.out 0).trans rfl
  have c61 : w6.cell? ⟨g6, 1, none⟩ = some (.int .i64 0) := (blk_cell L6.out 1).trans rfl
  have c62 : w6.cell? ⟨g6, 2, none⟩ = some (.int .i64 0) := (blk_cell L6.out 2).trans rfl
  have f60 := blk_frozen L6.out 0
  have f61 := blk_frozen L6.out 1
  have f62 := blk_frozen L6.out 2
  clear L3 L4 L5
  go_quiet (fail)
  rw [HU.out, HV.out]
  go_wp2
  go_quiet (fail)
  go_wp2
  refine bodyPost_ret (results_cell_row rfl _ _ g6 109 #[.int .i64 (wrap64 (a + x)), .int .i64 _, .int .i64 _] (0, 0) _ rfl (blk_put (cs := #[.int .i64 _, .int .i64 _, .int .i64 0]) (blk_put (cs := #[.int .i64 _, .int .i64 0, .int .i64 0]) (blk_put (cs := #[.int .i64 0, .int .i64 0, .int .i64 0]) (blk_drewN L6.out _) 0 _ rfl) 1 _ rfl) 2 _ rfl) Try.underlying109 rfl (by kernel_rfl)) rfl ?_
  exact ⟨rfl, by repeat (first | exact HB6.out | apply pw_below_drewN | refine below_set ?_ G6.out)⟩
set_option maxHeartbeats 4000000 in
set_option maxRecDepth 100000 in
theorem impl_outcome_with_none (a b d fw x y z U V : Int) (A : Option Addr) (n c : Nat) (w : World) (h : ¬ 0 < a) (hU : IntKind.i64.wrap (fw + y) = U) (hV : IntKind.i64.wrap (1 + z) = V) :
 Calls Try.prog 106 #[.agg #[.int .i64 a, .int .i64 b, .int .i64 d], .agg #[.slice A n c, .int .i64 fw], .agg #[.int .i64 x, .int .i64 y, .int .i64 z]] w fun e w' => e = .returned (.agg #[.int .i64 (wrap64 (a + x)), .int .i64 U, .int .i64 V]) ∧ Below w.heap.size w w' := by
 have hu1 := Try.underlying109
 have hu2 := Try.underlying55
 have d1 : decide (0 < a) = false := decide_eq_false h
 have HU := Aside0.mk hU
 have HV := Aside0.mk hV
 clear h hU hV
 go_enter Try.func106, Try.ntmps106
 go_upto_region 1 with (first
  | ((with_reducible refine gate_dst (N := 3) rfl ?_); refine box_event ?hg (N := 3) ?hd (cs := #[.int .i64 a, .int .i64 b, .int .i64 d]) (t := 109) ?hr ?_; (case hd => rfl); (case hg => rfl); (case hr => first | (go_simp; done) | (go_simp; rfl)); intro g3 hg w3 hbox hb; have HB := Aside0.mk hb; have K3 := Aside0.mk hbox; have G3 := Aside0.mk (show w.heap.size ≤ g3 from (by rw [hg]; exact Nat.le_refl _)); clear hg hbox hb)
  | ((with_reducible refine gate_dst (N := 4) rfl ?_); refine box_event ?hg (N := 4) ?hd (cs := #[.slice A n c, .int .i64 fw]) (t := 55) ?hr ?_; (case hd => rfl); (case hg => rfl); (case hr => first | (go_simp; done) | (go_simp; rfl)); intro g4 hg w4 hbox hb; have K3' := Aside0.mk (blk_below K3.out hb); have K4 := Aside0.mk hbox; have HB' := Aside0.mk (below_step HB.out hb); have G4 := Aside0.mk (show w.heap.size ≤ g4 from (by rw [hg]; exact HB.out.size)); clear HB K3; clear hg hbox hb)
  | ((with_reducible refine gate_dst (N := 5) rfl ?_); refine box_event ?hg (N := 5) ?hd (cs := #[.int .i64 x, .int .i64 y, .int .i64 z]) (t := 109) ?hr ?_; (case hd => rfl); (case hg => rfl); (case hr => first | (go_simp; done) | (go_simp; rfl)); intro g5 hg w5 hbox hb; have K3'' := Aside0.mk (blk_below K3'.out hb); have K4' := Aside0.mk (blk_below K4.out hb); have K5 := Aside0.mk hbox; have HB'' := Aside0.mk (below_step HB'.out hb); have G5 := Aside0.mk (show w.heap.size ≤ g5 from (by rw [hg]; exact HB'.out.size)); clear HB' K3' K4; clear hg hbox hb)
  | ((with_reducible refine gate_dst (N := 6) rfl ?_); refine box_event ?hg (N := 6) ?hd (cs := #[.int .i64 0, .int .i64 0, .int .i64 0]) (t := 109) ?hr ?_; (case hd => rfl); (case hg => rfl); (case hr => first | (go_simp; done) | (go_simp; rfl)); intro g6 hg w6 hbox hb; have L3 := Aside0.mk (blk_below K3''.out hb); have L4 := Aside0.mk (blk_below K4'.out hb); have L5 := Aside0.mk (blk_below K5.out hb); have L6 := Aside0.mk hbox; have HB6 := Aside0.mk (below_step HB''.out hb); have G6 := Aside0.mk (show w.heap.size ≤ g6 from (by rw [hg]; exact HB''.out.size)); have N3 := Aside0.mk (show g6 ≠ g3 from (by rw [hg]; exact (Nat.ne_of_lt (blk_lt K3''.out)).symm)); have N4 := Aside0.mk (show g6 ≠ g4 from (by rw [hg]; exact (Nat.ne_of_lt (blk_lt K4'.out)).symm)); have N5 := Aside0.mk (show g6 ≠ g5 from (by rw [hg]; exact (Nat.ne_of_lt (blk_lt K5.out)).symm)); clear HB'' K3'' K4' K5; clear hg hbox hb))
 have c30 : w6.cell? ⟨g3, 0, none⟩ = some (.int .i64 a) := (blk_cell L3.out 0).trans rfl
 have c31 : w6.cell? ⟨g3, 1, none⟩ = some (.int .i64 b) := (blk_cell L3.out 1).trans rfl
 have c32 : w6.cell? ⟨g3, 2, none⟩ = some (.int .i64 d) := (blk_cell L3.out 2).trans rfl
 have c41 : w6.cell? ⟨g4, 1, none⟩ = some (.int .i64 fw) := (blk_cell L4.out 1).trans rfl
 have c50 : w6.cell? ⟨g5, 0, none⟩ = some (.int .i64 x) := (blk_cell L5.out 0).trans rfl
 have c51 : w6.cell? ⟨g5, 1, none⟩ = some (.int .i64 y) := (blk_cell L5.out 1).trans rfl
 have c52 : w6.cell? ⟨g5, 2, none⟩ = some (.int .i64 z) := (blk_cell L5.out 2).trans rfl
 have c60 : w6.cell? ⟨g6, 0, none⟩ = some (.int .i64 0) := (blk_cell L6.out 0).trans rfl
 have c61 : w6.cell? ⟨g6, 1, none⟩ = some (.int .i64 0) := (blk_cell L6.out 1).trans rfl
 have c62 : w6.cell? ⟨g6, 2, none⟩ = some (.int .i64 0) := (blk_cell L6.out 2).trans rfl
 have f60 := blk_frozen L6.out 0
 have f61 := blk_frozen L6.out 1
 have f62 := blk_frozen L6.out 2
 clear L3 L4 L5
 go_quiet (fail)
 rw [HU.out, HV.out]
 go_wp2
 refine bodyPost_ret (results_cell_row rfl _ _ g6 109 #[.int .i64 (wrap64 (a + x)), .int .i64 _, .int .i64 _] (0, 0) _ rfl (blk_put (cs := #[.int .i64 _, .int .i64 _, .int .i64 0]) (blk_put (cs := #[.int .i64 _, .int .i64 0, .int .i64 0]) (blk_put (cs := #[.int .i64 0, .int .i64 0, .int .i64 0]) (blk_drewN L6.out _) 0 _ rfl) 1 _ rfl) 2 _ rfl) Try.underlying109 rfl (by kernel_rfl)) rfl ?_
 exact ⟨rfl, by repeat (first | exact HB6.out | apply pw_below_drewN | refine below_set ?_ G6.out)⟩
theorem impl_outcome_with_calls (o : OutC) (f : S55) (A : Option Addr) (n c : Nat) (r : OutC) (w : World) :
 Calls Try.prog 106 #[.agg #[.int .i64 o.f0, .int .i64 o.f1, .int .i64 o.f2], .agg #[.slice A n c, .int .i64 f.f1], .agg #[.int .i64 r.f0, .int .i64 r.f1, .int .i64 r.f2]] w fun e w' => e = .returned (.agg #[.int .i64 (outW o f r).f0, .int .i64 (outW o f r).f1, .int .i64 (outW o f r).f2]) ∧ Below w.heap.size w w' := by
 unfold outW
 by_cases h : o.f0 > 0
 ·
  rw [if_pos h]
  exact impl_outcome_with_some o.f0 o.f1 o.f2 f.f1 r.f0 r.f1 r.f2 _ _ _ _ A n c w h (i64_w _) (i64_w _) _ _ rfl rfl (by unfold mn; by_cases h : o.f1 < wrap64 (f.f1 + r.f1) <;> simp [h]) (by unfold mn; by_cases h : o.f2 < wrap64 (1 + r.f2) <;> simp [h])
 ·
  rw [if_neg h]
  exact impl_outcome_with_none o.f0 o.f1 o.f2 f.f1 r.f0 r.f1 r.f2 _ _ A n c w h (i64_w _) (i64_w _)

end Go.Proofs.Ytnemcppllfmioaa.Pure
namespace Go.Proofs.Ytnemcppllfmioaa.Pure
set_option linter.unusedVariables false
set_option linter.unusedSimpArgs false
open Go Go.RowKit Go.Proofs.Ytnemcppllfmioaa.PFnReadMelody Go.Proofs.YtnemcppllfmioaaW.PrintWords Go.Proofs.YtnemcppllfmioaaW.PrintLast Go.Proofs.YtnemcppllfmioaaW.PrintMore

def inR (a b n : Int) : Bool := decide (a ≤ n ∧ n ≤ b)
def fOk (x : S55) : Bool := decide (1 ≤ (x.f0.length : Int) ∧ (x.f0.length : Int) ≤ 5) && (x.f0.all (inR (-7) 7) && decide (1 ≤ x.f1 ∧ x.f1 ≤ 9))
def goF : List S55 → List S55 → Bool
 | _, [] => true
 | acc, x :: xs => fOk x && (!(acc.any (fun y => y.f0 == x.f0)) && goF (acc ++ [x]) xs)
def fsOk (l : List S55) : Bool := decide ((l.length : Int) ≤ 8) && goF [] l
theorem goF_all : ∀ {l acc : List S55}, goF acc l = true → ∀ x ∈ l, fOk x = true
 | [], _, _, x, h => by simp at h
 | y :: ys, acc, h, x, hx => by
  simp only [goF, Bool.and_eq_true] at h
  rcases List.mem_cons.1 hx with rfl | hx
  ·
   exact h.1
  ·
   exact goF_all h.2.2 x hx
theorem fsOk_len {l : List S55} (h : fsOk l = true) : l.length ≤ 8 := by
 unfold fsOk at h; simp at h; have := h.1; omega
theorem fsOk_all {l : List S55} (h : fsOk l = true) : ∀ x ∈ l, fOk x = true := by
 unfold fsOk at h; simp at h; exact goF_all h.2
theorem fOk_len {x : S55} (h : fOk x = true) : 1 ≤ x.f0.length ∧ x.f0.length ≤ 5 := by
 unfold fOk at h; simp at h; omega
theorem fOk_weight {x : S55} (h : fOk x = true) : 1 ≤ x.f1 ∧ x.f1 ≤ 9 := by
 unfold fOk at h; simp at h; omega
theorem rd_mem {l : List S55} {k : Int} (h0 : 0 ≤ k) (h1 : k < l.length) : rd_T55 l k ∈ l := by
 have hlt : k.toNat < l.length := by omega
 unfold rd_T55
 rw [List.getD_eq_getElem?_getD, List.getElem?_eq_getElem hlt]
 exact List.getElem_mem hlt
theorem take_rd (l : List S55) (i : Nat) (hi : i < l.length) : l.take (i + 1) = l.take i ++ [l.getD i z55] := by
 rw [List.take_succ_eq_append_getElem hi, List.getD_eq_getElem?_getD, List.getElem?_eq_getElem hi]; rfl

theorem impl_allWithin_ev (l : List Int) (hl : l.length ≤ 1000000000000) (b : Int) (hb : 0 ≤ b) (hb' : b ≤ 1000) : Ev (fun k => impl_allWithin.f k l b) (l.all (inR (-b) b)) := by
 unfold impl_allWithin.f
 have := Ev.over (0 : Int) l (fun k (_ : Unit) i => impl_allWithin.l0 k b l l.length i) (fun _ rest => rest.all (inR (-b) b)) (fun _ _ => True) (by
  intro s _
  refine Ev.succ ?_
  simp only [impl_allWithin.l0]
  exact Ev.neg (by omega) (Ev.now _)) (by
  intro s i rest _ hi _ ih
  refine Ev.succ ?_
  simp only [impl_allWithin.l0]
  rw [w64 (x := -b) (by omega) (by omega), w64 (by omega) (by omega)]
  refine Ev.pos (by omega) (Ev.pos (by omega) (Ev.pos (by omega) ?_))
  have hrd : rd l (i : Int) = l.getD i 0 := rfl
  rw [hrd]
  generalize l.getD i 0 = n
  simp only [List.all_cons]
  by_cases h1 : n < -b
  ·
   have e : inR (-b) b n = false := decide_eq_false (by omega)
   rw [e]; exact Ev.pos h1 (Ev.now _)
  ·
   refine Ev.neg h1 ?_
   by_cases h2 : n > b
   ·
    have e : inR (-b) b n = false := decide_eq_false (by omega)
    rw [e]; exact Ev.pos h2 (Ev.now _)
   ·
    have e : inR (-b) b n = true := decide_eq_true (by omega)
    rw [e]
    exact Ev.neg h2 (ih () trivial)) 0 () (Nat.zero_le _) trivial
 simpa using this
theorem impl_equalNumbers_ev (a b : List Int) (hl : a.length ≤ 1000000000000) : Ev (fun k => impl_equalNumbers.f k a b) (a == b) := by
 unfold impl_equalNumbers.f
 by_cases hlen : (a.length : Int) = (b.length : Int)
 ·
  refine Ev.pos hlen ?_
  have := Ev.over (0 : Int) a (fun k (_ : Unit) i => impl_equalNumbers.l0 k b a a.length i) (fun _ rest => rest == b.drop (a.length - rest.length)) (fun _ _ => True) (by
   intro s _
   refine Ev.succ ?_
   simp only [impl_equalNumbers.l0]
   refine Ev.eqr (Ev.neg (by omega) (Ev.now _)) ?_
   have : b.drop a.length = [] := List.drop_eq_nil_of_le (by omega)
   simp [this]) (by
   intro s i rest _ hi hdr ih
   have hrl : rest.length + 1 + i = a.length := by
    have := congrArg List.length hdr
    simp at this; omega
   refine Ev.succ ?_
   simp only [impl_equalNumbers.l0]
   rw [w64 (by omega) (by omega)]
   refine Ev.pos (by omega) (Ev.pos (by omega) (Ev.pos (by omega) (Ev.pos (by omega) ?_)))
   have hra : rd a (i : Int) = a.getD i 0 := rfl
   have hrb : rd b (i : Int) = b.getD i 0 := rfl
   rw [hra, hrb]
   have e2 : a.length - (a.getD i 0 :: rest).length = i := by simp; omega
   have e1 : a.length - rest.length = i + 1 := by omega
   have e3 : b.drop i = b.getD i 0 :: b.drop (i + 1) := by
    rw [List.drop_eq_getElem_cons (by omega), List.getD_eq_getElem?_getD, List.getElem?_eq_getElem (by omega)]; rfl
   rw [e2, e3]
   have ih := ih () trivial
   rw [e1] at ih
   by_cases h : a.getD i 0 = b.getD i 0
   ·
    refine Ev.pos h (Ev.eqr ih ?_)
    rw [h, Bool.eq_iff_iff]; simp
   ·
    refine Ev.neg h (Ev.eqr (Ev.now _) ?_)
    symm; rw [beq_eq_false_iff_ne]; intro hc; exact h (List.cons.inj hc).1) 0 () (Nat.zero_le _) trivial
  simpa using this
 ·
  refine Ev.neg hlen (Ev.eqr (Ev.now _) ?_)
  symm; rw [beq_eq_false_iff_ne]; rintro rfl; exact hlen rfl
theorem impl_Formula_valid_ev (x : S55) (hl : x.f0.length ≤ 1000000000000) : Ev (fun k => impl_Formula_valid.f k x.f0 x.f1) (fOk x) := by
 unfold impl_Formula_valid.f fOk
 by_cases h1 : (x.f0.length : Int) ≥ 1
 ·
  refine Ev.pos h1 ?_
  by_cases h2 : (x.f0.length : Int) ≤ 5
  ·
   refine Ev.pos h2 ?_
   rw [decide_eq_true (⟨h1, h2⟩ : 1 ≤ (x.f0.length : Int) ∧ (x.f0.length : Int) ≤ 5), Bool.true_and]
   refine Ev.bind (impl_allWithin_ev x.f0 hl 7 (by omega) (by omega)) ?_
   cases x.f0.all (inR (-7) 7)
   ·
    exact Ev.neg (by simp) (Ev.now _)
   ·
    refine Ev.pos rfl ?_
    by_cases h3 : x.f1 ≥ 1
    ·
     refine Ev.pos h3 (Ev.eqr (Ev.now _) ?_)
     rw [Bool.true_and, Bool.eq_iff_iff]; simp; omega
    ·
     refine Ev.neg h3 (Ev.eqr (Ev.now _) ?_)
     rw [Bool.true_and]; symm; exact decide_eq_false (by omega)
  ·
   refine Ev.neg h2 (Ev.eqr (Ev.now _) ?_)
   rw [decide_eq_false (by omega : ¬ (1 ≤ (x.f0.length : Int) ∧ (x.f0.length : Int) ≤ 5))]; rfl
 ·
  refine Ev.neg h1 (Ev.eqr (Ev.now _) ?_)
  rw [decide_eq_false (by omega : ¬ (1 ≤ (x.f0.length : Int) ∧ (x.f0.length : Int) ≤ 5))]; rfl
theorem impl_FormulasValid_ev (l : List S55) (hl : ∀ x ∈ l, x.f0.length ≤ 1000000000000) : Ev (fun k => impl_FormulasValid.f k l) (fsOk l) := by
 unfold impl_FormulasValid.f fsOk
 by_cases h8 : (l.length : Int) > 8
 ·
  refine Ev.pos h8 (Ev.eqr (Ev.now _) ?_)
  rw [decide_eq_false (by omega : ¬ (l.length : Int) ≤ 8)]; rfl
 refine Ev.neg h8 ?_
 rw [decide_eq_true (by omega : (l.length : Int) ≤ 8), Bool.true_and]
 have := Ev.over z55 l (fun k (_ : Unit) i => impl_FormulasValid.l0 k l l l.length i) (fun _ rest => goF (l.take (l.length - rest.length)) rest) (fun _ _ => True) (by
  intro s _
  refine Ev.succ ?_
  simp only [impl_FormulasValid.l0]
  exact Ev.neg (by omega) (Ev.now _)) (by
  intro s i rest _ hi hdr ih
  have hrl : rest.length + 1 + i = l.length := by
   have := congrArg List.length hdr
   simp at this; omega
  have hm : l.getD i z55 ∈ l := by
   rw [List.getD_eq_getElem?_getD, List.getElem?_eq_getElem hi]; exact List.getElem_mem hi
  have hx := hl _ hm
  refine Ev.succ ?_
  simp only [impl_FormulasValid.l0]
  refine Ev.pos (by omega) (Ev.pos (by omega) (Ev.pos (by omega) ?_))
  have hrd : rd_T55 l (i : Int) = l.getD i z55 := rfl
  have e2 : l.length - (l.getD i z55 :: rest).length = i := by simp; omega
  have e1 : l.length - rest.length = i + 1 := by omega
  have ih := ih () trivial
  rw [e1, take_rd l i hi] at ih
  rw [hrd, e2]
  generalize l.getD i z55 = x at hx ih
  simp only [goF]
  refine Ev.bind (impl_Formula_valid_ev x hx) ?_
  cases hf : fOk x
  ·
   exact Ev.neg (by simp) (Ev.now _)
  refine Ev.pos rfl (Ev.pos (by omega) (Ev.someb ?_))
  simp only [Int.toNat_natCast, Bool.true_and]
  have htl : (l.take i).length = i := by simp; omega
  have inner := Ev.over z55 (l.take i) (fun k (_ : Unit) j => impl_FormulasValid.l1 k l l l.length i (l.take i) ((l.take i).length : Int) j x.f0 x.f1) (fun _ rest' => !(rest'.any (fun y => y.f0 == x.f0)) && goF (l.take i ++ [x]) rest) (fun _ _ => True) (by
   intro s _
   refine Ev.succ ?_
   simp only [impl_FormulasValid.l1]
   refine Ev.neg (by omega) ?_
   rw [w64 (by omega) (by omega)]
   exact ih) (by
   intro s j rest' _ hj _ ih'
   have hjm : (l.take i).getD j z55 ∈ l := by
    rw [List.getD_eq_getElem?_getD, List.getElem?_eq_getElem hj]; exact List.mem_of_mem_take (List.getElem_mem hj)
   have hxj := hl _ hjm
   refine Ev.succ ?_
   simp only [impl_FormulasValid.l1]
   refine Ev.pos (by omega) (Ev.pos (by omega) (Ev.pos (by omega) ?_))
   have hrd' : rd_T55 (l.take i) (j : Int) = (l.take i).getD j z55 := rfl
   rw [hrd']
   generalize (l.take i).getD j z55 = y at hxj
   refine Ev.bind (impl_equalNumbers_ev _ _ hxj) ?_
   simp only [List.any_cons]
   cases y.f0 == x.f0
   ·
    refine Ev.neg (by simp) ?_
    rw [w64 (by omega) (by omega)]
    simpa using ih' () trivial
   ·
    exact Ev.pos rfl (Ev.now _)) 0 () (Nat.zero_le _) trivial
  simpa using inner) 0 () (Nat.zero_le _) trivial
 simpa using this

def isPre (p s : List Int) : Bool := decide (p.length ≤ s.length) && (s.take p.length == p)
theorem impl_begins_ev (s p : List Int) (hs : s.length ≤ 1000000000000) : Ev (fun k => impl_begins.f k s p) (isPre p s) := by
 unfold impl_begins.f isPre
 by_cases h : (s.length : Int) ≥ (p.length : Int)
 ·
  rw [decide_eq_true (by omega : p.length ≤ s.length), Bool.true_and]
  refine Ev.pos h (Ev.pos (by omega) (Ev.pos (by omega) ?_))
  rw [Int.toNat_natCast]
  refine Ev.bind (impl_equalNumbers_ev _ p (by rw [List.length_take]; omega)) (Ev.now _)
 ·
  rw [decide_eq_false (by omega : ¬ p.length ≤ s.length)]
  exact Ev.neg h (Ev.now _)
def rdA (rec : List Int → OutC) (s : List Int) : List S55 → OutC → OutC
 | [], acc => acc
 | f :: fs, acc => if isPre f.f0 s = true then (if (rec (s.drop f.f0.length)).f0 = 0 then rdA rec s fs acc else rdA rec s fs (outW acc f (rec (s.drop f.f0.length)))) else rdA rec s fs acc
def rdC (rec : List Int → OutC) (s : List Int) : Int → List S55 → List (Int × OutC)
 | _, [] => []
 | i, f :: fs => if isPre f.f0 s = true then (if (rec (s.drop f.f0.length)).f0 = 0 then rdC rec s (i + 1) fs else (i, rec (s.drop f.f0.length)) :: rdC rec s (i + 1) fs) else rdC rec s (i + 1) fs
def rdG (L : List S55) : Nat → List Int → OutC
 | 0, s => if s = [] then ⟨1, 0, 0⟩ else ⟨0, 0, 0⟩
 | n + 1, s => if s = [] then ⟨1, 0, 0⟩ else rdA (rdG L n) s L ⟨0, 0, 0⟩
def rdO (L : List S55) (s : List Int) : OutC := rdG L s.length s
/-- The formulas with which readings begin, and what is left behind each. -/
def rdCalls (L : List S55) (s : List Int) : List (Int × OutC) := if s = [] then [] else rdC (rdO L) s 0 L
theorem isPre_len {p s : List Int} (h : isPre p s = true) : p.length ≤ s.length := by
 unfold isPre at h; simp at h; exact h.1
theorem rdA_congr {rec rec' : List Int → OutC} {s : List Int} : ∀ {L : List S55} {acc : OutC}, (∀ f ∈ L, isPre f.f0 s = true → rec (s.drop f.f0.length) = rec' (s.drop f.f0.length)) → rdA rec s L acc = rdA rec' s L acc
 | [], _, _ => rfl
 | f :: fs, acc, h => by
  simp only [rdA]
  by_cases hp : isPre f.f0 s = true
  ·
   rw [if_pos hp, if_pos hp, h f List.mem_cons_self hp, rdA_congr (fun g hg => h g (List.mem_cons_of_mem _ hg)), rdA_congr (fun g hg => h g (List.mem_cons_of_mem _ hg))]
  ·
   rw [if_neg hp, if_neg hp, rdA_congr (fun g hg => h g (List.mem_cons_of_mem _ hg))]
theorem rdG_more {L : List S55} (hL : ∀ f ∈ L, 1 ≤ f.f0.length) : ∀ (n : Nat) (s : List Int), s.length ≤ n → ∀ m, s.length ≤ m → rdG L n s = rdG L m s
 | 0, s, h, m, _ => by
  obtain rfl : s = [] := List.eq_nil_of_length_eq_zero (by omega)
  cases m <;> simp [rdG]
 | n + 1, s, h, m, h' => by
  by_cases hs : s = []
  ·
   subst hs
   cases m <;> simp [rdG]
  ·
   cases m with
   | zero => exact absurd (List.eq_nil_of_length_eq_zero (by omega)) hs
   | succ m =>
    simp only [rdG]
    rw [if_neg hs, if_neg hs]
    refine rdA_congr (fun f hf hp => ?_)
    have h1 := hL f hf
    have h2 : 0 < s.length := List.length_pos_iff.2 hs
    exact rdG_more hL n _ (by rw [List.length_drop]; omega) m (by rw [List.length_drop]; omega)
theorem rdO_nil (L : List S55) : rdO L [] = ⟨1, 0, 0⟩ := by simp [rdO, rdG]
theorem rdO_step {L : List S55} (hL : ∀ f ∈ L, 1 ≤ f.f0.length) {s : List Int} (hs : s ≠ []) : rdO L s = rdA (rdO L) s L ⟨0, 0, 0⟩ := by
 have h2 : 0 < s.length := List.length_pos_iff.2 hs
 obtain ⟨n, hn⟩ : ∃ n, s.length = n + 1 := ⟨s.length - 1, by omega⟩
 conv => lhs; unfold rdO
 rw [hn]
 simp only [rdG]
 rw [if_neg hs]
 refine rdA_congr (fun f hf hp => ?_)
 have h1 := hL f hf
 exact rdG_more hL n _ (by rw [List.length_drop]; omega) _ (Nat.le_refl _)
def okR (L : List S55) (S : List Int) : Bool := fsOk L && (decide (S.length ≤ 23) && S.all (inR (-20) 20))
theorem okR_of {L : List S55} {S : List Int} (h : okR L S = true) : fsOk L = true ∧ S.length ≤ 23 := by
 unfold okR at h; simp at h; exact ⟨h.1, h.2.1⟩
theorem cut_drop {P : Program} {α : Type} (d : Kd α) (t e : TypeId) {i : TypeInfo} (ht : P.underlying t = some (.slice e)) (hi : P.info? e = some i) (hsz : i.size = d.sz) {w : World} {A : Option Addr} {c : Nat} {xs : List α} (j : Int) (hr : d.C w A xs.length xs) (hc : xs.length ≤ c) (h0 : 0 ≤ j) (hm : j ≤ xs.length) :
 ∃ A' c', (∀ W : World, (Instr.slice t (.slice A xs.length c) (some (.int .i64 j)) none none).run P W = .ok (.slice A' (xs.length - j.toNat) c') W) ∧ d.C w A' (xs.length - j.toNat) (xs.drop j.toNat) ∧ xs.length - j.toNat ≤ c' ∧ (xs.drop j.toNat).length = xs.length - j.toNat := by
 have e1 : (xs.drop j.toNat).length = xs.length - j.toNat := by rw [List.length_drop]
 have h := Kd.C_drop (m := j.toNat) (c := c) hr (by omega) hc
 rw [e1] at h
 exact ⟨_, _, cut_from t e .i64 ht hi d.sz hsz A _ c j h0 hm, h, by omega, e1⟩
/-- The reader's block at R, its map's block at M: what is in the map is so. -/
structure RdSt (w0 w : World) (L : List S55) (S : List Int) (A0 : Option Addr) (c0 : Nat) (A1 : Option Addr) (c1 : Nat) (R M : Nat) : Prop where
 below : Below w0.heap.size w0 w
 blk : w.heap[R]? = some (.cells #[.slice A0 L.length c0, .slice A1 S.length c1, .map (some M)] 134 (0, 0))
 memo : ∃ F, MapFn w M F ∧ ∀ k v, F k = some v → ∃ p : Nat, k = (p : Int) ∧ p ≤ S.length ∧ v = outV (rdO L (S.drop p))
theorem RdSt.kept {w0 w w' : World} {L : List S55} {S : List Int} {A0 : Option Addr} {c0 : Nat} {A1 : Option Addr} {c1 : Nat} {R M : Nat} (h : RdSt w0 w L S A0 c0 A1 c1 R M) (hb : Below w.heap.size w w') : RdSt w0 w' L S A0 c0 A1 c1 R M := by
 obtain ⟨F, hF, hF'⟩ := h.memo
 exact ⟨below_then h.below h.below.size hb, blk_below h.blk hb, F, hF.move (hb.block _ hF.lt), hF'⟩
theorem RdSt.far {w0 w w' : World} {L : List S55} {S : List Int} {A0 : Option Addr} {c0 : Nat} {A1 : Option Addr} {c1 : Nat} {R M : Nat} (h : RdSt w0 w L S A0 c0 A1 c1 R M) (hb : Below w0.heap.size w0 w') (hR : w'.heap[R]? = w.heap[R]?) (hM : w'.heap[M]? = w.heap[M]?) : RdSt w0 w' L S A0 c0 A1 c1 R M := by
 obtain ⟨F, hF, hF'⟩ := h.memo
 exact ⟨hb, hR.trans h.blk, F, hF.move hM, hF'⟩
theorem RdSt.ne {w0 w : World} {L : List S55} {S : List Int} {A0 : Option Addr} {c0 : Nat} {A1 : Option Addr} {c1 : Nat} {R M : Nat} (h : RdSt w0 w L S A0 c0 A1 c1 R M) {g t : Nat} {cs : Array Value} {fr : Nat × Nat} (hg : w.heap[g]? = some (.cells cs t fr)) : g ≠ M := by
 rintro rfl
 obtain ⟨F, ⟨es, clock, hb, _⟩, _⟩ := h.memo
 rw [hb] at hg; cases hg
theorem RdSt.set {w0 w : World} {L : List S55} {S : List Int} {A0 : Option Addr} {c0 : Nat} {A1 : Option Addr} {c1 : Nat} {R M : Nat} (h : RdSt w0 w L S A0 c0 A1 c1 R M) {g : Nat} (hB : w0.heap.size ≤ g) (hR : g ≠ R) (hM : g ≠ M) (j : Nat) (v : Value) : RdSt w0 (w.setCell ⟨g, j, none⟩ v) L S A0 c0 A1 c1 R M :=
 h.far (below_set h.below hB) (Below.heap_setCell w ⟨g, j, none⟩ v R hR.symm) (Below.heap_setCell w ⟨g, j, none⟩ v M hM.symm)

set_option maxHeartbeats 8000000 in
set_option maxRecDepth 100000 in
theorem impl_read_end {L : List S55} {S : List Int} {A0 : Option Addr} {c0 : Nat} {A1 : Option Addr} {c1 : Nat} {w0 : World} {R M : Nat} (hr0 : Kd.C k55 w0 A0 L.length L) (hc0 : L.length ≤ c0) (hr1 : Kd.C (Kd.int .i64) w0 A1 S.length S) (hc1 : S.length ≤ c1)
 (hL : ∀ f ∈ L, 1 ≤ f.f0.length ∧ f.f0.length ≤ 5) (hLl : L.length ≤ 8) (hSl : S.length ≤ 23) (hM : w0.heap.size ≤ M) (hR : w0.heap.size ≤ R) (hRM : R ≠ M) (w : World) (v : Value) (hst : RdSt w0 w L S A0 c0 A1 c1 R M) :
 Calls Try.prog 78 #[.pointer (some ⟨R, 0, none⟩), .int .i64 (S.length : Int), v] w fun e w' => e = .returned (outV (rdO L (S.drop S.length))) ∧ RdSt w0 w' L S A0 c0 A1 c1 R M ∧ Kept w w' (fun k => k = M) := by
 have hu1 := Try.underlying109
 have hu2 := Try.underlying55
 have hu3 := Try.underlying134
 clear hr0 hc0 hr1 hc1 hL
 have hS : S.drop S.length = [] := List.drop_length
 rw [hS, rdO_nil]
 have HST := Aside0.mk hst
 have cR1 : w.cell? ⟨R, 1, none⟩ = some (.slice A1 S.length c1) := (blk_cell hst.blk 1).trans rfl
 clear hst hS
 go_enter Try.func78, Try.ntmps78
 go_wp2_with (first
  | ((with_reducible refine gate_dst (N := 6) rfl ?_); refine box_event ?hg (N := 6) ?hd (cs := #[.int .i64 0, .int .i64 0, .int .i64 0]) (t := 109) ?hr ?_; (case hd => rfl); (case hg => rfl); (case hr => first | (go_simp; done) | (go_simp; rfl)); intro g6 hg w6 hbox hb; have W6 := Aside0.mk hbox; have HB9 := Aside0.mk hb; have N6 := Aside0.mk (show w.heap.size ≤ g6 from (by rw [hg]; exact Nat.le_refl _)); have cS1 := pw_cell_below hb cR1; have y0 : w6.cell? ⟨g6, 0, none⟩ = some (.int .i64 0) := (blk_cell W6.out 0).trans rfl; have y1 : w6.cell? ⟨g6, 1, none⟩ = some (.int .i64 0) := (blk_cell W6.out 1).trans rfl; have y2 : w6.cell? ⟨g6, 2, none⟩ = some (.int .i64 0) := (blk_cell W6.out 2).trans rfl; have f0 := blk_frozen W6.out 0; have f1 := blk_frozen W6.out 1; have f2 := blk_frozen W6.out 2; clear hg hbox hb))
 refine bodyPost_ret (results_cell_row rfl _ _ g6 109 #[.int .i64 1, .int .i64 0, .int .i64 0] (0, 0) _ rfl (blk_put (cs := #[.int .i64 1, .int .i64 0, .int .i64 0]) (blk_put (cs := #[.int .i64 1, .int .i64 0, .int .i64 0]) (blk_put (cs := #[.int .i64 0, .int .i64 0, .int .i64 0]) W6.out 0 _ rfl) 1 _ rfl) 2 _ rfl) Try.underlying109 rfl (by kernel_rfl)) rfl ?_
 exact ⟨rfl, HST.out.kept (below_set (below_set (below_set HB9.out N6.out) N6.out) N6.out), Kept.of_below (below_set (below_set (below_set HB9.out N6.out) N6.out) N6.out) _⟩
set_option maxHeartbeats 8000000 in
set_option maxRecDepth 100000 in
theorem impl_read_nil {L : List S55} {S : List Int} {A0 : Option Addr} {c0 : Nat} {A1 : Option Addr} {c1 : Nat} {w0 : World} {R M : Nat} (hr0 : Kd.C k55 w0 A0 L.length L) (hc0 : L.length ≤ c0) (hr1 : Kd.C (Kd.int .i64) w0 A1 S.length S) (hc1 : S.length ≤ c1)
 (hL : ∀ f ∈ L, 1 ≤ f.f0.length ∧ f.f0.length ≤ 5) (hLl : L.length ≤ 8) (hSl : S.length ≤ 23) (hM : w0.heap.size ≤ M) (hR : w0.heap.size ≤ R) (hRM : R ≠ M) (n : Nat) :
 ∀ (p : Nat) (w : World), p ≤ S.length → S.length - p ≤ n → RdSt w0 w L S A0 c0 A1 c1 R M →
 Calls Try.prog 78 #[.pointer (some ⟨R, 0, none⟩), .int .i64 (p : Int), .nilFunc] w fun e w' => e = .returned (outV (rdO L (S.drop p))) ∧ RdSt w0 w' L S A0 c0 A1 c1 R M ∧ Kept w w' (fun k => k = M) := by
 have HR0 := Aside0.mk hr0
 have HC0 := Aside0.mk hc0
 have HR1 := Aside0.mk hr1
 have HC1 := Aside0.mk hc1
 have HLL := Aside0.mk hL
 have HMR := Aside0.mk (And.intro hM (And.intro hR hRM))
 clear hr0 hc0 hr1 hc1 hL hM hR hRM
 have hu1 := Try.underlying109
 have hu2 := Try.underlying55
 have hu3 := Try.underlying134
 induction n with
 | zero =>
  intro p w hp hn hst
  obtain rfl : p = S.length := by omega
  exact impl_read_end HR0.out HC0.out HR1.out HC1.out HLL.out hLl hSl HMR.out.1 HMR.out.2.1 HMR.out.2.2 w _ hst
 | succ n ih =>
  intro p w hp hn hst
  have IH := Aside0.mk ih
  clear ih
  have HST := Aside0.mk hst
  have HP := Aside0.mk (And.intro hp hn)
  obtain ⟨F, hF, hF'⟩ := hst.memo
  have HF := Aside0.mk (And.intro hF hF')
  have cR0 : w.cell? ⟨R, 0, none⟩ = some (.slice A0 L.length c0) := (blk_cell hst.blk 0).trans rfl
  have cR1 : w.cell? ⟨R, 1, none⟩ = some (.slice A1 S.length c1) := (blk_cell hst.blk 1).trans rfl
  have cR2 : w.cell? ⟨R, 2, none⟩ = some (.map (some M)) := (blk_cell hst.blk 2).trans rfl
  clear hst hF hF'
  by_cases hps : p = S.length
  ·
   subst hps
   exact impl_read_end HR0.out HC0.out HR1.out HC1.out HLL.out hLl hSl HMR.out.1 HMR.out.2.1 HMR.out.2.2 w _ HST.out
  have e1 : ((p : Int) == (S.length : Int)) = false := by rw [beq_eq_false_iff_ne]; omega
  have e1' : (p == S.length) = false := by rw [beq_eq_false_iff_ne]; exact hps
  have hne : S.drop p ≠ [] := by
   intro h
   have := congrArg List.length h
   rw [List.length_drop, List.length_nil] at this
   omega
  have HNE := Aside0.mk hne
  clear hne hps hp hn
  cases hFp : F (p : Int) with
  | some v =>
   have hv : v = outV (rdO L (S.drop p)) := by
    obtain ⟨p', h1, _, h3⟩ := HF.out.2 _ _ hFp
    obtain rfl : p = p' := by omega
    exact h3
   obtain ⟨O, hO⟩ : ∃ O, O = rdO L (S.drop p) := ⟨_, rfl⟩
   rw [← hO] at hv ⊢
   rw [hv] at hFp
   obtain ⟨x, y, z⟩ := O
   have HFP := Aside0.mk hFp
   clear hv hO hFp
   have hq : ∀ w, (binOp .eql 112 .nilFunc .nilFunc).run Try.prog w = .ok (.bool true) w := fun _ => by kernel_rfl
   go_enter Try.func78, Try.ntmps78
   go_upto_region 3 with (first
    | ((with_reducible refine gate_dst (N := 6) rfl ?_); refine box_event ?hg (N := 6) ?hd (cs := #[.int .i64 0, .int .i64 0, .int .i64 0]) (t := 109) ?hr ?_; (case hd => rfl); (case hg => rfl); (case hr => first | (go_simp; done) | (go_simp; rfl)); intro g6 hg w6 hbox hb; have HK6 := Aside0.mk hbox; have HB6 := Aside0.mk hb; have N6 := Aside0.mk (show w.heap.size ≤ g6 from (by rw [hg]; exact Nat.le_refl _)); have cS1 := pw_cell_below hb cR1; have cS2 := pw_cell_below hb cR2; have cS0 := pw_cell_below hb cR0; have HL6 := Aside0.mk (MapFn.look (HF.out.1.move (hb.block _ HF.out.1.lt)) Try.underlying132 Try.underlying3 (z := .agg #[.int .i64 0, .int .i64 0, .int .i64 0]) (fun _ => by kernel_rfl) (p : Int) true); clear hg hbox hb))
   have hlk := HL6.out
   rw [HFP.out] at hlk
   simp only [if_true, Option.getD_some, Option.isSome_some, outV] at hlk
   go_upto_region 4 with (first
    | ((with_reducible refine gate_dst (N := 7) rfl ?_); refine box_event ?hg (N := 7) ?hd (cs := #[.int .i64 0, .int .i64 0, .int .i64 0]) (t := 109) ?hr ?_; (case hd => rfl); (case hg => rfl); (case hr => first | (go_simp; done) | (go_simp; rfl)); intro g7 hg w7 hbox hb; have HK7 := Aside0.mk hbox; have HB7 := Aside0.mk (below_step HB6.out hb); have HK6' := Aside0.mk (blk_below HK6.out hb); have NE := Aside0.mk (show g6 ≠ g7 from (by rw [hg]; exact Nat.ne_of_lt (blk_lt HK6.out))); have N7 := Aside0.mk (show w.heap.size ≤ g7 from (by rw [hg]; exact HB6.out.size)); have cz0 : w7.cell? ⟨g7, 0, none⟩ = some (.int .i64 0) := (blk_cell HK7.out 0).trans rfl; have cz1 : w7.cell? ⟨g7, 1, none⟩ = some (.int .i64 0) := (blk_cell HK7.out 1).trans rfl; have cz2 : w7.cell? ⟨g7, 2, none⟩ = some (.int .i64 0) := (blk_cell HK7.out 2).trans rfl; have fz0 := blk_frozen HK7.out 0; have fz1 := blk_frozen HK7.out 1; have fz2 := blk_frozen HK7.out 2; clear hg hbox hb))
   have W7 : Aside0 ((((w7.setCell ⟨g7, 0, none⟩ (.int .i64 x)).setCell ⟨g7, 1, none⟩ (.int .i64 y)).setCell ⟨g7, 2, none⟩ (.int .i64 z)).heap[g7]? = some (.cells #[.int .i64 x, .int .i64 y, .int .i64 z] 109 (0, 0))) := ⟨blk_put (cs := #[.int .i64 x, .int .i64 y, .int .i64 0]) (blk_put (cs := #[.int .i64 x, .int .i64 0, .int .i64 0]) (blk_put (cs := #[.int .i64 0, .int .i64 0, .int .i64 0]) HK7.out 0 _ rfl) 1 _ rfl) 2 _ rfl⟩
   have W6 : Aside0 ((((w7.setCell ⟨g7, 0, none⟩ (.int .i64 x)).setCell ⟨g7, 1, none⟩ (.int .i64 y)).setCell ⟨g7, 2, none⟩ (.int .i64 z)).heap[g6]? = some (.cells #[.int .i64 0, .int .i64 0, .int .i64 0] 109 (0, 0))) := ⟨blk_far (blk_far (blk_far HK6'.out NE.out _) NE.out _) NE.out _⟩
   have HB9 : Aside0 (Below w.heap.size w (((w7.setCell ⟨g7, 0, none⟩ (.int .i64 x)).setCell ⟨g7, 1, none⟩ (.int .i64 y)).setCell ⟨g7, 2, none⟩ (.int .i64 z))) := ⟨below_set (below_set (below_set HB7.out N7.out) N7.out) N7.out⟩
   clear HB7 HK7 HK6' HB6 HK6 cz0 cz1 cz2 fz0 fz1 fz2 cS0 cS1 cS2
   generalize (((w7.setCell ⟨g7, 0, none⟩ (.int .i64 x)).setCell ⟨g7, 1, none⟩ (.int .i64 y)).setCell ⟨g7, 2, none⟩ (.int .i64 z)) = w9 at W7 W6 HB9 ⊢
   have cS0 := pw_cell_below HB9.out cR0
   have cS1 := pw_cell_below HB9.out cR1
   have cS2 := pw_cell_below HB9.out cR2
   have y0 : w9.cell? ⟨g6, 0, none⟩ = some (.int .i64 0) := (blk_cell W6.out 0).trans rfl
   have y1 : w9.cell? ⟨g6, 1, none⟩ = some (.int .i64 0) := (blk_cell W6.out 1).trans rfl
   have y2 : w9.cell? ⟨g6, 2, none⟩ = some (.int .i64 0) := (blk_cell W6.out 2).trans rfl
   have f0 := blk_frozen W6.out 0
   have f1 := blk_frozen W6.out 1
   have f2 := blk_frozen W6.out 2
   have s0 : w9.cell? ⟨g7, 0, none⟩ = some (.int .i64 x) := (blk_cell W7.out 0).trans rfl
   have s1 : w9.cell? ⟨g7, 1, none⟩ = some (.int .i64 y) := (blk_cell W7.out 1).trans rfl
   have s2 : w9.cell? ⟨g7, 2, none⟩ = some (.int .i64 z) := (blk_cell W7.out 2).trans rfl
   go_wp2
   refine bodyPost_ret (results_cell_row rfl _ _ g6 109 #[.int .i64 x, .int .i64 y, .int .i64 z] (0, 0) _ rfl (blk_put (cs := #[.int .i64 x, .int .i64 y, .int .i64 0]) (blk_put (cs := #[.int .i64 x, .int .i64 0, .int .i64 0]) (blk_put (cs := #[.int .i64 0, .int .i64 0, .int .i64 0]) W6.out 0 _ rfl) 1 _ rfl) 2 _ rfl) Try.underlying109 rfl (by kernel_rfl)) rfl ?_
   exact ⟨rfl, HST.out.kept (below_set (below_set (below_set HB9.out N6.out) N6.out) N6.out), Kept.of_below (below_set (below_set (below_set HB9.out N6.out) N6.out) N6.out) _⟩
  | none =>
   have HFP := Aside0.mk hFp
   clear hFp
   have hs := rdO_step (fun f hf => (HLL.out f hf).1) HNE.out
   have HS := Aside0.mk hs
   clear hs
   have hq : ∀ w, (binOp .eql 112 .nilFunc .nilFunc).run Try.prog w = .ok (.bool true) w := fun _ => by kernel_rfl
   have hq2 : ∀ w, (binOp .neq 112 .nilFunc .nilFunc).run Try.prog w = .ok (.bool false) w := fun _ => by kernel_rfl
   go_enter Try.func78, Try.ntmps78
   go_upto_region 3 with (first
    | ((with_reducible refine gate_dst (N := 6) rfl ?_); refine box_event ?hg (N := 6) ?hd (cs := #[.int .i64 0, .int .i64 0, .int .i64 0]) (t := 109) ?hr ?_; (case hd => rfl); (case hg => rfl); (case hr => first | (go_simp; done) | (go_simp; rfl)); intro g6 hg w6 hbox hb; have HK6 := Aside0.mk hbox; have HB6 := Aside0.mk hb; have N6 := Aside0.mk (show w.heap.size ≤ g6 from (by rw [hg]; exact Nat.le_refl _)); have cS1 := pw_cell_below hb cR1; have cS2 := pw_cell_below hb cR2; have cS0 := pw_cell_below hb cR0; have HL6 := Aside0.mk (MapFn.look (HF.out.1.move (hb.block _ HF.out.1.lt)) Try.underlying132 Try.underlying3 (z := .agg #[.int .i64 0, .int .i64 0, .int .i64 0]) (fun _ => by kernel_rfl) (p : Int) true); clear hg hbox hb))
   have hlk := HL6.out
   rw [HFP.out] at hlk
   simp only [if_true, Option.getD_none, Option.isSome_none] at hlk
   go_upto_region 4 with (first
    | ((with_reducible refine gate_dst (N := 7) rfl ?_); refine box_event ?hg (N := 7) ?hd (cs := #[.int .i64 0, .int .i64 0, .int .i64 0]) (t := 109) ?hr ?_; (case hd => rfl); (case hg => rfl); (case hr => first | (go_simp; done) | (go_simp; rfl)); intro g7 hg w7 hbox hb; have HK7 := Aside0.mk hbox; have HB7 := Aside0.mk (below_step HB6.out hb); have HK6' := Aside0.mk (blk_below HK6.out hb); have NE := Aside0.mk (show g6 ≠ g7 from (by rw [hg]; exact Nat.ne_of_lt (blk_lt HK6.out))); have N7 := Aside0.mk (show w.heap.size ≤ g7 from (by rw [hg]; exact HB6.out.size)); have cz0 : w7.cell? ⟨g7, 0, none⟩ = some (.int .i64 0) := (blk_cell HK7.out 0).trans rfl; have cz1 : w7.cell? ⟨g7, 1, none⟩ = some (.int .i64 0) := (blk_cell HK7.out 1).trans rfl; have cz2 : w7.cell? ⟨g7, 2, none⟩ = some (.int .i64 0) := (blk_cell HK7.out 2).trans rfl; have fz0 := blk_frozen HK7.out 0; have fz1 := blk_frozen HK7.out 1; have fz2 := blk_frozen HK7.out 2; clear hg hbox hb))
   have W7 : Aside0 ((((w7.setCell ⟨g7, 0, none⟩ (.int .i64 0)).setCell ⟨g7, 1, none⟩ (.int .i64 0)).setCell ⟨g7, 2, none⟩ (.int .i64 0)).heap[g7]? = some (.cells #[.int .i64 0, .int .i64 0, .int .i64 0] 109 (0, 0))) := ⟨blk_put (cs := #[.int .i64 0, .int .i64 0, .int .i64 0]) (blk_put (cs := #[.int .i64 0, .int .i64 0, .int .i64 0]) (blk_put (cs := #[.int .i64 0, .int .i64 0, .int .i64 0]) HK7.out 0 _ rfl) 1 _ rfl) 2 _ rfl⟩
   have W6 : Aside0 ((((w7.setCell ⟨g7, 0, none⟩ (.int .i64 0)).setCell ⟨g7, 1, none⟩ (.int .i64 0)).setCell ⟨g7, 2, none⟩ (.int .i64 0)).heap[g6]? = some (.cells #[.int .i64 0, .int .i64 0, .int .i64 0] 109 (0, 0))) := ⟨blk_far (blk_far (blk_far HK6'.out NE.out _) NE.out _) NE.out _⟩
   have HB9 : Aside0 (Below w.heap.size w (((w7.setCell ⟨g7, 0, none⟩ (.int .i64 0)).setCell ⟨g7, 1, none⟩ (.int .i64 0)).setCell ⟨g7, 2, none⟩ (.int .i64 0))) := ⟨below_set (below_set (below_set HB7.out N7.out) N7.out) N7.out⟩
   clear HB7 HK7 HK6' HB6 HK6 cz0 cz1 cz2 fz0 fz1 fz2 cS0 cS1 cS2
   generalize (((w7.setCell ⟨g7, 0, none⟩ (.int .i64 0)).setCell ⟨g7, 1, none⟩ (.int .i64 0)).setCell ⟨g7, 2, none⟩ (.int .i64 0)) = w9 at W7 W6 HB9 ⊢
   have cS0 := pw_cell_below HB9.out cR0
   have cS1 := pw_cell_below HB9.out cR1
   have cS2 := pw_cell_below HB9.out cR2
   have y0 : w9.cell? ⟨g6, 0, none⟩ = some (.int .i64 0) := (blk_cell W6.out 0).trans rfl
   have y1 : w9.cell? ⟨g6, 1, none⟩ = some (.int .i64 0) := (blk_cell W6.out 1).trans rfl
   have y2 : w9.cell? ⟨g6, 2, none⟩ = some (.int .i64 0) := (blk_cell W6.out 2).trans rfl
   have f0 := blk_frozen W6.out 0
   have f1 := blk_frozen W6.out 1
   have f2 := blk_frozen W6.out 2
   go_upto_region 7 with (first
    | ((with_reducible refine gate_dst (N := 9) rfl ?_); refine box_event ?hg (N := 9) ?hd (cs := #[.int .i64 0, .int .i64 0, .int .i64 0]) (t := 109) ?hr ?_; (case hd => rfl); (case hg => rfl); (case hr => first | (go_simp; done) | (go_simp; rfl)); intro g9 hg w10 hbox hb; have HK9 := Aside0.mk hbox; have HB10 := Aside0.mk (below_step HB9.out hb); have W6' := Aside0.mk (blk_below W6.out hb); have NE9 := Aside0.mk (show g6 ≠ g9 from (by rw [hg]; exact Nat.ne_of_lt (blk_lt W6.out))); have N9 := Aside0.mk (show w.heap.size ≤ g9 from (by rw [hg]; exact HB9.out.size)); have cz0 : w10.cell? ⟨g9, 0, none⟩ = some (.int .i64 0) := (blk_cell HK9.out 0).trans rfl; have cz1 : w10.cell? ⟨g9, 1, none⟩ = some (.int .i64 0) := (blk_cell HK9.out 1).trans rfl; have cz2 : w10.cell? ⟨g9, 2, none⟩ = some (.int .i64 0) := (blk_cell HK9.out 2).trans rfl; have fz0 := blk_frozen HK9.out 0; have fz1 := blk_frozen HK9.out 1; have fz2 := blk_frozen HK9.out 2; clear cS0 cS1 cS2; have cS0 := pw_cell_below HB10.out cR0; have cS1 := pw_cell_below HB10.out cR1; have cS2 := pw_cell_below HB10.out cR2; clear hg hbox hb))
   have W9 : Aside0 ((((w10.setCell ⟨g9, 0, none⟩ (.int .i64 0)).setCell ⟨g9, 1, none⟩ (.int .i64 0)).setCell ⟨g9, 2, none⟩ (.int .i64 0)).heap[g9]? = some (.cells #[.int .i64 0, .int .i64 0, .int .i64 0] 109 (0, 0))) := ⟨blk_put (cs := #[.int .i64 0, .int .i64 0, .int .i64 0]) (blk_put (cs := #[.int .i64 0, .int .i64 0, .int .i64 0]) (blk_put (cs := #[.int .i64 0, .int .i64 0, .int .i64 0]) HK9.out 0 _ rfl) 1 _ rfl) 2 _ rfl⟩
   have W6b : Aside0 ((((w10.setCell ⟨g9, 0, none⟩ (.int .i64 0)).setCell ⟨g9, 1, none⟩ (.int .i64 0)).setCell ⟨g9, 2, none⟩ (.int .i64 0)).heap[g6]? = some (.cells #[.int .i64 0, .int .i64 0, .int .i64 0] 109 (0, 0))) := ⟨blk_far (blk_far (blk_far W6'.out NE9.out _) NE9.out _) NE9.out _⟩
   have HB11 : Aside0 (Below w.heap.size w (((w10.setCell ⟨g9, 0, none⟩ (.int .i64 0)).setCell ⟨g9, 1, none⟩ (.int .i64 0)).setCell ⟨g9, 2, none⟩ (.int .i64 0))) := ⟨below_set (below_set (below_set HB10.out N9.out) N9.out) N9.out⟩
   clear HB10 HK9 W6' W6 W7 HB9 cz0 cz1 cz2 fz0 fz1 fz2 cS0 cS1 cS2 y0 y1 y2 f0 f1 f2
   generalize (((w10.setCell ⟨g9, 0, none⟩ (.int .i64 0)).setCell ⟨g9, 1, none⟩ (.int .i64 0)).setCell ⟨g9, 2, none⟩ (.int .i64 0)) = w11 at W9 W6b HB11 ⊢
   have cS0 := pw_cell_below HB11.out cR0
   have HST11 := Aside0.mk (HST.out.kept HB11.out)
   have HKP := Aside0.mk (Kept.of_below HB11.out (fun k => k = M))
   clear HB11 HL6 hlk cR0 cR1 cR2
   go_wp2
   go_loopg [42] L.length (fun kq v42 w' => ∃ (i : Nat) (acc : OutC), v42 = .int .i64 (i : Int) ∧ Aside0 (kq = L.length - i ∧ i ≤ L.length ∧ rdA (rdO L) (S.drop p) (L.drop i) acc = rdO L (S.drop p)) ∧ Aside0 (w'.heap[g9]? = some (.cells #[.int .i64 acc.f0, .int .i64 acc.f1, .int .i64 acc.f2] 109 (0, 0)) ∧ w'.heap[g6]? = some (.cells #[.int .i64 0, .int .i64 0, .int .i64 0] 109 (0, 0))) ∧ Aside0 (RdSt w0 w' L S A0 c0 A1 c1 R M) ∧ Aside0 (Kept w w' (fun k => k = M)))
   case atStart => exact ⟨0, ⟨0, 0, 0⟩, rfl, ⟨rfl, Nat.zero_le _, HS.out.symm⟩, ⟨W9.out, W6b.out⟩, HST11, HKP⟩
   case round =>
    clear W9 W6b HST11 HKP cS0
    obtain ⟨i, acc, rfl, HX, HG, HR, HKP⟩ := hrel
    by_cases hi : (i : Int) < (L.length : Int)
    ·
     have d1 : decide ((i : Int) < (L.length : Int)) = true := decide_eq_true hi
     have p0 : (0 : Int) ≤ (i : Int) := by omega
     obtain ⟨ad, Af, cf, e0, ux0, ux1, hcf, hrf⟩ := at_T55 (Kd.C_below HR0.out HR.out.below) (i : Int) p0 hi
     subst e0
     obtain ⟨f, hf⟩ : ∃ f, f = rd_T55 L (i : Int) := ⟨_, rfl⟩
     rw [← hf] at ux0 ux1 hcf hrf
     simp only [Int.toNat_natCast] at ux0 ux1
     have hdr : L.drop i = f :: L.drop (i + 1) := by
      rw [List.drop_eq_getElem_cons (by omega), hf]
      unfold rd_T55
      rw [Int.toNat_natCast, List.getD_eq_getElem?_getD, List.getElem?_eq_getElem (by omega)]; rfl
     have hfl := HLL.out f (by rw [hf]; exact rd_mem p0 hi)
     have hX := HX.out.2.2
     rw [hdr] at hX
     simp only [rdA] at hX
     obtain ⟨T, hT⟩ : ∃ T, T = S.drop p := ⟨_, rfl⟩
     have HTT := Aside0.mk hT
     have hTl : T.length = S.length - p := by rw [hT, List.length_drop]
     obtain ⟨i3, hi3, hz3, hs3, hy3⟩ := info_parts info3
     obtain ⟨At, ct, hcut, hrt, hct, _⟩ := cut_drop (Kd.int .i64) 46 3 Try.underlying46 hi3 hs3 (p : Int) HR1.out HC1.out (by omega) (by have := HP.out.1; omega)
     simp only [Int.toNat_natCast] at hcut hrt hct
     rw [← hT, ← hTl] at hrt
     rw [← hTl] at hcut hct
     rw [← hT] at hX
     obtain ⟨kb, hkb⟩ := Ev.rounds (impl_begins_ev T f.f0 (by omega))
     have HKB := Aside0.mk hkb
     have HRT := Aside0.mk hrt
     have HCT := Aside0.mk hct
     have HRF := Aside0.mk hrf
     have HCF := Aside0.mk hcf
     have HFL := Aside0.mk hfl
     have q0 := eq_true p0
     have q1 := eq_true hi
     have bi : i ≤ 1000000000000 := by omega
     have bp : p ≤ 23 := by have := HP.out.1; omega
     have bf : f.f0.length ≤ 5 := hfl.2
     have HIL := Aside0.mk (show i + 1 ≤ L.length by omega)
     have HSI := Aside0.mk (show p ≤ S.length by have := HP.out.1; omega)
     have HTL := Aside0.mk hTl
     have cR0 : wr.cell? ⟨R, 0, none⟩ = some (.slice (some ad) L.length c0) := (blk_cell HR.out.blk 0).trans rfl
     have cR1 : wr.cell? ⟨R, 1, none⟩ = some (.slice A1 S.length c1) := (blk_cell HR.out.blk 1).trans rfl
     have HXX := Aside0.mk hX
     clear hi p0 hf hdr hfl hX hT hTl hi3 hs3 hz3 hy3 hrt hct hrf hcf hkb i3
     go_upto_region 10 with (first
      | ((with_reducible refine gate_dst (N := 11) rfl ?_); refine box_event ?hg (N := 11) ?hd (cs := #[.slice none 0 0, .int .i64 0]) (t := 55) ?hr ?_; (case hd => rfl); (case hg => rfl); (case hr => first | (go_simp; done) | (go_simp; rfl)); intro g11 hg w12 hbox hb; have HK11 := Aside0.mk hbox; have HB12 := Aside0.mk hb; have N11 := Aside0.mk (show wr.heap.size ≤ g11 from (by rw [hg]; exact Nat.le_refl _)); have cz0 : w12.cell? ⟨g11, 0, none⟩ = some (.slice none 0 0) := (blk_cell HK11.out 0).trans rfl; have cz1 : w12.cell? ⟨g11, 1, none⟩ = some (.int .i64 0) := (blk_cell HK11.out 1).trans rfl; have fz0 := blk_frozen HK11.out 0; have fz1 := blk_frozen HK11.out 1; clear hg hbox hb))
     have WB : Aside0 (((w12.setCell ⟨g11, 0, none⟩ (.slice Af f.f0.length cf)).setCell ⟨g11, 1, none⟩ (.int .i64 f.f1)).heap[g11]? = some (.cells #[.slice Af f.f0.length cf, .int .i64 f.f1] 55 (0, 0))) := ⟨blk_put (cs := #[.slice Af f.f0.length cf, .int .i64 0]) (blk_put (cs := #[.slice none 0 0, .int .i64 0]) HK11.out 0 _ rfl) 1 _ rfl⟩
     have HBA : Aside0 (Below wr.heap.size wr ((w12.setCell ⟨g11, 0, none⟩ (.slice Af f.f0.length cf)).setCell ⟨g11, 1, none⟩ (.int .i64 f.f1))) := ⟨below_set (below_set HB12.out N11.out) N11.out⟩
     clear HK11 HB12 cz0 cz1 fz0 fz1 ux0 ux1
     generalize ((w12.setCell ⟨g11, 0, none⟩ (.slice Af f.f0.length cf)).setCell ⟨g11, 1, none⟩ (.int .i64 f.f1)) = wA at WB HBA ⊢
     have a0 := pw_cell_below HBA.out cR1
     have a1 : wA.cell? ⟨g11, 0, none⟩ = some (.slice Af f.f0.length cf) := (blk_cell WB.out 0).trans rfl
     clear cR0 cR1
     have HRA := Aside0.mk (HR.out.kept HBA.out)
     have HKA := Aside0.mk (HKP.out.below HBA.out)
     have HGA := Aside0.mk (And.intro (blk_below HG.out.1 HBA.out) (blk_below HG.out.2 HBA.out))
     have HRTA := Aside0.mk (Kd.C_below HRT.out HRA.out.below)
     have HRFA := Aside0.mk (Kd.C_below HRF.out HBA.out)
     cases hb : isPre f.f0 T
     ·
      rw [hb] at HKB HXX
      have NX : Aside0 (L.length - (i + 1) < gk ∧ i + 1 ≤ L.length ∧ rdA (rdO L) T (L.drop (i + 1)) acc = rdO L T) := ⟨by have := HX.out.1; have := HIL.out; omega, HIL.out, by have := HXX.out; simpa using this⟩
      clear hb
      go_quiet ((go_at_call 72; ((with_reducible refine (impl_begins.calls kb _ _ T _ _ f.f0 false _ ?side1 ?side2 ?side3 ?side4 HKB.out).mono ?_); (case side1 => repeat (first | exact HRTA.out | (with_reducible refine Kd.C_drewN ?_ _))); (case side2 => exact HCT.out); (case side3 => repeat (first | exact HRFA.out | (with_reducible refine Kd.C_drewN ?_ _))); (case side4 => exact HCF.out); rintro e w' ⟨rfl, ⟨nd, rfl⟩⟩; (first | exact ⟨rfl, _, World.drewN_drewN _ _ _⟩ | exact ⟨rfl, _, Eq.trans (World.drewN_drewN _ _ _) (congrArg (World.drewN _) (Nat.add_assoc _ _ _))⟩))))
      go_wp2
      go_roundg (L.length - (i + 1))
      case measure => exact NX.out.1
      case rel => exact ⟨i + 1, acc, by simp, ⟨rfl, NX.out.2.1, by rw [← HTT.out]; exact NX.out.2.2⟩, HGA, ⟨HRA.out.kept (pw_below_drewN (Below.refl _ _) _)⟩, ⟨HKA.out⟩⟩
     ·
      rw [hb] at HKB HXX
      have hpl := isPre_len hb
      have hp' : p + f.f0.length ≤ S.length := by have := HTL.out; have := HSI.out; omega
      obtain ⟨O, hO⟩ : ∃ O, O = rdO L (T.drop f.f0.length) := ⟨_, rfl⟩
      have hdd : S.drop (p + f.f0.length) = T.drop f.f0.length := by rw [HTT.out, List.drop_drop]
      have HC := Aside0.mk (show ∀ w, RdSt w0 w L S (some ad) c0 A1 c1 R M → Calls Try.prog 78 #[.pointer (some ⟨R, 0, none⟩), .int .i64 ((p : Int) + (f.f0.length : Int)), .nilFunc] w fun e w' => e = .returned (.agg #[.int .i64 O.f0, .int .i64 O.f1, .int .i64 O.f2]) ∧ RdSt w0 w' L S (some ad) c0 A1 c1 R M ∧ Kept w w' (fun k => k = M) from fun w h => by
       have h1 := HFL.out.1
       have h2 := HP.out.2
       have := IH.out (p + f.f0.length) w hp' (by omega) h
       rw [hdd, ← hO, Int.natCast_add] at this
       exact this)
      have hX := HXX.out
      rw [if_pos rfl, ← hO] at hX
      have HX2 := Aside0.mk hX
      clear hb hpl hO hdd hX hp'
      go_quiet ((go_at_call 72; ((with_reducible refine (impl_begins.calls kb _ _ T _ _ f.f0 true _ ?side1 ?side2 ?side3 ?side4 HKB.out).mono ?_); (case side1 => repeat (first | exact HRTA.out | (with_reducible refine Kd.C_drewN ?_ _))); (case side2 => exact HCT.out); (case side3 => repeat (first | exact HRFA.out | (with_reducible refine Kd.C_drewN ?_ _))); (case side4 => exact HCF.out); rintro e w' ⟨rfl, ⟨nd, rfl⟩⟩; (first | exact ⟨rfl, _, World.drewN_drewN _ _ _⟩ | exact ⟨rfl, _, Eq.trans (World.drewN_drewN _ _ _) (congrArg (World.drewN _) (Nat.add_assoc _ _ _))⟩))))
      go_upto_region 12 with (first
       | (go_at_call 78; refine (HC.out _ (HRA.out.kept (pw_below_drewN (Below.refl _ _) _))).mono ?_; rintro e wB ⟨rfl, hstB, hkB⟩; have HRB := Aside0.mk hstB; have hkB' : Kept wA wB (fun k => k = M) := hkB; have HKB2 := Aside0.mk hkB'; clear hstB hkB hkB')
       | ((with_reducible refine gate_dst (N := 12) rfl ?_); refine box_event ?hg (N := 12) ?hd (cs := #[.int .i64 0, .int .i64 0, .int .i64 0]) (t := 109) ?hr ?_; (case hd => rfl); (case hg => rfl); (case hr => first | (go_simp; done) | (go_simp; rfl)); intro g12 hg w13 hbox hb; have HK12 := Aside0.mk hbox; have HB13 := Aside0.mk hb; have N12 := Aside0.mk (show wB.heap.size ≤ g12 from (by rw [hg]; exact Nat.le_refl _)); have cz0 : w13.cell? ⟨g12, 0, none⟩ = some (.int .i64 0) := (blk_cell HK12.out 0).trans rfl; have cz1 : w13.cell? ⟨g12, 1, none⟩ = some (.int .i64 0) := (blk_cell HK12.out 1).trans rfl; have cz2 : w13.cell? ⟨g12, 2, none⟩ = some (.int .i64 0) := (blk_cell HK12.out 2).trans rfl; have fz0 := blk_frozen HK12.out 0; have fz1 := blk_frozen HK12.out 1; have fz2 := blk_frozen HK12.out 2; clear hg hbox hb))
      have E12 : Aside0 ((((w13.setCell ⟨g12, 0, none⟩ (.int .i64 O.f0)).setCell ⟨g12, 1, none⟩ (.int .i64 O.f1)).setCell ⟨g12, 2, none⟩ (.int .i64 O.f2)).heap[g12]? = some (.cells #[.int .i64 O.f0, .int .i64 O.f1, .int .i64 O.f2] 109 (0, 0))) := ⟨blk_put (cs := #[.int .i64 O.f0, .int .i64 O.f1, .int .i64 0]) (blk_put (cs := #[.int .i64 O.f0, .int .i64 0, .int .i64 0]) (blk_put (cs := #[.int .i64 0, .int .i64 0, .int .i64 0]) HK12.out 0 _ rfl) 1 _ rfl) 2 _ rfl⟩
      have HBC : Aside0 (Below wB.heap.size wB (((w13.setCell ⟨g12, 0, none⟩ (.int .i64 O.f0)).setCell ⟨g12, 1, none⟩ (.int .i64 O.f1)).setCell ⟨g12, 2, none⟩ (.int .i64 O.f2))) := ⟨below_set (below_set (below_set HB13.out N12.out) N12.out) N12.out⟩
      clear HK12 HB13 cz0 cz1 cz2 fz0 fz1 fz2 a0 a1
      generalize (((w13.setCell ⟨g12, 0, none⟩ (.int .i64 O.f0)).setCell ⟨g12, 1, none⟩ (.int .i64 O.f1)).setCell ⟨g12, 2, none⟩ (.int .i64 O.f2)) = wC at E12 HBC ⊢
      have n9 := HRA.out.ne HGA.out.1
      have n6 := HRA.out.ne HGA.out.2
      have n11 := HRA.out.ne WB.out
      have HGC := Aside0.mk (And.intro (blk_below (blk_kept HGA.out.1 HKB2.out n9) HBC.out) (blk_below (blk_kept HGA.out.2 HKB2.out n6) HBC.out))
      have WBC := Aside0.mk (blk_below (blk_kept WB.out HKB2.out n11) HBC.out)
      have HRC := Aside0.mk (HRB.out.kept HBC.out)
      have HKC := Aside0.mk ((HKA.out.then_ HKB2.out (fun _ h => .inl h)).below HBC.out)
      clear n9 n6 n11
      have k0 : wC.cell? ⟨g12, 0, none⟩ = some (.int .i64 O.f0) := (blk_cell E12.out 0).trans rfl
      have k1 : wC.cell? ⟨g12, 1, none⟩ = some (.int .i64 O.f1) := (blk_cell E12.out 1).trans rfl
      have k2 : wC.cell? ⟨g12, 2, none⟩ = some (.int .i64 O.f2) := (blk_cell E12.out 2).trans rfl
      have k3 : wC.cell? ⟨g9, 0, none⟩ = some (.int .i64 acc.f0) := (blk_cell HGC.out.1 0).trans rfl
      have k4 : wC.cell? ⟨g9, 1, none⟩ = some (.int .i64 acc.f1) := (blk_cell HGC.out.1 1).trans rfl
      have k5 : wC.cell? ⟨g9, 2, none⟩ = some (.int .i64 acc.f2) := (blk_cell HGC.out.1 2).trans rfl
      have k6 : wC.cell? ⟨g11, 0, none⟩ = some (.slice Af f.f0.length cf) := (blk_cell WBC.out 0).trans rfl
      have k7 : wC.cell? ⟨g11, 1, none⟩ = some (.int .i64 f.f1) := (blk_cell WBC.out 1).trans rfl
      by_cases hz : O.f0 = 0
      ·
       have hX := HX2.out
       rw [if_pos hz] at hX
       have NX : Aside0 (L.length - (i + 1) < gk ∧ i + 1 ≤ L.length ∧ rdA (rdO L) T (L.drop (i + 1)) acc = rdO L T) := ⟨by have := HX.out.1; have := HIL.out; omega, HIL.out, hX⟩
       have hzz : (O.f0 == 0) = true := by rw [beq_iff_eq]; exact hz
       clear hX hz
       go_wp2
       go_roundg (L.length - (i + 1))
       case measure => exact NX.out.1
       case rel => exact ⟨i + 1, acc, by simp, ⟨rfl, NX.out.2.1, by rw [← HTT.out]; exact NX.out.2.2⟩, HGC, HRC, HKC⟩
      ·
       have hX := HX2.out
       rw [if_neg hz] at hX
       have NX : Aside0 (L.length - (i + 1) < gk ∧ i + 1 ≤ L.length ∧ rdA (rdO L) T (L.drop (i + 1)) (outW acc f O) = rdO L T) := ⟨by have := HX.out.1; have := HIL.out; omega, HIL.out, hX⟩
       have hzz : (O.f0 == 0) = false := by rw [beq_eq_false_iff_ne]; exact hz
       clear hX hz
       go_wp2_with (go_at_call 106; refine (impl_outcome_with_calls acc f Af f.f0.length cf O _).mono ?_; rintro e wD ⟨rfl, hbD⟩; have HBD := Aside0.mk hbD; have HGD := Aside0.mk (And.intro (blk_below HGC.out.1 hbD) (blk_below HGC.out.2 hbD)); have m0 : wD.cell? ⟨g9, 0, none⟩ = some (.int .i64 acc.f0) := (blk_cell HGD.out.1 0).trans rfl; have m1 : wD.cell? ⟨g9, 1, none⟩ = some (.int .i64 acc.f1) := (blk_cell HGD.out.1 1).trans rfl; have m2 : wD.cell? ⟨g9, 2, none⟩ = some (.int .i64 acc.f2) := (blk_cell HGD.out.1 2).trans rfl; have fm0 := blk_frozen HGD.out.1 0; have fm1 := blk_frozen HGD.out.1 1; have fm2 := blk_frozen HGD.out.1 2; clear hbD)
       go_roundg (L.length - (i + 1))
       case measure => exact NX.out.1
       case rel =>
        have nR : g9 ≠ R := blk_ne HGD.out.1 (HRC.out.kept HBD.out).blk (by decide)
        have nM : g9 ≠ M := (HRC.out.kept HBD.out).ne HGD.out.1
        have nB : w0.heap.size ≤ g9 := Nat.le_trans HST.out.below.size N9.out
        refine ⟨i + 1, outW acc f O, by simp, ⟨rfl, NX.out.2.1, by rw [← HTT.out]; exact NX.out.2.2⟩, ⟨blk_put (cs := #[.int .i64 (outW acc f O).f0, .int .i64 (outW acc f O).f1, .int .i64 acc.f2]) (blk_put (cs := #[.int .i64 (outW acc f O).f0, .int .i64 acc.f1, .int .i64 acc.f2]) (blk_put (cs := #[.int .i64 acc.f0, .int .i64 acc.f1, .int .i64 acc.f2]) HGD.out.1 0 _ rfl) 1 _ rfl) 2 _ rfl, ?_⟩, ⟨(((HRC.out.kept HBD.out).set nB nR nM _ _).set nB nR nM _ _).set nB nR nM _ _⟩, ⟨(((HKC.out.below HBD.out).setCell (.inr N9.out) _).setCell (.inr N9.out) _).setCell (.inr N9.out) _⟩⟩
        exact blk_far (blk_far (blk_far HGD.out.2 NE9.out _) NE9.out _) NE9.out _
    ·
     have d1 : decide ((i : Int) < (L.length : Int)) = false := decide_eq_false hi
     have d1' : decide (i < L.length) = false := decide_eq_false (by omega)
     have hacc : acc = rdO L (S.drop p) := by
      have h1 := HX.out.2.2
      have h2 := HX.out.2.1
      rw [List.drop_eq_nil_of_le (show L.length ≤ i by omega)] at h1
      exact h1
     have HACC := Aside0.mk hacc
     obtain ⟨F2, hF2, hF2'⟩ := HR.out.memo
     obtain ⟨es, ck, hput, hmf⟩ := (MapFn.move (w' := wr.drew) hF2 rfl).put Try.underlying132 Try.underlying3 (p : Int) (outV acc)
     have HRM : Aside0 (RdSt w0 (ChangeMaps.setBlock wr.drew M (.map es ck)) L S A0 c0 A1 c1 R M) := ⟨⟨below_setBlock (below_drew HR.out.below) HMR.out.1, blk_setBlock (w := wr.drew) HR.out.blk HMR.out.2.2, _, hmf, by
      intro k v hk
      by_cases e : k = (p : Int)
      ·
       rw [if_pos e] at hk
       cases hk
       exact ⟨p, e, HP.out.1, by rw [hacc]⟩
      ·
       rw [if_neg e] at hk
       exact hF2' k v hk⟩⟩
     have HKM : Aside0 (Kept w (ChangeMaps.setBlock wr.drew M (.map es ck)) (fun k => k = M)) := ⟨kept_setBlock (w := w) (W := wr.drew) (S := fun k => k = M) HKP.out (.inl rfl)⟩
     have n9 := HR.out.ne HG.out.1
     have n6 := HR.out.ne HG.out.2
     have HGM := Aside0.mk (And.intro (blk_setBlock (w := wr.drew) (o' := .map es ck) HG.out.1 n9) (blk_setBlock (w := wr.drew) (o' := .map es ck) HG.out.2 n6))
     have cR2 : wr.cell? ⟨R, 2, none⟩ = some (.map (some M)) := (blk_cell HR.out.blk 2).trans rfl
     have k3 : wr.cell? ⟨g9, 0, none⟩ = some (.int .i64 acc.f0) := (blk_cell HG.out.1 0).trans rfl
     have k4 : wr.cell? ⟨g9, 1, none⟩ = some (.int .i64 acc.f1) := (blk_cell HG.out.1 1).trans rfl
     have k5 : wr.cell? ⟨g9, 2, none⟩ = some (.int .i64 acc.f2) := (blk_cell HG.out.1 2).trans rfl
     unfold outV at hput
     generalize (ChangeMaps.setBlock wr.drew M (.map es ck)) = wM at HRM HKM HGM hput
     have j3 : wM.cell? ⟨g9, 0, none⟩ = some (.int .i64 acc.f0) := (blk_cell HGM.out.1 0).trans rfl
     have j4 : wM.cell? ⟨g9, 1, none⟩ = some (.int .i64 acc.f1) := (blk_cell HGM.out.1 1).trans rfl
     have j5 : wM.cell? ⟨g9, 2, none⟩ = some (.int .i64 acc.f2) := (blk_cell HGM.out.1 2).trans rfl
     have j0 : wM.cell? ⟨g6, 0, none⟩ = some (.int .i64 0) := (blk_cell HGM.out.2 0).trans rfl
     have j1 : wM.cell? ⟨g6, 1, none⟩ = some (.int .i64 0) := (blk_cell HGM.out.2 1).trans rfl
     have j2 : wM.cell? ⟨g6, 2, none⟩ = some (.int .i64 0) := (blk_cell HGM.out.2 2).trans rfl
     have f0 := blk_frozen HGM.out.2 0
     have f1 := blk_frozen HGM.out.2 1
     have f2 := blk_frozen HGM.out.2 2
     clear hF2 hF2' hmf hacc hi n9 n6
     go_wp2
     go_region
     go_wp2
     refine bodyPost_ret (results_cell_row rfl _ _ g6 109 #[.int .i64 acc.f0, .int .i64 acc.f1, .int .i64 acc.f2] (0, 0) _ rfl (blk_put (cs := #[.int .i64 acc.f0, .int .i64 acc.f1, .int .i64 0]) (blk_put (cs := #[.int .i64 acc.f0, .int .i64 0, .int .i64 0]) (blk_put (cs := #[.int .i64 0, .int .i64 0, .int .i64 0]) HGM.out.2 0 _ rfl) 1 _ rfl) 2 _ rfl) Try.underlying109 rfl (by kernel_rfl)) rfl ?_
     have nR : g6 ≠ R := blk_ne HGM.out.2 HRM.out.blk (by decide)
     have nM : g6 ≠ M := HRM.out.ne HGM.out.2
     have nB : w0.heap.size ≤ g6 := Nat.le_trans HST.out.below.size N6.out
     exact ⟨by rw [← HACC.out]; rfl, ((HRM.out.set nB nR nM _ _).set nB nR nM _ _).set nB nR nM _ _, ((HKM.out.setCell (.inr N6.out) _).setCell (.inr N6.out) _).setCell (.inr N6.out) _⟩

set_option maxHeartbeats 4000000 in
set_option maxRecDepth 100000 in
theorem impl_newReader_calls (L : List S55) (S : List Int) (A0 : Option Addr) (c0 : Nat) (A1 : Option Addr) (c1 : Nat) (w : World) (hr0 : Kd.C k55 w A0 L.length L) (hc0 : L.length ≤ c0) (hr1 : Kd.C (Kd.int .i64) w A1 S.length S) (hc1 : S.length ≤ c1) (hL : ∀ x ∈ L, x.f0.length ≤ 1000000000000) (hS : S.length ≤ 1000000000000) :
 Calls Try.prog 77 #[.slice A0 L.length c0, .slice A1 S.length c1] w fun e w' => (okR L S = false ∧ e = .returned (.tuple #[.pointer none, .bool false]) ∧ Below w.heap.size w w') ∨ (okR L S = true ∧ ∃ R M, e = .returned (.tuple #[.pointer (some ⟨R, 0, none⟩), .bool true]) ∧ RdSt w w' L S A0 c0 A1 c1 R M ∧ w.heap.size ≤ M ∧ w.heap.size ≤ R ∧ R ≠ M) := by
 have HR0 := Aside0.mk hr0
 have HC0 := Aside0.mk hc0
 have HR1 := Aside0.mk hr1
 have HC1 := Aside0.mk hc1
 clear hr0 hc0 hr1 hc1
 have hu3 := Try.underlying134
 obtain ⟨kv, hkv⟩ := Ev.rounds (impl_FormulasValid_ev L hL)
 obtain ⟨ka, hka⟩ := Ev.rounds (impl_allWithin_ev S hS 20 (by omega) (by omega))
 have hok : okR L S = (fsOk L && (decide (S.length ≤ 23) && S.all (inR (-20) 20))) := rfl
 have HKV := Aside0.mk hkv
 have HKA := Aside0.mk hka
 clear hkv hka hL
 cases h1 : fsOk L
 ·
  rw [h1] at hok HKV
  have HOK := Aside0.mk hok
  clear hok h1
  go_enter Try.func77, Try.ntmps77
  go_wp2_with (go_at_call 71; refine (impl_FormulasValid.calls kv _ _ L false _ HR0.out HC0.out HKV.out).mono ?_; rintro e w1 ⟨rfl, hb1⟩; have HB1 := Aside0.mk hb1; clear hb1)
  go_ret2
  exact .inl ⟨by rw [HOK.out]; rfl, rfl, HB1.out⟩
 rw [h1] at hok HKV
 by_cases h2 : S.length ≤ 23
 rotate_left
 ·
  have HOK := Aside0.mk (show okR L S = false by rw [hok, decide_eq_false h2]; rfl)
  have d1 : decide (23 < (S.length : Int)) = true := decide_eq_true (by omega)
  have d2 : decide (23 < S.length) = true := decide_eq_true (by omega)
  clear hok h1 h2
  go_enter Try.func77, Try.ntmps77
  go_wp2_with (go_at_call 71; refine (impl_FormulasValid.calls kv _ _ L true _ HR0.out HC0.out HKV.out).mono ?_; rintro e w1 ⟨rfl, hb1⟩; have HB1 := Aside0.mk hb1; clear hb1)
  go_ret2
  exact .inl ⟨HOK.out, rfl, HB1.out⟩
 rw [decide_eq_true h2] at hok
 have d1 : decide (23 < (S.length : Int)) = false := decide_eq_false (by omega)
 have d2 : decide (23 < S.length) = false := decide_eq_false (by omega)
 cases h3 : S.all (inR (-20) 20)
 ·
  rw [h3] at hok HKA
  have HOK := Aside0.mk hok
  clear hok h1 h2 h3
  go_enter Try.func77, Try.ntmps77
  go_wp2_with (first
   | (go_at_call 71; refine (impl_FormulasValid.calls kv _ _ L true _ HR0.out HC0.out HKV.out).mono ?_; rintro e w1 ⟨rfl, hb1⟩; have HB1 := Aside0.mk hb1; clear hb1)
   | (go_at_call 105; refine (impl_allWithin.calls ka _ _ S 20 false _ (Kd.C_below HR1.out HB1.out) HC1.out HKA.out).mono ?_; rintro e w2 ⟨rfl, hd⟩; have HB2 := Aside0.mk (below_step HB1.out hd.below); clear hd))
  go_ret2
  exact .inl ⟨HOK.out, rfl, HB2.out⟩
 ·
  rw [h3] at hok HKA
  have HOK := Aside0.mk hok
  clear hok h1 h2 h3
  have hmm := @run_makeMap Try.prog
  go_enter Try.func77, Try.ntmps77
  go_wp2_with (first
   | (go_at_call 71; refine (impl_FormulasValid.calls kv _ _ L true _ HR0.out HC0.out HKV.out).mono ?_; rintro e w1 ⟨rfl, hb1⟩; have HB1 := Aside0.mk hb1; clear hb1)
   | (go_at_call 105; refine (impl_allWithin.calls ka _ _ S 20 true _ (Kd.C_below HR1.out HB1.out) HC1.out HKA.out).mono ?_; rintro e w2 ⟨rfl, hd⟩; have HB2 := Aside0.mk (below_step HB1.out hd.below); clear hd))
  go_ret2
  have hB : Below w.heap.size w (w2.alloc (.map #[] 0)) := below_alloc HB2.out _
  have hs : (w2.alloc (.map #[] 0)).heap.size = w2.heap.size + 1 := by simp
  have hm : (w2.alloc (.map #[] 0)).heap[w2.heap.size]? = some (.map #[] 0) := blk_new w2 _
  have hb : ((w2.alloc (.map #[] 0)).alloc (.cells #[.slice A0 L.length c0, .slice A1 S.length c1, .map (some w2.heap.size)] 134 (0, 0))).heap[w2.heap.size + 1]? = some (.cells #[.slice A0 L.length c0, .slice A1 S.length c1, .map (some w2.heap.size)] 134 (0, 0)) := by rw [← hs]; exact blk_new _ _
  refine .inr ⟨HOK.out, w2.heap.size + 1, w2.heap.size, rfl, ⟨below_alloc hB _, hb, fun _ => none, MapFn.made ((below_alloc (Below.refl _ _) _).block _ (by rw [hs]; omega) |>.trans hm), by simp⟩, HB2.out.size, Nat.le_succ_of_le HB2.out.size, by omega⟩

theorem okR_lens {L : List S55} {S : List Int} (h : okR L S = true) : (∀ f ∈ L, 1 ≤ f.f0.length ∧ f.f0.length ≤ 5) ∧ L.length ≤ 8 ∧ S.length ≤ 23 :=
 ⟨fun f hf => fOk_len (fsOk_all (okR_of h).1 f hf), fsOk_len (okR_of h).1, (okR_of h).2⟩
theorem impl_newReader_no {L : List S55} {S : List Int} {A0 : Option Addr} {c0 : Nat} {A1 : Option Addr} {c1 : Nat} {w : World} (hr0 : Kd.C k55 w A0 L.length L) (hc0 : L.length ≤ c0) (hr1 : Kd.C (Kd.int .i64) w A1 S.length S) (hc1 : S.length ≤ c1) (hL : ∀ x ∈ L, x.f0.length ≤ 1000000000000) (hS : S.length ≤ 1000000000000) (h : okR L S = false) :
 Calls Try.prog 77 #[.slice A0 L.length c0, .slice A1 S.length c1] w fun e w' => e = .returned (.tuple #[.pointer none, .bool false]) ∧ Below w.heap.size w w' :=
 (impl_newReader_calls L S A0 c0 A1 c1 w hr0 hc0 hr1 hc1 hL hS).mono (by
  rintro e w' (⟨_, h1, h2⟩ | ⟨h1, _⟩)
  ·
   exact ⟨h1, h2⟩
  ·
   rw [h] at h1; cases h1)
theorem impl_newReader_yes {L : List S55} {S : List Int} {A0 : Option Addr} {c0 : Nat} {A1 : Option Addr} {c1 : Nat} {w : World} (hr0 : Kd.C k55 w A0 L.length L) (hc0 : L.length ≤ c0) (hr1 : Kd.C (Kd.int .i64) w A1 S.length S) (hc1 : S.length ≤ c1) (hL : ∀ x ∈ L, x.f0.length ≤ 1000000000000) (hS : S.length ≤ 1000000000000) (h : okR L S = true) :
 Calls Try.prog 77 #[.slice A0 L.length c0, .slice A1 S.length c1] w fun e w' => ∃ R M, e = .returned (.tuple #[.pointer (some ⟨R, 0, none⟩), .bool true]) ∧ RdSt w w' L S A0 c0 A1 c1 R M ∧ w.heap.size ≤ M ∧ w.heap.size ≤ R ∧ R ≠ M :=
 (impl_newReader_calls L S A0 c0 A1 c1 w hr0 hc0 hr1 hc1 hL hS).mono (by
  rintro e w' (⟨h1, _⟩ | ⟨_, h1⟩)
  ·
   rw [h] at h1; cases h1
  ·
   exact h1)

/-- The blocks that a closure of a reader's may write: neither the reader's, nor an outcome's, nor a formula's box, nor a map. -/
def SCb (w : World) (k : Nat) : Prop := ∃ cs t fr, w.heap[k]? = some (.cells cs t fr) ∧ t ≠ 109 ∧ t ≠ 55 ∧ t ≠ 134
theorem nsc_of {w : World} {k t : Nat} {cs : Array Value} {fr : Nat × Nat} (h : w.heap[k]? = some (.cells cs t fr)) (ht : (t == 109 || (t == 55 || t == 134)) = true) : ¬ SCb w k := by
 rintro ⟨cs', t', fr', h', h1, h2, h3⟩
 rw [h] at h'
 injection h' with h'
 injection h' with _ h' _
 subst h'
 simp only [Bool.or_eq_true, beq_iff_eq] at ht
 rcases ht with rfl | rfl | rfl
 ·
  exact h1 rfl
 ·
  exact h2 rfl
 ·
  exact h3 rfl
theorem RdSt.nsc {w0 w : World} {L : List S55} {S : List Int} {A0 : Option Addr} {c0 : Nat} {A1 : Option Addr} {c1 : Nat} {R M : Nat} (h : RdSt w0 w L S A0 c0 A1 c1 R M) : ¬ SCb w M := by
 rintro ⟨cs, t, fr, h', _⟩
 exact h.ne h' rfl
theorem rdC_len (rec : List Int → OutC) (s : List Int) : ∀ (L : List S55) (i : Int), (rdC rec s i L).length ≤ L.length
 | [], _ => Nat.le_refl _
 | f :: fs, i => by
  have h := rdC_len rec s fs (i + 1)
  simp only [rdC, List.length_cons]
  split
  ·
   split
   ·
    omega
   ·
    rw [List.length_cons]; omega
  ·
   omega
theorem rdCalls_len (L : List S55) (s : List Int) : (rdCalls L s).length ≤ L.length := by
 unfold rdCalls
 split
 ·
  exact Nat.zero_le _
 ·
  exact rdC_len _ _ _ _
theorem hist_len {h r h0 : List (Int × OutC)} {L : List S55} {s : List Int} (e : h ++ r = h0 ++ rdCalls L s) : h.length ≤ h0.length + L.length := by
 have h1 := congrArg List.length e
 have h2 := rdCalls_len L s
 rw [List.length_append, List.length_append] at h1
 omega
theorem RdSt.keptSC {w0 w w' : World} {L : List S55} {S : List Int} {A0 : Option Addr} {c0 : Nat} {A1 : Option Addr} {c1 : Nat} {R M : Nat} (h : RdSt w0 w L S A0 c0 A1 c1 R M) (hb : Below w0.heap.size w0 w') (hk : Kept w w' (SCb w)) : RdSt w0 w' L S A0 c0 A1 c1 R M := by
 obtain ⟨F, hF, hF'⟩ := h.memo
 exact h.far hb (hk.2 R (blk_lt h.blk) (nsc_of h.blk (by decide))) (hk.2 M hF.lt h.nsc)
theorem RdSt.lower {w w0 w' : World} {L : List S55} {S : List Int} {A0 : Option Addr} {c0 : Nat} {A1 : Option Addr} {c1 : Nat} {R M : Nat} (h : RdSt w0 w' L S A0 c0 A1 c1 R M) (hb : Below w.heap.size w w0) : RdSt w w' L S A0 c0 A1 c1 R M :=
 ⟨below_then hb hb.size h.below, h.blk, h.memo⟩

end Go.Proofs.Ytnemcppllfmioaa.Pure
namespace Go.Proofs.Ytnemcppllfmioaa.Pure
set_option linter.unusedVariables false
set_option linter.unusedSimpArgs false
open Go Go.RowKit Go.Proofs.Ytnemcppllfmioaa.PFnReadMelody Go.Proofs.YtnemcppllfmioaaW.PrintWords Go.Proofs.YtnemcppllfmioaaW.PrintLast Go.Proofs.YtnemcppllfmioaaW.PrintMore

set_option maxHeartbeats 8000000 in
set_option maxRecDepth 100000 in
theorem impl_read_eachB {L : List S55} {S : List Int} {A0 : Option Addr} {c0 : Nat} {A1 : Option Addr} {c1 : Nat} {w0 : World} {R M : Nat} (hr0 : Kd.C k55 w0 A0 L.length L) (hc0 : L.length ≤ c0) (hr1 : Kd.C (Kd.int .i64) w0 A1 S.length S) (hc1 : S.length ≤ c1)
 (hL : ∀ f ∈ L, 1 ≤ f.f0.length ∧ f.f0.length ≤ 5) (hLl : L.length ≤ 8) (hSl : S.length ≤ 23) (hM : w0.heap.size ≤ M) (hR : w0.heap.size ≤ R) (hRM : R ≠ M) {F1 F2 F3 : Nat} (h0 : List (Int × OutC)) (I : World → List (Int × OutC) → Prop) (hI : ∀ w w' h, I w h → Kept w w' (fun k => ¬ SCb w k) → I w' h)
 (hC : ∀ w h (i : Int) (o : OutC), RdSt w0 w L S A0 c0 A1 c1 R M → I w h → 0 ≤ i → i < (L.length : Int) → h.length ≤ h0.length + L.length → Calls Try.prog 80 #[.int .i64 i, .agg #[.int .i64 o.f0, .int .i64 o.f1, .int .i64 o.f2], .pointer (some ⟨F1, 0, none⟩), .pointer (some ⟨F2, 0, none⟩), .pointer (some ⟨F3, 0, none⟩)] w fun e w' => e = .returned (.tuple #[]) ∧ RdSt w0 w' L S A0 c0 A1 c1 R M ∧ I w' (h ++ [(i, o)]) ∧ Kept w w' (SCb w))
 (p : Nat) (w : World) (hp : p ≤ S.length) (hst : RdSt w0 w L S A0 c0 A1 c1 R M) (h0I : I w h0) :
 Calls Try.prog 78 #[.pointer (some ⟨R, 0, none⟩), .int .i64 (p : Int), (Value.func (Fn.func 80) #[] #[.pointer (some ⟨F1, 0, none⟩), .pointer (some ⟨F2, 0, none⟩), .pointer (some ⟨F3, 0, none⟩)])] w fun e w' => e = .returned (outV (rdO L (S.drop p))) ∧ RdSt w0 w' L S A0 c0 A1 c1 R M ∧ I w' (h0 ++ rdCalls L (S.drop p)) := by
 have HR0 := Aside0.mk hr0
 have HC0 := Aside0.mk hc0
 have HR1 := Aside0.mk hr1
 have HC1 := Aside0.mk hc1
 have HLL := Aside0.mk hL
 have HMR := Aside0.mk (And.intro hM (And.intro hR hRM))
 clear hr0 hc0 hr1 hc1 hL hM hR hRM
 have hu1 := Try.underlying109
 have hu2 := Try.underlying55
 have hu3 := Try.underlying134
 have HII := Aside0.mk hI
 have HCC := Aside0.mk hC
 have HNIL := Aside0.mk (impl_read_nil HR0.out HC0.out HR1.out HC1.out HLL.out hLl hSl HMR.out.1 HMR.out.2.1 HMR.out.2.2)
 have H0I := Aside0.mk h0I
 clear hI hC h0I
 have HST := Aside0.mk hst
 have HP := Aside0.mk hp
 obtain ⟨F, hF, hF'⟩ := hst.memo
 have HF := Aside0.mk (And.intro hF hF')
 have cR0 : w.cell? ⟨R, 0, none⟩ = some (.slice A0 L.length c0) := (blk_cell hst.blk 0).trans rfl
 have cR1 : w.cell? ⟨R, 1, none⟩ = some (.slice A1 S.length c1) := (blk_cell hst.blk 1).trans rfl
 have cR2 : w.cell? ⟨R, 2, none⟩ = some (.map (some M)) := (blk_cell hst.blk 2).trans rfl
 clear hst hF hF'
 by_cases hps : p = S.length
 ·
  subst hps
  refine (impl_read_end HR0.out HC0.out HR1.out HC1.out HLL.out hLl hSl HMR.out.1 HMR.out.2.1 HMR.out.2.2 w _ HST.out).mono ?_
  rintro e w' ⟨h1, h2, h3⟩
  refine ⟨h1, h2, ?_⟩
  have e : rdCalls L (S.drop S.length) = [] := by rw [List.drop_length]; rfl
  rw [e, List.append_nil]
  exact HII.out _ _ _ H0I.out (h3.mono (fun k hk => by subst hk; exact HST.out.nsc))
 have e1 : ((p : Int) == (S.length : Int)) = false := by rw [beq_eq_false_iff_ne]; omega
 have e1' : (p == S.length) = false := by rw [beq_eq_false_iff_ne]; exact hps
 have hne : S.drop p ≠ [] := by
  intro h
  have := congrArg List.length h
  rw [List.length_drop, List.length_nil] at this
  omega
 have HNE := Aside0.mk hne
 clear hne hps hp
 obtain ⟨x0, y0_, z0_, bk, hlk0⟩ : ∃ x y z b, (if true = true then Value.tuple #[(F (p : Int)).getD (.agg #[.int .i64 0, .int .i64 0, .int .i64 0]), .bool (F (p : Int)).isSome] else (F (p : Int)).getD (.agg #[.int .i64 0, .int .i64 0, .int .i64 0])) = .tuple #[.agg #[.int .i64 x, .int .i64 y, .int .i64 z], .bool b] := by
  cases hFp : F (p : Int) with
  | some v =>
   obtain ⟨p', _, _, h3⟩ := HF.out.2 _ _ hFp
   exact ⟨_, _, _, true, by rw [h3]; rfl⟩
  | none => exact ⟨0, 0, 0, false, rfl⟩
 have HFP := Aside0.mk hlk0
 clear hlk0
 have hcl : rdCalls L (S.drop p) = rdC (rdO L) (S.drop p) 0 L := if_neg HNE.out
 have HCL := Aside0.mk hcl
 clear hcl
 have hs := rdO_step (fun f hf => (HLL.out f hf).1) HNE.out
 have HS := Aside0.mk hs
 clear hs
 have hq : ∀ w, (binOp .eql 112 (Value.func (Fn.func 80) #[] #[.pointer (some ⟨F1, 0, none⟩), .pointer (some ⟨F2, 0, none⟩), .pointer (some ⟨F3, 0, none⟩)]) .nilFunc).run Try.prog w = .ok (.bool false) w := fun _ => by kernel_rfl
 have hq2 : ∀ w, (binOp .neq 112 (Value.func (Fn.func 80) #[] #[.pointer (some ⟨F1, 0, none⟩), .pointer (some ⟨F2, 0, none⟩), .pointer (some ⟨F3, 0, none⟩)]) .nilFunc).run Try.prog w = .ok (.bool true) w := fun _ => by kernel_rfl
 cases bk
 all_goals
  go_enter Try.func78, Try.ntmps78
  go_upto_region 3 with (first
   | ((with_reducible refine gate_dst (N := 6) rfl ?_); refine box_event ?hg (N := 6) ?hd (cs := #[.int .i64 0, .int .i64 0, .int .i64 0]) (t := 109) ?hr ?_; (case hd => rfl); (case hg => rfl); (case hr => first | (go_simp; done) | (go_simp; rfl)); intro g6 hg w6 hbox hb; have HK6 := Aside0.mk hbox; have HB6 := Aside0.mk hb; have N6 := Aside0.mk (show w.heap.size ≤ g6 from (by rw [hg]; exact Nat.le_refl _)); have cS1 := pw_cell_below hb cR1; have cS2 := pw_cell_below hb cR2; have cS0 := pw_cell_below hb cR0; have HL6 := Aside0.mk (MapFn.look (HF.out.1.move (hb.block _ HF.out.1.lt)) Try.underlying132 Try.underlying3 (z := .agg #[.int .i64 0, .int .i64 0, .int .i64 0]) (fun _ => by kernel_rfl) (p : Int) true); clear hg hbox hb))
  have hlk := HL6.out
  rw [HFP.out] at hlk
  go_upto_region 4 with (first
   | ((with_reducible refine gate_dst (N := 7) rfl ?_); refine box_event ?hg (N := 7) ?hd (cs := #[.int .i64 0, .int .i64 0, .int .i64 0]) (t := 109) ?hr ?_; (case hd => rfl); (case hg => rfl); (case hr => first | (go_simp; done) | (go_simp; rfl)); intro g7 hg w7 hbox hb; have HK7 := Aside0.mk hbox; have HB7 := Aside0.mk (below_step HB6.out hb); have HK6' := Aside0.mk (blk_below HK6.out hb); have NE := Aside0.mk (show g6 ≠ g7 from (by rw [hg]; exact Nat.ne_of_lt (blk_lt HK6.out))); have N7 := Aside0.mk (show w.heap.size ≤ g7 from (by rw [hg]; exact HB6.out.size)); have cz0 : w7.cell? ⟨g7, 0, none⟩ = some (.int .i64 0) := (blk_cell HK7.out 0).trans rfl; have cz1 : w7.cell? ⟨g7, 1, none⟩ = some (.int .i64 0) := (blk_cell HK7.out 1).trans rfl; have cz2 : w7.cell? ⟨g7, 2, none⟩ = some (.int .i64 0) := (blk_cell HK7.out 2).trans rfl; have fz0 := blk_frozen HK7.out 0; have fz1 := blk_frozen HK7.out 1; have fz2 := blk_frozen HK7.out 2; clear hg hbox hb))
  have W7 : Aside0 ((((w7.setCell ⟨g7, 0, none⟩ (.int .i64 x0)).setCell ⟨g7, 1, none⟩ (.int .i64 y0_)).setCell ⟨g7, 2, none⟩ (.int .i64 z0_)).heap[g7]? = some (.cells #[.int .i64 x0, .int .i64 y0_, .int .i64 z0_] 109 (0, 0))) := ⟨blk_put (cs := #[.int .i64 x0, .int .i64 y0_, .int .i64 0]) (blk_put (cs := #[.int .i64 x0, .int .i64 0, .int .i64 0]) (blk_put (cs := #[.int .i64 0, .int .i64 0, .int .i64 0]) HK7.out 0 _ rfl) 1 _ rfl) 2 _ rfl⟩
  have W6 : Aside0 ((((w7.setCell ⟨g7, 0, none⟩ (.int .i64 x0)).setCell ⟨g7, 1, none⟩ (.int .i64 y0_)).setCell ⟨g7, 2, none⟩ (.int .i64 z0_)).heap[g6]? = some (.cells #[.int .i64 0, .int .i64 0, .int .i64 0] 109 (0, 0))) := ⟨blk_far (blk_far (blk_far HK6'.out NE.out _) NE.out _) NE.out _⟩
  have HB9 : Aside0 (Below w.heap.size w (((w7.setCell ⟨g7, 0, none⟩ (.int .i64 x0)).setCell ⟨g7, 1, none⟩ (.int .i64 y0_)).setCell ⟨g7, 2, none⟩ (.int .i64 z0_))) := ⟨below_set (below_set (below_set HB7.out N7.out) N7.out) N7.out⟩
  clear HB7 HK7 HK6' HB6 HK6 cz0 cz1 cz2 fz0 fz1 fz2 cS0 cS1 cS2
  generalize (((w7.setCell ⟨g7, 0, none⟩ (.int .i64 x0)).setCell ⟨g7, 1, none⟩ (.int .i64 y0_)).setCell ⟨g7, 2, none⟩ (.int .i64 z0_)) = w9 at W7 W6 HB9 ⊢
  have cS0 := pw_cell_below HB9.out cR0
  have cS1 := pw_cell_below HB9.out cR1
  have cS2 := pw_cell_below HB9.out cR2
  have y0 : w9.cell? ⟨g6, 0, none⟩ = some (.int .i64 0) := (blk_cell W6.out 0).trans rfl
  have y1 : w9.cell? ⟨g6, 1, none⟩ = some (.int .i64 0) := (blk_cell W6.out 1).trans rfl
  have y2 : w9.cell? ⟨g6, 2, none⟩ = some (.int .i64 0) := (blk_cell W6.out 2).trans rfl
  have f0 := blk_frozen W6.out 0
  have f1 := blk_frozen W6.out 1
  have f2 := blk_frozen W6.out 2
  go_upto_region 7 with (first
   | ((with_reducible refine gate_dst (N := 9) rfl ?_); refine box_event ?hg (N := 9) ?hd (cs := #[.int .i64 0, .int .i64 0, .int .i64 0]) (t := 109) ?hr ?_; (case hd => rfl); (case hg => rfl); (case hr => first | (go_simp; done) | (go_simp; rfl)); intro g9 hg w10 hbox hb; have HK9 := Aside0.mk hbox; have HB10 := Aside0.mk (below_step HB9.out hb); have W6' := Aside0.mk (blk_below W6.out hb); have NE9 := Aside0.mk (show g6 ≠ g9 from (by rw [hg]; exact Nat.ne_of_lt (blk_lt W6.out))); have N9 := Aside0.mk (show w.heap.size ≤ g9 from (by rw [hg]; exact HB9.out.size)); have cz0 : w10.cell? ⟨g9, 0, none⟩ = some (.int .i64 0) := (blk_cell HK9.out 0).trans rfl; have cz1 : w10.cell? ⟨g9, 1, none⟩ = some (.int .i64 0) := (blk_cell HK9.out 1).trans rfl; have cz2 : w10.cell? ⟨g9, 2, none⟩ = some (.int .i64 0) := (blk_cell HK9.out 2).trans rfl; have fz0 := blk_frozen HK9.out 0; have fz1 := blk_frozen HK9.out 1; have fz2 := blk_frozen HK9.out 2; clear cS0 cS1 cS2; have cS0 := pw_cell_below HB10.out cR0; have cS1 := pw_cell_below HB10.out cR1; have cS2 := pw_cell_below HB10.out cR2; clear hg hbox hb))
  have W9 : Aside0 ((((w10.setCell ⟨g9, 0, none⟩ (.int .i64 0)).setCell ⟨g9, 1, none⟩ (.int .i64 0)).setCell ⟨g9, 2, none⟩ (.int .i64 0)).heap[g9]? = some (.cells #[.int .i64 0, .int .i64 0, .int .i64 0] 109 (0, 0))) := ⟨blk_put (cs := #[.int .i64 0, .int .i64 0, .int .i64 0]) (blk_put (cs := #[.int .i64 0, .int .i64 0, .int .i64 0]) (blk_put (cs := #[.int .i64 0, .int .i64 0, .int .i64 0]) HK9.out 0 _ rfl) 1 _ rfl) 2 _ rfl⟩
  have W6b : Aside0 ((((w10.setCell ⟨g9, 0, none⟩ (.int .i64 0)).setCell ⟨g9, 1, none⟩ (.int .i64 0)).setCell ⟨g9, 2, none⟩ (.int .i64 0)).heap[g6]? = some (.cells #[.int .i64 0, .int .i64 0, .int .i64 0] 109 (0, 0))) := ⟨blk_far (blk_far (blk_far W6'.out NE9.out _) NE9.out _) NE9.out _⟩
  have HB11 : Aside0 (Below w.heap.size w (((w10.setCell ⟨g9, 0, none⟩ (.int .i64 0)).setCell ⟨g9, 1, none⟩ (.int .i64 0)).setCell ⟨g9, 2, none⟩ (.int .i64 0))) := ⟨below_set (below_set (below_set HB10.out N9.out) N9.out) N9.out⟩
  clear HB10 HK9 W6' W6 W7 HB9 cz0 cz1 cz2 fz0 fz1 fz2 cS0 cS1 cS2 y0 y1 y2 f0 f1 f2
  generalize (((w10.setCell ⟨g9, 0, none⟩ (.int .i64 0)).setCell ⟨g9, 1, none⟩ (.int .i64 0)).setCell ⟨g9, 2, none⟩ (.int .i64 0)) = w11 at W9 W6b HB11 ⊢
  have cS0 := pw_cell_below HB11.out cR0
  have HST11 := Aside0.mk (HST.out.kept HB11.out)
  have HKP := Aside0.mk (HII.out _ _ _ H0I.out (Kept.of_below HB11.out _))
  clear HB11 HL6 hlk cR0 cR1 cR2
  go_wp2
  go_loopg [42] L.length (fun kq v42 w' => ∃ (i : Nat) (acc : OutC) (hist : List (Int × OutC)), v42 = .int .i64 (i : Int) ∧ Aside0 (kq = L.length - i ∧ i ≤ L.length ∧ rdA (rdO L) (S.drop p) (L.drop i) acc = rdO L (S.drop p) ∧ hist ++ rdC (rdO L) (S.drop p) (i : Int) (L.drop i) = h0 ++ rdCalls L (S.drop p)) ∧ Aside0 (w'.heap[g9]? = some (.cells #[.int .i64 acc.f0, .int .i64 acc.f1, .int .i64 acc.f2] 109 (0, 0)) ∧ w'.heap[g6]? = some (.cells #[.int .i64 0, .int .i64 0, .int .i64 0] 109 (0, 0))) ∧ Aside0 (RdSt w0 w' L S A0 c0 A1 c1 R M) ∧ Aside0 (I w' hist))
  case atStart => exact ⟨0, ⟨0, 0, 0⟩, h0, rfl, ⟨rfl, Nat.zero_le _, HS.out.symm, by rw [HCL.out, List.drop_zero]; rfl⟩, ⟨W9.out, W6b.out⟩, HST11, HKP⟩
  case round =>
   clear W9 W6b HST11 HKP cS0
   obtain ⟨i, acc, hist, rfl, HX, HG, HR, HKP⟩ := hrel
   by_cases hi : (i : Int) < (L.length : Int)
   ·
    have d1 : decide ((i : Int) < (L.length : Int)) = true := decide_eq_true hi
    have p0 : (0 : Int) ≤ (i : Int) := by omega
    obtain ⟨ad, Af, cf, e0, ux0, ux1, hcf, hrf⟩ := at_T55 (Kd.C_below HR0.out HR.out.below) (i : Int) p0 hi
    subst e0
    obtain ⟨f, hf⟩ : ∃ f, f = rd_T55 L (i : Int) := ⟨_, rfl⟩
    rw [← hf] at ux0 ux1 hcf hrf
    simp only [Int.toNat_natCast] at ux0 ux1
    have hdr : L.drop i = f :: L.drop (i + 1) := by
     rw [List.drop_eq_getElem_cons (by omega), hf]
     unfold rd_T55
     rw [Int.toNat_natCast, List.getD_eq_getElem?_getD, List.getElem?_eq_getElem (by omega)]; rfl
    have hfl := HLL.out f (by rw [hf]; exact rd_mem p0 hi)
    have hX := HX.out.2.2.1
    have hY := HX.out.2.2.2
    rw [hdr] at hX
    simp only [rdA] at hX
    rw [hdr] at hY
    simp only [rdC] at hY
    obtain ⟨T, hT⟩ : ∃ T, T = S.drop p := ⟨_, rfl⟩
    have HTT := Aside0.mk hT
    have hTl : T.length = S.length - p := by rw [hT, List.length_drop]
    obtain ⟨i3, hi3, hz3, hs3, hy3⟩ := info_parts info3
    obtain ⟨At, ct, hcut, hrt, hct, _⟩ := cut_drop (Kd.int .i64) 46 3 Try.underlying46 hi3 hs3 (p : Int) HR1.out HC1.out (by omega) (by have := HP.out; omega)
    simp only [Int.toNat_natCast] at hcut hrt hct
    rw [← hT, ← hTl] at hrt
    rw [← hTl] at hcut hct
    rw [← hT] at hX hY
    obtain ⟨kb, hkb⟩ := Ev.rounds (impl_begins_ev T f.f0 (by omega))
    have HKB := Aside0.mk hkb
    have HRT := Aside0.mk hrt
    have HCT := Aside0.mk hct
    have HRF := Aside0.mk hrf
    have HCF := Aside0.mk hcf
    have HFL := Aside0.mk hfl
    have q0 := eq_true p0
    have q1 := eq_true hi
    have bi : i ≤ 1000000000000 := by omega
    have bp : p ≤ 23 := by have := HP.out; omega
    have bf : f.f0.length ≤ 5 := hfl.2
    have HIL := Aside0.mk (show i + 1 ≤ L.length by omega)
    have HSI := Aside0.mk (show p ≤ S.length by have := HP.out; omega)
    have HTL := Aside0.mk hTl
    have cR0 : wr.cell? ⟨R, 0, none⟩ = some (.slice (some ad) L.length c0) := (blk_cell HR.out.blk 0).trans rfl
    have cR1 : wr.cell? ⟨R, 1, none⟩ = some (.slice A1 S.length c1) := (blk_cell HR.out.blk 1).trans rfl
    have HXX := Aside0.mk hX
    have HYY := Aside0.mk hY
    clear hi p0 hf hdr hfl hX hY hT hTl hi3 hs3 hz3 hy3 hrt hct hrf hcf hkb i3
    go_upto_region 10 with (first
     | ((with_reducible refine gate_dst (N := 11) rfl ?_); refine box_event ?hg (N := 11) ?hd (cs := #[.slice none 0 0, .int .i64 0]) (t := 55) ?hr ?_; (case hd => rfl); (case hg => rfl); (case hr => first | (go_simp; done) | (go_simp; rfl)); intro g11 hg w12 hbox hb; have HK11 := Aside0.mk hbox; have HB12 := Aside0.mk hb; have N11 := Aside0.mk (show wr.heap.size ≤ g11 from (by rw [hg]; exact Nat.le_refl _)); have cz0 : w12.cell? ⟨g11, 0, none⟩ = some (.slice none 0 0) := (blk_cell HK11.out 0).trans rfl; have cz1 : w12.cell? ⟨g11, 1, none⟩ = some (.int .i64 0) := (blk_cell HK11.out 1).trans rfl; have fz0 := blk_frozen HK11.out 0; have fz1 := blk_frozen HK11.out 1; clear hg hbox hb))
    have WB : Aside0 (((w12.setCell ⟨g11, 0, none⟩ (.slice Af f.f0.length cf)).setCell ⟨g11, 1, none⟩ (.int .i64 f.f1)).heap[g11]? = some (.cells #[.slice Af f.f0.length cf, .int .i64 f.f1] 55 (0, 0))) := ⟨blk_put (cs := #[.slice Af f.f0.length cf, .int .i64 0]) (blk_put (cs := #[.slice none 0 0, .int .i64 0]) HK11.out 0 _ rfl) 1 _ rfl⟩
    have HBA : Aside0 (Below wr.heap.size wr ((w12.setCell ⟨g11, 0, none⟩ (.slice Af f.f0.length cf)).setCell ⟨g11, 1, none⟩ (.int .i64 f.f1))) := ⟨below_set (below_set HB12.out N11.out) N11.out⟩
    clear HK11 HB12 cz0 cz1 fz0 fz1 ux0 ux1
    generalize ((w12.setCell ⟨g11, 0, none⟩ (.slice Af f.f0.length cf)).setCell ⟨g11, 1, none⟩ (.int .i64 f.f1)) = wA at WB HBA ⊢
    have a0 := pw_cell_below HBA.out cR1
    have a1 : wA.cell? ⟨g11, 0, none⟩ = some (.slice Af f.f0.length cf) := (blk_cell WB.out 0).trans rfl
    clear cR0 cR1
    have HRA := Aside0.mk (HR.out.kept HBA.out)
    have HKA := Aside0.mk (HII.out _ _ _ HKP.out (Kept.of_below HBA.out _))
    have HGA := Aside0.mk (And.intro (blk_below HG.out.1 HBA.out) (blk_below HG.out.2 HBA.out))
    have HRTA := Aside0.mk (Kd.C_below HRT.out HRA.out.below)
    have HRFA := Aside0.mk (Kd.C_below HRF.out HBA.out)
    cases hb : isPre f.f0 T
    ·
     rw [hb] at HKB HXX HYY
     have NX : Aside0 (L.length - (i + 1) < gk ∧ i + 1 ≤ L.length ∧ rdA (rdO L) T (L.drop (i + 1)) acc = rdO L T ∧ hist ++ rdC (rdO L) T ((i + 1 : Nat) : Int) (L.drop (i + 1)) = h0 ++ rdCalls L T) := ⟨by have := HX.out.1; have := HIL.out; omega, HIL.out, by have := HXX.out; simpa using this, by have := HYY.out; simpa using this⟩
     clear hb
     go_quiet ((go_at_call 72; ((with_reducible refine (impl_begins.calls kb _ _ T _ _ f.f0 false _ ?side1 ?side2 ?side3 ?side4 HKB.out).mono ?_); (case side1 => repeat (first | exact HRTA.out | (with_reducible refine Kd.C_drewN ?_ _))); (case side2 => exact HCT.out); (case side3 => repeat (first | exact HRFA.out | (with_reducible refine Kd.C_drewN ?_ _))); (case side4 => exact HCF.out); rintro e w' ⟨rfl, ⟨nd, rfl⟩⟩; (first | exact ⟨rfl, _, World.drewN_drewN _ _ _⟩ | exact ⟨rfl, _, Eq.trans (World.drewN_drewN _ _ _) (congrArg (World.drewN _) (Nat.add_assoc _ _ _))⟩))))
     go_wp2
     go_roundg (L.length - (i + 1))
     case measure => exact NX.out.1
     case rel => exact ⟨i + 1, acc, hist, by simp, ⟨rfl, NX.out.2.1, by rw [← HTT.out]; exact NX.out.2.2.1, by rw [← HTT.out]; exact NX.out.2.2.2⟩, HGA, ⟨HRA.out.kept (pw_below_drewN (Below.refl _ _) _)⟩, ⟨HII.out _ _ _ HKA.out (Kept.drewN (Kept.refl _ _) _)⟩⟩
    ·
     rw [hb] at HKB HXX HYY
     have hpl := isPre_len hb
     have hp' : p + f.f0.length ≤ S.length := by have := HTL.out; have := HSI.out; omega
     obtain ⟨O, hO⟩ : ∃ O, O = rdO L (T.drop f.f0.length) := ⟨_, rfl⟩
     have hdd : S.drop (p + f.f0.length) = T.drop f.f0.length := by rw [HTT.out, List.drop_drop]
     have HC := Aside0.mk (show ∀ w, RdSt w0 w L S (some ad) c0 A1 c1 R M → Calls Try.prog 78 #[.pointer (some ⟨R, 0, none⟩), .int .i64 ((p : Int) + (f.f0.length : Int)), .nilFunc] w fun e w' => e = .returned (.agg #[.int .i64 O.f0, .int .i64 O.f1, .int .i64 O.f2]) ∧ RdSt w0 w' L S (some ad) c0 A1 c1 R M ∧ Kept w w' (fun k => k = M) from fun w h => by
      have h1 := HFL.out.1
      have h2 := HP.out
      have := HNIL.out S.length (p + f.f0.length) w hp' (by omega) h
      rw [hdd, ← hO, Int.natCast_add] at this
      exact this)
     have hX := HXX.out
     rw [if_pos rfl, ← hO] at hX
     have hY := HYY.out
     rw [if_pos rfl, ← hO] at hY
     have HX2 := Aside0.mk hX
     have HY2 := Aside0.mk hY
     clear hb hpl hO hdd hX hY hp'
     go_quiet ((go_at_call 72; ((with_reducible refine (impl_begins.calls kb _ _ T _ _ f.f0 true _ ?side1 ?side2 ?side3 ?side4 HKB.out).mono ?_); (case side1 => repeat (first | exact HRTA.out | (with_reducible refine Kd.C_drewN ?_ _))); (case side2 => exact HCT.out); (case side3 => repeat (first | exact HRFA.out | (with_reducible refine Kd.C_drewN ?_ _))); (case side4 => exact HCF.out); rintro e w' ⟨rfl, ⟨nd, rfl⟩⟩; (first | exact ⟨rfl, _, World.drewN_drewN _ _ _⟩ | exact ⟨rfl, _, Eq.trans (World.drewN_drewN _ _ _) (congrArg (World.drewN _) (Nat.add_assoc _ _ _))⟩))))
     go_upto_region 12 with (first
      | (go_at_call 78; refine (HC.out _ (HRA.out.kept (pw_below_drewN (Below.refl _ _) _))).mono ?_; rintro e wB ⟨rfl, hstB, hkB⟩; have HRB := Aside0.mk hstB; have hkB' : Kept wA wB (fun k => k = M) := hkB; have HKB2 := Aside0.mk hkB'; clear hstB hkB hkB')
      | ((with_reducible refine gate_dst (N := 12) rfl ?_); refine box_event ?hg (N := 12) ?hd (cs := #[.int .i64 0, .int .i64 0, .int .i64 0]) (t := 109) ?hr ?_; (case hd => rfl); (case hg => rfl); (case hr => first | (go_simp; done) | (go_simp; rfl)); intro g12 hg w13 hbox hb; have HK12 := Aside0.mk hbox; have HB13 := Aside0.mk hb; have N12 := Aside0.mk (show wB.heap.size ≤ g12 from (by rw [hg]; exact Nat.le_refl _)); have cz0 : w13.cell? ⟨g12, 0, none⟩ = some (.int .i64 0) := (blk_cell HK12.out 0).trans rfl; have cz1 : w13.cell? ⟨g12, 1, none⟩ = some (.int .i64 0) := (blk_cell HK12.out 1).trans rfl; have cz2 : w13.cell? ⟨g12, 2, none⟩ = some (.int .i64 0) := (blk_cell HK12.out 2).trans rfl; have fz0 := blk_frozen HK12.out 0; have fz1 := blk_frozen HK12.out 1; have fz2 := blk_frozen HK12.out 2; clear hg hbox hb))
     have E12 : Aside0 ((((w13.setCell ⟨g12, 0, none⟩ (.int .i64 O.f0)).setCell ⟨g12, 1, none⟩ (.int .i64 O.f1)).setCell ⟨g12, 2, none⟩ (.int .i64 O.f2)).heap[g12]? = some (.cells #[.int .i64 O.f0, .int .i64 O.f1, .int .i64 O.f2] 109 (0, 0))) := ⟨blk_put (cs := #[.int .i64 O.f0, .int .i64 O.f1, .int .i64 0]) (blk_put (cs := #[.int .i64 O.f0, .int .i64 0, .int .i64 0]) (blk_put (cs := #[.int .i64 0, .int .i64 0, .int .i64 0]) HK12.out 0 _ rfl) 1 _ rfl) 2 _ rfl⟩
     have HBC : Aside0 (Below wB.heap.size wB (((w13.setCell ⟨g12, 0, none⟩ (.int .i64 O.f0)).setCell ⟨g12, 1, none⟩ (.int .i64 O.f1)).setCell ⟨g12, 2, none⟩ (.int .i64 O.f2))) := ⟨below_set (below_set (below_set HB13.out N12.out) N12.out) N12.out⟩
     clear HK12 HB13 cz0 cz1 cz2 fz0 fz1 fz2 a0 a1
     generalize (((w13.setCell ⟨g12, 0, none⟩ (.int .i64 O.f0)).setCell ⟨g12, 1, none⟩ (.int .i64 O.f1)).setCell ⟨g12, 2, none⟩ (.int .i64 O.f2)) = wC at E12 HBC ⊢
     have n9 := HRA.out.ne HGA.out.1
     have n6 := HRA.out.ne HGA.out.2
     have n11 := HRA.out.ne WB.out
     have HGC := Aside0.mk (And.intro (blk_below (blk_kept HGA.out.1 HKB2.out n9) HBC.out) (blk_below (blk_kept HGA.out.2 HKB2.out n6) HBC.out))
     have WBC := Aside0.mk (blk_below (blk_kept WB.out HKB2.out n11) HBC.out)
     have HRC := Aside0.mk (HRB.out.kept HBC.out)
     have HKC := Aside0.mk (HII.out _ _ _ (HII.out _ _ _ HKA.out (HKB2.out.mono (fun k hk => by subst hk; exact HRA.out.nsc))) (Kept.of_below HBC.out _))
     clear n9 n6 n11
     have k0 : wC.cell? ⟨g12, 0, none⟩ = some (.int .i64 O.f0) := (blk_cell E12.out 0).trans rfl
     have k1 : wC.cell? ⟨g12, 1, none⟩ = some (.int .i64 O.f1) := (blk_cell E12.out 1).trans rfl
     have k2 : wC.cell? ⟨g12, 2, none⟩ = some (.int .i64 O.f2) := (blk_cell E12.out 2).trans rfl
     have k3 : wC.cell? ⟨g9, 0, none⟩ = some (.int .i64 acc.f0) := (blk_cell HGC.out.1 0).trans rfl
     have k4 : wC.cell? ⟨g9, 1, none⟩ = some (.int .i64 acc.f1) := (blk_cell HGC.out.1 1).trans rfl
     have k5 : wC.cell? ⟨g9, 2, none⟩ = some (.int .i64 acc.f2) := (blk_cell HGC.out.1 2).trans rfl
     have k6 : wC.cell? ⟨g11, 0, none⟩ = some (.slice Af f.f0.length cf) := (blk_cell WBC.out 0).trans rfl
     have k7 : wC.cell? ⟨g11, 1, none⟩ = some (.int .i64 f.f1) := (blk_cell WBC.out 1).trans rfl
     by_cases hz : O.f0 = 0
     ·
      have hX := HX2.out
      rw [if_pos hz] at hX
      have hY := HY2.out
      rw [if_pos hz] at hY
      have NX : Aside0 (L.length - (i + 1) < gk ∧ i + 1 ≤ L.length ∧ rdA (rdO L) T (L.drop (i + 1)) acc = rdO L T ∧ hist ++ rdC (rdO L) T ((i + 1 : Nat) : Int) (L.drop (i + 1)) = h0 ++ rdCalls L T) := ⟨by have := HX.out.1; have := HIL.out; omega, HIL.out, hX, by simpa using hY⟩
      have hzz : (O.f0 == 0) = true := by rw [beq_iff_eq]; exact hz
      clear hX hY hz
      go_wp2
      go_roundg (L.length - (i + 1))
      case measure => exact NX.out.1
      case rel => exact ⟨i + 1, acc, hist, by simp, ⟨rfl, NX.out.2.1, by rw [← HTT.out]; exact NX.out.2.2.1, by rw [← HTT.out]; exact NX.out.2.2.2⟩, HGC, HRC, HKC⟩
     ·
      have hX := HX2.out
      rw [if_neg hz] at hX
      have hY := HY2.out
      rw [if_neg hz] at hY
      have NX : Aside0 (L.length - (i + 1) < gk ∧ i + 1 ≤ L.length ∧ rdA (rdO L) T (L.drop (i + 1)) (outW acc f O) = rdO L T ∧ (hist ++ [((i : Int), O)]) ++ rdC (rdO L) T ((i + 1 : Nat) : Int) (L.drop (i + 1)) = h0 ++ rdCalls L T) := ⟨by have := HX.out.1; have := HIL.out; omega, HIL.out, hX, by rw [← hY]; simp⟩
      have hzz : (O.f0 == 0) = false := by rw [beq_eq_false_iff_ne]; exact hz
      clear hX hY hz
      have HCALL := Aside0.mk (HCC.out wC hist (i : Int) O HRC.out HKC.out (by omega) (by have := HIL.out; omega) (hist_len HX.out.2.2.2))
      have s9 := nsc_of HGC.out.1 (by decide)
      have s6 := nsc_of HGC.out.2 (by decide)
      have s11 := nsc_of WBC.out (by decide)
      have s12 := nsc_of E12.out (by decide)
      go_upto_region 15 with (go_at_call 80; refine HCALL.out.mono ?_; rintro e wX ⟨rfl, hstX, hIX, hkX⟩; have HRX := Aside0.mk hstX; have HIX := Aside0.mk hIX; have HGX := Aside0.mk (And.intro (blk_kept HGC.out.1 hkX s9) (blk_kept HGC.out.2 hkX s6)); have WBX := Aside0.mk (blk_kept WBC.out hkX s11); have E12X := Aside0.mk (blk_kept E12.out hkX s12); clear hstX hIX hkX)
      clear k0 k1 k2 k3 k4 k5 k6 k7 s9 s6 s11 s12
      have k0 : wX.cell? ⟨g12, 0, none⟩ = some (.int .i64 O.f0) := (blk_cell E12X.out 0).trans rfl
      have k1 : wX.cell? ⟨g12, 1, none⟩ = some (.int .i64 O.f1) := (blk_cell E12X.out 1).trans rfl
      have k2 : wX.cell? ⟨g12, 2, none⟩ = some (.int .i64 O.f2) := (blk_cell E12X.out 2).trans rfl
      have k3 : wX.cell? ⟨g9, 0, none⟩ = some (.int .i64 acc.f0) := (blk_cell HGX.out.1 0).trans rfl
      have k4 : wX.cell? ⟨g9, 1, none⟩ = some (.int .i64 acc.f1) := (blk_cell HGX.out.1 1).trans rfl
      have k5 : wX.cell? ⟨g9, 2, none⟩ = some (.int .i64 acc.f2) := (blk_cell HGX.out.1 2).trans rfl
      have k6 : wX.cell? ⟨g11, 0, none⟩ = some (.slice Af f.f0.length cf) := (blk_cell WBX.out 0).trans rfl
      have k7 : wX.cell? ⟨g11, 1, none⟩ = some (.int .i64 f.f1) := (blk_cell WBX.out 1).trans rfl
      go_wp2_with (go_at_call 106; refine (impl_outcome_with_calls acc f Af f.f0.length cf O _).mono ?_; rintro e wD ⟨rfl, hbD⟩; have HBD := Aside0.mk hbD; have HGD := Aside0.mk (And.intro (blk_below HGX.out.1 hbD) (blk_below HGX.out.2 hbD)); have m0 : wD.cell? ⟨g9, 0, none⟩ = some (.int .i64 acc.f0) := (blk_cell HGD.out.1 0).trans rfl; have m1 : wD.cell? ⟨g9, 1, none⟩ = some (.int .i64 acc.f1) := (blk_cell HGD.out.1 1).trans rfl; have m2 : wD.cell? ⟨g9, 2, none⟩ = some (.int .i64 acc.f2) := (blk_cell HGD.out.1 2).trans rfl; have fm0 := blk_frozen HGD.out.1 0; have fm1 := blk_frozen HGD.out.1 1; have fm2 := blk_frozen HGD.out.1 2; clear hbD)
      go_roundg (L.length - (i + 1))
      case measure => exact NX.out.1
      case rel =>
       have nR : g9 ≠ R := blk_ne HGD.out.1 (HRX.out.kept HBD.out).blk (by decide)
       have nM : g9 ≠ M := (HRX.out.kept HBD.out).ne HGD.out.1
       have nB : w0.heap.size ≤ g9 := Nat.le_trans HST.out.below.size N9.out
       refine ⟨i + 1, outW acc f O, hist ++ [((i : Int), O)], by simp, ⟨rfl, NX.out.2.1, by rw [← HTT.out]; exact NX.out.2.2.1, by rw [← HTT.out]; exact NX.out.2.2.2⟩, ⟨blk_put (cs := #[.int .i64 (outW acc f O).f0, .int .i64 (outW acc f O).f1, .int .i64 acc.f2]) (blk_put (cs := #[.int .i64 (outW acc f O).f0, .int .i64 acc.f1, .int .i64 acc.f2]) (blk_put (cs := #[.int .i64 acc.f0, .int .i64 acc.f1, .int .i64 acc.f2]) HGD.out.1 0 _ rfl) 1 _ rfl) 2 _ rfl, ?_⟩, ⟨(((HRX.out.kept HBD.out).set nB nR nM _ _).set nB nR nM _ _).set nB nR nM _ _⟩, ⟨HII.out _ _ _ (HII.out _ _ _ HIX.out (Kept.of_below HBD.out _)) ((((Kept.refl _ _).setCell (.inl (nsc_of HGD.out.1 (by decide))) _).setCell (.inl (nsc_of HGD.out.1 (by decide))) _).setCell (.inl (nsc_of HGD.out.1 (by decide))) _)⟩⟩
       exact blk_far (blk_far (blk_far HGD.out.2 NE9.out _) NE9.out _) NE9.out _
   ·
    have d1 : decide ((i : Int) < (L.length : Int)) = false := decide_eq_false hi
    have d1' : decide (i < L.length) = false := decide_eq_false (by omega)
    have hacc : acc = rdO L (S.drop p) := by
     have h1 := HX.out.2.2.1
     have h2 := HX.out.2.1
     rw [List.drop_eq_nil_of_le (show L.length ≤ i by omega)] at h1
     exact h1
    have HACC := Aside0.mk hacc
    have HEND : Aside0 (hist = h0 ++ rdCalls L (S.drop p)) := ⟨by
     have h1 := HX.out.2.2.2
     rw [List.drop_eq_nil_of_le (show L.length ≤ i by omega)] at h1
     simpa [rdC] using h1⟩
    have NSM := Aside0.mk HR.out.nsc
    obtain ⟨F2, hF2, hF2'⟩ := HR.out.memo
    obtain ⟨es, ck, hput, hmf⟩ := (MapFn.move (w' := wr.drew) hF2 rfl).put Try.underlying132 Try.underlying3 (p : Int) (outV acc)
    have HRM : Aside0 (RdSt w0 (ChangeMaps.setBlock wr.drew M (.map es ck)) L S A0 c0 A1 c1 R M) := ⟨⟨below_setBlock (below_drew HR.out.below) HMR.out.1, blk_setBlock (w := wr.drew) HR.out.blk HMR.out.2.2, _, hmf, by
     intro k v hk
     by_cases e : k = (p : Int)
     ·
      rw [if_pos e] at hk
      cases hk
      exact ⟨p, e, HP.out, by rw [hacc]⟩
     ·
      rw [if_neg e] at hk
      exact hF2' k v hk⟩⟩
    have HKM : Aside0 (I (ChangeMaps.setBlock wr.drew M (.map es ck)) hist) := ⟨HII.out _ _ _ HKP.out (kept_setBlock (w := wr) (W := wr.drew) (Kept.refl _ _) (.inl NSM.out))⟩
    have n9 := HR.out.ne HG.out.1
    have n6 := HR.out.ne HG.out.2
    have HGM := Aside0.mk (And.intro (blk_setBlock (w := wr.drew) (o' := .map es ck) HG.out.1 n9) (blk_setBlock (w := wr.drew) (o' := .map es ck) HG.out.2 n6))
    have cR2 : wr.cell? ⟨R, 2, none⟩ = some (.map (some M)) := (blk_cell HR.out.blk 2).trans rfl
    have k3 : wr.cell? ⟨g9, 0, none⟩ = some (.int .i64 acc.f0) := (blk_cell HG.out.1 0).trans rfl
    have k4 : wr.cell? ⟨g9, 1, none⟩ = some (.int .i64 acc.f1) := (blk_cell HG.out.1 1).trans rfl
    have k5 : wr.cell? ⟨g9, 2, none⟩ = some (.int .i64 acc.f2) := (blk_cell HG.out.1 2).trans rfl
    unfold outV at hput
    generalize (ChangeMaps.setBlock wr.drew M (.map es ck)) = wM at HRM HKM HGM hput
    have j3 : wM.cell? ⟨g9, 0, none⟩ = some (.int .i64 acc.f0) := (blk_cell HGM.out.1 0).trans rfl
    have j4 : wM.cell? ⟨g9, 1, none⟩ = some (.int .i64 acc.f1) := (blk_cell HGM.out.1 1).trans rfl
    have j5 : wM.cell? ⟨g9, 2, none⟩ = some (.int .i64 acc.f2) := (blk_cell HGM.out.1 2).trans rfl
    have j0 : wM.cell? ⟨g6, 0, none⟩ = some (.int .i64 0) := (blk_cell HGM.out.2 0).trans rfl
    have j1 : wM.cell? ⟨g6, 1, none⟩ = some (.int .i64 0) := (blk_cell HGM.out.2 1).trans rfl
    have j2 : wM.cell? ⟨g6, 2, none⟩ = some (.int .i64 0) := (blk_cell HGM.out.2 2).trans rfl
    have f0 := blk_frozen HGM.out.2 0
    have f1 := blk_frozen HGM.out.2 1
    have f2 := blk_frozen HGM.out.2 2
    clear hF2 hF2' hmf hacc hi n9 n6
    go_wp2
    go_region
    go_wp2
    refine bodyPost_ret (results_cell_row rfl _ _ g6 109 #[.int .i64 acc.f0, .int .i64 acc.f1, .int .i64 acc.f2] (0, 0) _ rfl (blk_put (cs := #[.int .i64 acc.f0, .int .i64 acc.f1, .int .i64 0]) (blk_put (cs := #[.int .i64 acc.f0, .int .i64 0, .int .i64 0]) (blk_put (cs := #[.int .i64 0, .int .i64 0, .int .i64 0]) HGM.out.2 0 _ rfl) 1 _ rfl) 2 _ rfl) Try.underlying109 rfl (by kernel_rfl)) rfl ?_
    have nR : g6 ≠ R := blk_ne HGM.out.2 HRM.out.blk (by decide)
    have nM : g6 ≠ M := HRM.out.ne HGM.out.2
    have nB : w0.heap.size ≤ g6 := Nat.le_trans HST.out.below.size N6.out
    exact ⟨by rw [← HACC.out]; rfl, ((HRM.out.set nB nR nM _ _).set nB nR nM _ _).set nB nR nM _ _, by rw [← HEND.out]; exact HII.out _ _ _ HKM.out ((((Kept.refl _ _).setCell (.inl (nsc_of HGM.out.2 (by decide))) _).setCell (.inl (nsc_of HGM.out.2 (by decide))) _).setCell (.inl (nsc_of HGM.out.2 (by decide))) _)⟩
/-- What is called is so. -/
theorem rdC_mem {rec : List Int → OutC} {s : List Int} {L : List S55} : ∀ (l : List S55) (q : Nat), l = L.drop q → ∀ {i : Int} {o : OutC}, (i, o) ∈ rdC rec s (q : Int) l → 0 ≤ i ∧ i < (L.length : Int) ∧ isPre (rd_T55 L i).f0 s = true ∧ o = rec (s.drop (rd_T55 L i).f0.length) ∧ o.f0 ≠ 0
 | [], q, _, i, o, h => by simp [rdC] at h
 | f :: fs, q, hq, i, o, h => by
  have hlt : q < L.length := by
   rcases Nat.lt_or_ge q L.length with h | h
   ·
    exact h
   ·
    rw [List.drop_eq_nil_of_le h] at hq; cases hq
  have hf : f = rd_T55 L (q : Int) ∧ fs = L.drop (q + 1) := by
   rw [List.drop_eq_getElem_cons hlt] at hq
   refine ⟨?_, (List.cons.inj hq).2⟩
   unfold rd_T55
   rw [Int.toNat_natCast, List.getD_eq_getElem?_getD, List.getElem?_eq_getElem hlt]
   exact (List.cons.inj hq).1
  have e2 : ((q : Int) + 1) = ((q + 1 : Nat) : Int) := by omega
  simp only [rdC] at h
  rw [e2] at h
  by_cases hp : isPre f.f0 s = true
  ·
   rw [if_pos hp] at h
   by_cases hz : (rec (s.drop f.f0.length)).f0 = 0
   ·
    rw [if_pos hz] at h
    exact rdC_mem fs (q + 1) hf.2 h
   ·
    rw [if_neg hz] at h
    rcases List.mem_cons.1 h with h | h
    ·
     cases h
     rw [← hf.1]
     exact ⟨by omega, by omega, hp, rfl, hz⟩
    ·
     exact rdC_mem fs (q + 1) hf.2 h
  ·
   rw [if_neg hp] at h
   exact rdC_mem fs (q + 1) hf.2 h

def bestF (L : List S55) : List (Int × OutC) → Int × Int → Int × Int
 | [], s => s
 | (i, o) :: r, (b, l) => bestF L r (if b < 0 ∨ wrap64 ((rd_T55 L i).f1 + o.f1) < l then (i, wrap64 ((rd_T55 L i).f1 + o.f1)) else (b, l))
theorem bestF_snoc (L : List S55) : ∀ (h : List (Int × OutC)) (i : Int) (o : OutC) (s : Int × Int), bestF L (h ++ [(i, o)]) s = (if (bestF L h s).1 < 0 ∨ wrap64 ((rd_T55 L i).f1 + o.f1) < (bestF L h s).2 then (i, wrap64 ((rd_T55 L i).f1 + o.f1)) else bestF L h s)
 | [], i, o, (b, l) => rfl
 | (j, q) :: r, i, o, (b, l) => by
  simp only [List.cons_append, bestF]
  exact bestF_snoc L r i o _
def bestGo (L : List S55) : Nat → List Int → List Int
 | 0, _ => []
 | n + 1, s => if s = [] then [] else (bestF L (rdCalls L s) (-1, 0)).1 :: bestGo L n (s.drop (rd_T55 L (bestF L (rdCalls L s) (-1, 0)).1).f0.length)
def fBest (L : List S55) (S : List Int) : List Int × Bool := if okR L S = true then (if (rdO L S).f0 = 0 then ([], false) else (bestGo L S.length S, true)) else ([], false)
theorem rdC_nil {rec : List Int → OutC} {s : List Int} : ∀ (l : List S55) (i : Int) (acc : OutC), rdC rec s i l = [] → rdA rec s l acc = acc
 | [], _, _, _ => rfl
 | f :: fs, i, acc, h => by
  simp only [rdC] at h
  simp only [rdA]
  by_cases hp : isPre f.f0 s = true
  ·
   rw [if_pos hp] at h ⊢
   by_cases hz : (rec (s.drop f.f0.length)).f0 = 0
   ·
    rw [if_pos hz] at h ⊢
    exact rdC_nil fs _ acc h
   ·
    rw [if_neg hz] at h; cases h
  ·
   rw [if_neg hp] at h ⊢
   exact rdC_nil fs _ acc h
theorem bestF_mem (L : List S55) : ∀ (h : List (Int × OutC)) (s : Int × Int), (∀ x ∈ h, 0 ≤ x.1) → (0 ≤ s.1 → bestF L h s = s ∨ ∃ x ∈ h, (bestF L h s).1 = x.1) ∧ (s.1 < 0 → h ≠ [] → ∃ x ∈ h, (bestF L h s).1 = x.1)
 | [], s, _ => ⟨fun _ => .inl rfl, fun _ h => absurd rfl h⟩
 | (i, o) :: r, (b, l), hx => by
  have hi : 0 ≤ i := hx _ List.mem_cons_self
  have hr := fun x hm => hx x (List.mem_cons_of_mem _ hm)
  simp only [bestF]
  refine ⟨fun hb => ?_, fun hb _ => ?_⟩
  ·
   by_cases hc : b < 0 ∨ wrap64 ((rd_T55 L i).f1 + o.f1) < l
   ·
    rw [if_pos hc]
    rcases (bestF_mem L r (i, wrap64 ((rd_T55 L i).f1 + o.f1)) hr).1 hi with h | ⟨x, h1, h2⟩
    ·
     exact .inr ⟨(i, o), List.mem_cons_self, by rw [h]⟩
    ·
     exact .inr ⟨x, List.mem_cons_of_mem _ h1, h2⟩
   ·
    rw [if_neg hc]
    rcases (bestF_mem L r (b, l) hr).1 hb with h | ⟨x, h1, h2⟩
    ·
     exact .inl h
    ·
     exact .inr ⟨x, List.mem_cons_of_mem _ h1, h2⟩
  ·
   rw [if_pos (.inl hb)]
   rcases (bestF_mem L r (i, wrap64 ((rd_T55 L i).f1 + o.f1)) hr).1 hi with h | ⟨x, h1, h2⟩
   ·
    exact ⟨(i, o), List.mem_cons_self, by rw [h]⟩
   ·
    exact ⟨x, List.mem_cons_of_mem _ h1, h2⟩
theorem best_ok {L : List S55} (hL : ∀ f ∈ L, 1 ≤ f.f0.length) {s : List Int} (hs : s ≠ []) (hm : (rdO L s).f0 ≠ 0) :
 ∃ b o, (bestF L (rdCalls L s) (-1, 0)).1 = b ∧ (b, o) ∈ rdCalls L s ∧ 0 ≤ b ∧ b < (L.length : Int) ∧ isPre (rd_T55 L b).f0 s = true ∧ (rdO L (s.drop (rd_T55 L b).f0.length)).f0 ≠ 0 ∧ 1 ≤ (rd_T55 L b).f0.length := by
 have hcl : rdCalls L s = rdC (rdO L) s ((0 : Nat) : Int) L := if_neg hs
 have hmem : ∀ {i : Int} {o : OutC}, (i, o) ∈ rdCalls L s → _ := fun {i o} h => rdC_mem L 0 rfl (hcl ▸ h)
 have hne : rdCalls L s ≠ [] := by
  intro h
  rw [hcl] at h
  have := rdC_nil (rec := rdO L) L _ ⟨0, 0, 0⟩ h
  rw [rdO_step hL hs, this] at hm
  exact hm rfl
 obtain ⟨⟨i, o⟩, h1, h2⟩ := (bestF_mem L (rdCalls L s) (-1, 0) (fun x hx => (hmem (i := x.1) (o := x.2) hx).1)).2 (by decide) hne
 obtain ⟨a1, a2, a3, a4, a5⟩ := hmem h1
 exact ⟨i, o, h2, h1, a1, a2, a3, by rw [← a4]; exact a5, hL _ (rd_mem a1 a2)⟩
theorem bestGo_more {L : List S55} (hL : ∀ f ∈ L, 1 ≤ f.f0.length) : ∀ (n m : Nat) (s : List Int), s.length ≤ n → s.length ≤ m → (rdO L s).f0 ≠ 0 → bestGo L n s = bestGo L m s
 | 0, m, s, h, _, _ => by
  obtain rfl : s = [] := List.eq_nil_of_length_eq_zero (by omega)
  cases m <;> simp [bestGo]
 | n + 1, 0, s, _, h, _ => by
  obtain rfl : s = [] := List.eq_nil_of_length_eq_zero (by omega)
  simp [bestGo]
 | n + 1, m + 1, s, h, h', hm => by
  simp only [bestGo]
  by_cases hs : s = []
  ·
   rw [if_pos hs, if_pos hs]
  ·
   rw [if_neg hs, if_neg hs]
   obtain ⟨b, o, h1, _, _, _, h5, h6, h7⟩ := best_ok hL hs hm
   rw [h1]
   have hl := isPre_len h5
   rw [bestGo_more hL n m _ (by rw [List.length_drop]; omega) (by rw [List.length_drop]; omega) h6]

/-- What a best reading's closure works on: the list's box, the best, the least, and the reading so far beside them. -/
structure BI (L : List S55) (A0 : Option Addr) (c0 : Nat) (B F1 F2 F3 : Nat) (v : Value) (X : List Int) (w : World) (h : List (Int × OutC)) : Prop where
 b1 : B ≤ F1
 b2 : B ≤ F2
 b3 : B ≤ F3
 n23 : F2 ≠ F3
 bw : B ≤ w.heap.size
 k1 : w.heap[F1]? = some (.cells #[.slice A0 L.length c0] 38 (0, 0))
 k2 : w.heap[F2]? = some (.cells #[.int .i64 (bestF L h (-1, 0)).1] 3 (0, 0))
 k3 : w.heap[F3]? = some (.cells #[.int .i64 (bestF L h (-1, 0)).2] 3 (0, 0))
 row : Kd.R (Kd.int .i64) 3 w B (fun k => k ≠ F2 ∧ k ≠ F3) v X
theorem row_move' {B : Nat} {w w' : World} {ok : Nat → Prop} {v : Value} {xs : List Int} (h : Kd.R (Kd.int .i64) 3 w B ok v xs) (hk : Kept w w' (fun k => ¬ SCb w k)) : Kd.R (Kd.int .i64) 3 w' B ok v xs := by
 refine Kd.R_mono (Kd.R_kept (Kd.R_bound h) hk (fun k hk hn => hn ?_)) (fun _ hk => hk.1)
 obtain ⟨_, _, _, q, hq, cells, hc⟩ := hk
 have e : q = 3 := by simpa [Kd.int, Kd.scalar] using hq
 subst e
 exact ⟨cells, _, _, hc, by decide, by decide, by decide⟩
theorem BI.move {L : List S55} {A0 : Option Addr} {c0 B F1 F2 F3 : Nat} {v : Value} {X : List Int} {w w' : World} {h : List (Int × OutC)} (hi : BI L A0 c0 B F1 F2 F3 v X w h) (hk : Kept w w' (fun k => ¬ SCb w k)) : BI L A0 c0 B F1 F2 F3 v X w' h :=
 ⟨hi.b1, hi.b2, hi.b3, hi.n23, Nat.le_trans hi.bw hk.1, blk_kept hi.k1 hk (fun hn => hn ⟨_, _, _, hi.k1, by decide, by decide, by decide⟩), blk_kept hi.k2 hk (fun hn => hn ⟨_, _, _, hi.k2, by decide, by decide, by decide⟩), blk_kept hi.k3 hk (fun hn => hn ⟨_, _, _, hi.k3, by decide, by decide, by decide⟩), row_move' hi.row hk⟩
set_option maxHeartbeats 4000000 in
set_option maxRecDepth 100000 in
theorem impl_FormulasBest1_calls {w0 w : World} {L : List S55} {S : List Int} {A0 : Option Addr} {c0 : Nat} {A1 : Option Addr} {c1 : Nat} {R M F1 F2 F3 : Nat} {v : Value} {X : List Int} (hr0 : Kd.C k55 w0 A0 L.length L) (hs : RdSt w0 w L S A0 c0 A1 c1 R M) (h : List (Int × OutC)) (i : Int) (o : OutC) (hi : BI L A0 c0 w0.heap.size F1 F2 F3 v X w h) (h0 : 0 ≤ i) (h1 : i < (L.length : Int)) :
 Calls Try.prog 80 #[.int .i64 i, .agg #[.int .i64 o.f0, .int .i64 o.f1, .int .i64 o.f2], .pointer (some ⟨F1, 0, none⟩), .pointer (some ⟨F2, 0, none⟩), .pointer (some ⟨F3, 0, none⟩)] w fun e w' => e = .returned (.tuple #[]) ∧ RdSt w0 w' L S A0 c0 A1 c1 R M ∧ BI L A0 c0 w0.heap.size F1 F2 F3 v X w' (h ++ [(i, o)]) ∧ Kept w w' (SCb w) := by
 have hu1 := Try.underlying109
 have hu2 := Try.underlying55
 have HS := Aside0.mk hs
 have HI := Aside0.mk hi
 have hsn := bestF_snoc L h i o (-1, 0)
 obtain ⟨ad, Af, cf, e0, ux0, ux1, hcf, hrf⟩ := at_T55 (Kd.C_below hr0 hs.below) i h0 h1
 subst e0
 obtain ⟨f, hf⟩ : ∃ f, f = rd_T55 L i := ⟨_, rfl⟩
 rw [← hf] at ux0 ux1 hsn
 obtain ⟨b, l, hbl⟩ : ∃ b l, bestF L h (-1, 0) = (b, l) := ⟨_, _, rfl⟩
 have hbl2 := hbl
 rw [hbl] at hsn
 simp only [] at hsn
 have q0 := eq_true h0
 have q1 := eq_true h1
 have K1 := Aside0.mk hi.k1
 have K2 := hi.k2
 have K3 := hi.k3
 rw [hbl] at K2 K3
 have K2 := Aside0.mk K2
 have K3 := Aside0.mk K3
 have U1 := Aside0.mk ux1
 obtain ⟨W, hW⟩ : ∃ W, W = wrap64 (f.f1 + o.f1) := ⟨_, rfl⟩
 rw [← hW] at hsn
 have hWW := (i64_w (f.f1 + o.f1)).trans hW.symm
 have HW := Aside0.mk hWW
 have HV := Aside0.mk hW.symm
 have SC2 := Aside0.mk (show SCb w F2 from ⟨_, _, _, hi.k2, by decide, by decide, by decide⟩)
 have SC3 := Aside0.mk (show SCb w F3 from ⟨_, _, _, hi.k3, by decide, by decide, by decide⟩)
 clear hs hi hf hcf hrf ux0 ux1 hbl hW hWW
 by_cases hc : b < 0 ∨ W < l
 ·
  rw [if_pos hc] at hsn
  have HSN := Aside0.mk hsn
  have hcases : decide (b < 0) = true ∨ (decide (b < 0) = false ∧ decide (W < l) = true) := by
   by_cases h : b < 0
   ·
    exact .inl (decide_eq_true h)
   ·
    exact .inr ⟨decide_eq_false h, decide_eq_true (hc.resolve_left h)⟩
  clear hc hsn hbl2
  rcases hcases with hd | ⟨hd, hd2⟩
  all_goals
   go_enter Try.func80, Try.ntmps80
   go_upto_region 1 with (first
    | ((with_reducible refine gate_dst (N := 6) rfl ?_); refine box_event ?hg (N := 6) ?hd (cs := #[.int .i64 o.f0, .int .i64 o.f1, .int .i64 o.f2]) (t := 109) ?hr ?_; (case hd => rfl); (case hg => rfl); (case hr => first | (go_simp; done) | (go_simp; rfl)); intro g6 hg w1 hbox hb; have HBL := Aside0.mk hb; have j1 : w1.cell? ⟨g6, 1, none⟩ = some (.int .i64 o.f1) := (blk_cell hbox 1).trans rfl; have c1_ : w1.cell? ⟨F1, 0, none⟩ = some (.slice (some ad) L.length c0) := (blk_cell (blk_below K1.out hb) 0).trans rfl; have c2_ : w1.cell? ⟨F2, 0, none⟩ = some (.int .i64 b) := (blk_cell (blk_below K2.out hb) 0).trans rfl; have c3_ : w1.cell? ⟨F3, 0, none⟩ = some (.int .i64 l) := (blk_cell (blk_below K3.out hb) 0).trans rfl; have u1_ := pw_cell_below hb U1.out; have f2_ := blk_frozen (blk_below K2.out hb) 0; have f3_ := blk_frozen (blk_below K3.out hb) 0; clear hg hbox hb)
    | fail)
   (try simp only [Act.put, List.setIfInBounds_toArray, List.set_cons_zero, List.set_cons_succ])
   have n23 := HI.out.n23
   have n32 := Ne.symm n23
   go_quiet (fail)
   first | rw [HV.out] | rw [HW.out]
   go_wp2
   go_end0
   have hB1 : Below w.heap.size w (w1.drewN nq) := pw_below_drewN HBL.out _
   have hR1 := HI.out.move (Kept.of_below hB1 _)
   have k2 := hR1.k2
   have k3 := hR1.k3
   have hK : Kept w (((w1.drewN nq).setCell ⟨F2, 0, none⟩ (.int .i64 i)).setCell ⟨F3, 0, none⟩ (.int .i64 W)) (SCb w) := ((Kept.of_below hB1 _).setCell (.inl SC2.out) _).setCell (.inl SC3.out) _
   have hBB := below_set (j := 0) (v := .int .i64 W) (below_set (j := 0) (v := .int .i64 i) (below_then HS.out.below HI.out.bw hB1) HI.out.b2) HI.out.b3
   refine ⟨rfl, HS.out.keptSC hBB hK, ⟨HI.out.b1, HI.out.b2, HI.out.b3, n23, hBB.size, blk_far (blk_far hR1.k1 (blk_ne hR1.k1 k2 (by decide)) _) (blk_ne hR1.k1 k3 (by decide)) _, ?_, ?_, Kd.R_far (Kd.R_far hR1.row (p := ⟨F2, 0, none⟩) (fun k hk => hk.1) _) (p := ⟨F3, 0, none⟩) (fun k hk => hk.2) _⟩, hK⟩
   ·
    rw [HSN.out]
    exact blk_far (blk_put (cs := #[.int .i64 _]) k2 0 _ rfl) n23 _
   ·
    rw [HSN.out]
    exact blk_put (cs := #[.int .i64 _]) (blk_far k3 n32 _) 0 _ rfl
 ·
  rw [if_neg hc] at hsn
  have HSN := Aside0.mk hsn
  have HBL2 := Aside0.mk hbl2
  have hd : decide (b < 0) = false := decide_eq_false (fun h => hc (.inl h))
  have hd2 : decide (W < l) = false := decide_eq_false (fun h => hc (.inr h))
  clear hc hsn hbl2
  go_enter Try.func80, Try.ntmps80
  go_upto_region 1 with (first
   | ((with_reducible refine gate_dst (N := 6) rfl ?_); refine box_event ?hg (N := 6) ?hd (cs := #[.int .i64 o.f0, .int .i64 o.f1, .int .i64 o.f2]) (t := 109) ?hr ?_; (case hd => rfl); (case hg => rfl); (case hr => first | (go_simp; done) | (go_simp; rfl)); intro g6 hg w1 hbox hb; have HBL := Aside0.mk hb; have j1 : w1.cell? ⟨g6, 1, none⟩ = some (.int .i64 o.f1) := (blk_cell hbox 1).trans rfl; have c1_ : w1.cell? ⟨F1, 0, none⟩ = some (.slice (some ad) L.length c0) := (blk_cell (blk_below K1.out hb) 0).trans rfl; have c2_ : w1.cell? ⟨F2, 0, none⟩ = some (.int .i64 b) := (blk_cell (blk_below K2.out hb) 0).trans rfl; have c3_ : w1.cell? ⟨F3, 0, none⟩ = some (.int .i64 l) := (blk_cell (blk_below K3.out hb) 0).trans rfl; have u1_ := pw_cell_below hb U1.out; have f2_ := blk_frozen (blk_below K2.out hb) 0; have f3_ := blk_frozen (blk_below K3.out hb) 0; clear hg hbox hb)
   | fail)
  (try simp only [Act.put, List.setIfInBounds_toArray, List.set_cons_zero, List.set_cons_succ])
  have n23 := HI.out.n23
  have n32 := Ne.symm n23
  go_quiet (fail)
  first | rw [HV.out] | rw [HW.out]
  go_wp2
  go_end0
  have hB1 : Below w.heap.size w (w1.drewN nq) := pw_below_drewN HBL.out _
  have hR1 := HI.out.move (Kept.of_below hB1 _)
  have k2 := hR1.k2
  have k3 := hR1.k3
  have hK : Kept w (w1.drewN nq) (SCb w) := Kept.of_below hB1 _
  have hBB := below_then HS.out.below HI.out.bw hB1
  refine ⟨rfl, HS.out.keptSC hBB hK, ⟨HI.out.b1, HI.out.b2, HI.out.b3, n23, hBB.size, hR1.k1, by rw [HSN.out]; rw [HBL2.out] at k2; exact k2, by rw [HSN.out]; rw [HBL2.out] at k3; exact k3, hR1.row⟩, hK⟩

set_option maxHeartbeats 4000000 in
set_option maxRecDepth 100000 in
theorem impl_FormulasBest_calls (L : List S55) (S : List Int) (A0 : Option Addr) (c0 : Nat) (A1 : Option Addr) (c1 : Nat) (w : World) (hr0 : Kd.C k55 w A0 L.length L) (hc0 : L.length ≤ c0) (hr1 : Kd.C (Kd.int .i64) w A1 S.length S) (hc1 : S.length ≤ c1) (hL : ∀ x ∈ L, x.f0.length ≤ 1000000000000) (hS : S.length ≤ 1000000000000) :
 Calls Try.prog 29 #[.slice A0 L.length c0, .slice A1 S.length c1] w fun e w' => ∃ v, e = .returned (.tuple #[v, .bool (fBest L S).2]) ∧ Kd.R (Kd.int .i64) 3 w' w.heap.size (fun _ => True) v (fBest L S).1 ∧ Below w.heap.size w w' := by
 have hu1 := Try.underlying109
 have hu2 := Try.underlying55
 have hmf : ∀ (fn : Fn) (first cap : Array Value) (w : World), (Instr.makeFunc fn first cap).run Try.prog w = .ok (.func fn first cap) w := fun _ _ _ _ => rfl
 have HI := Aside0.mk info3
 have HR0 := Aside0.mk hr0
 have HR1 := Aside0.mk hr1
 have HCC := Aside0.mk (And.intro hc0 (And.intro hc1 (And.intro hL hS)))
 clear hr0 hr1 hc0 hc1 hL hS
 cases hok : okR L S
 ·
  have e : fBest L S = ([], false) := by unfold fBest; rw [hok]; rfl
  rw [e]
  have HOK := Aside0.mk hok
  clear hok e
  go_enter Try.func29, Try.ntmps29
  go_wp2_with (first
   | ((with_reducible refine gate_dst (N := 2) rfl ?_); refine box_event ?hg (N := 2) ?hd (cs := #[.slice A0 L.length c0]) (t := 38) ?hr ?_; (case hd => rfl); (case hg => rfl); (case hr => first | (go_simp; done) | (go_simp; rfl)); intro F1 hg w2 hbox hb; have HB2 := Aside0.mk hb; have k0 : w2.cell? ⟨F1, 0, none⟩ = some (.slice A0 L.length c0) := (blk_cell hbox 0).trans rfl; clear hg hbox hb)
   | (go_at_call 77; refine (impl_newReader_no (Kd.C_below HR0.out HB2.out) HCC.out.1 (Kd.C_below HR1.out HB2.out) HCC.out.2.1 HCC.out.2.2.1 HCC.out.2.2.2 HOK.out).mono ?_; rintro e w4 ⟨rfl, hb4⟩; have HB4 := Aside0.mk (below_step HB2.out hb4); clear hb4))
  go_ret2
  exact ⟨_, rfl, Kd.R_nil _ _ _ _ _, HB4.out⟩
 obtain ⟨l1, l2, l3⟩ := okR_lens hok
 have HOK := Aside0.mk hok
 have HLS := Aside0.mk (And.intro l1 (And.intro l2 l3))
 by_cases hm : (rdO L S).f0 = 0
 ·
  have e : fBest L S = ([], false) := by unfold fBest; rw [hok, if_pos rfl, if_pos hm]
  rw [e]
  obtain ⟨O, hO⟩ : ∃ O, O = rdO L S := ⟨_, rfl⟩
  rw [← hO] at hm
  have HO := Aside0.mk hO
  have hz : (O.f0 == 0) = true := by rw [beq_iff_eq]; exact hm
  have hfd : ∀ w, (Instr.field 109 (.agg #[.int .i64 O.f0, .int .i64 O.f1, .int .i64 O.f2]) 0).run Try.prog w = .ok (.int .i64 O.f0) w := fun _ => by kernel_rfl
  clear hok e l1 l2 l3 hm hO
  go_enter Try.func29, Try.ntmps29
  go_wp2_with (first
   | ((with_reducible refine gate_dst (N := 2) rfl ?_); refine box_event ?hg (N := 2) ?hd (cs := #[.slice A0 L.length c0]) (t := 38) ?hr ?_; (case hd => rfl); (case hg => rfl); (case hr => first | (go_simp; done) | (go_simp; rfl)); intro F1 hg w2 hbox hb; have HB2 := Aside0.mk hb; have k0 : w2.cell? ⟨F1, 0, none⟩ = some (.slice A0 L.length c0) := (blk_cell hbox 0).trans rfl; clear hg hbox hb)
   | (go_at_call 77; refine (impl_newReader_yes (Kd.C_below HR0.out HB2.out) HCC.out.1 (Kd.C_below HR1.out HB2.out) HCC.out.2.1 HCC.out.2.2.1 HCC.out.2.2.2 HOK.out).mono ?_; rintro e w4 ⟨R, M, rfl, hst, hM, hR, hRM⟩; have HX := Aside0.mk (impl_read_nil HR0.out HCC.out.1 HR1.out HCC.out.2.1 HLS.out.1 HLS.out.2.1 HLS.out.2.2 (Nat.le_trans HB2.out.size hM) (Nat.le_trans HB2.out.size hR) hRM S.length 0 w4 (Nat.zero_le _) (by omega) (hst.lower HB2.out)); simp only [List.drop_zero, Int.natCast_zero] at HX; rw [← HO.out] at HX; unfold outV at HX; clear hst hM hR hRM)
   | (go_at_call 78; refine HX.out.mono ?_; rintro e w5 ⟨rfl, hst, hk⟩; have HB := Aside0.mk hst.below; clear hst hk))
  go_ret2
  exact ⟨_, rfl, Kd.R_nil _ _ _ _ _, HB.out⟩
 ·
  have e : fBest L S = (bestGo L S.length S, true) := by unfold fBest; rw [hok, if_pos rfl, if_neg hm]
  rw [e]
  obtain ⟨G, hG⟩ : ∃ G, G = bestGo L S.length S := ⟨_, rfl⟩
  rw [← hG]
  have HG := Aside0.mk hG
  have HM0 := Aside0.mk hm
  obtain ⟨O, hO⟩ : ∃ O, O = rdO L S := ⟨_, rfl⟩
  rw [← hO] at hm
  have HO := Aside0.mk hO
  have hz : (O.f0 == 0) = false := by rw [beq_eq_false_iff_ne]; exact hm
  have hfd : ∀ w, (Instr.field 109 (.agg #[.int .i64 O.f0, .int .i64 O.f1, .int .i64 O.f2]) 0).run Try.prog w = .ok (.int .i64 O.f0) w := fun _ => by kernel_rfl
  clear hok e l1 l2 l3 hm hO hG
  go_enter Try.func29, Try.ntmps29
  go_wp2_with (first
   | ((with_reducible refine gate_dst (N := 2) rfl ?_); refine box_event ?hg (N := 2) ?hd (cs := #[.slice A0 L.length c0]) (t := 38) ?hr ?_; (case hd => rfl); (case hg => rfl); (case hr => first | (go_simp; done) | (go_simp; rfl)); intro F1 hg w2 hbox hb; have HB2 := Aside0.mk hb; have HK2 := Aside0.mk hbox; have NF1 := Aside0.mk (show w.heap.size ≤ F1 from (by rw [hg]; exact Nat.le_refl _)); have k0 : w2.cell? ⟨F1, 0, none⟩ = some (.slice A0 L.length c0) := (blk_cell hbox 0).trans rfl; clear hg hbox hb)
   | (go_at_call 77; refine (impl_newReader_yes (Kd.C_below HR0.out HB2.out) HCC.out.1 (Kd.C_below HR1.out HB2.out) HCC.out.2.1 HCC.out.2.2.1 HCC.out.2.2.2 HOK.out).mono ?_; rintro e w4 ⟨R, M, rfl, hst, hM, hR, hRM⟩; have HMR := Aside0.mk (And.intro (Nat.le_trans HB2.out.size hM) (And.intro (Nat.le_trans HB2.out.size hR) hRM)); have HK4 := Aside0.mk (blk_below HK2.out hst.below); have HX := Aside0.mk (impl_read_nil HR0.out HCC.out.1 HR1.out HCC.out.2.1 HLS.out.1 HLS.out.2.1 HLS.out.2.2 (Nat.le_trans HB2.out.size hM) (Nat.le_trans HB2.out.size hR) hRM S.length 0 w4 (Nat.zero_le _) (by omega) (hst.lower HB2.out)); simp only [List.drop_zero, Int.natCast_zero] at HX; rw [← HO.out] at HX; unfold outV at HX; have NM := Aside0.mk (show F1 ≠ M from (hst.lower HB2.out).ne HK4.out); clear hst hM hR hRM)
   | (go_at_call 78; refine HX.out.mono ?_; rintro e w5 ⟨rfl, hst, hk⟩; have HST5 := Aside0.mk hst; have HK5 := Aside0.mk (blk_kept HK4.out hk NM.out); clear hst hk)
   | ((with_reducible refine gate_dst (N := 26) rfl ?_); refine Kd.R_lit (Kd.int .i64) _ 3 ?hg (N := 26) ?hd (xs := ([] : List Int)) (inner := []) (ok := fun _ => True) (okp := fun _ => True) ?hr (Reps.none _ _) (fun _ hk => hk) trivial (Below.refl _ _) (Nat.le_refl _) (by simp) ?_; (case hd => rfl); (case hg => rfl); (case hr => first | (go_simp; done) | (go_simp; rfl)); intro v6 w6 ho6 hb6 _ _; have HO6 := Aside0.mk (Kd.R_lower ho6 HST5.out.below.size); have HST6 := Aside0.mk (HST5.out.kept hb6); have HK6 := Aside0.mk (blk_below HK5.out hb6); clear ho6 hb6))
  go_loopg [8, 9] S.length (fun kq v8 v9 w' => ∃ (p : Nat) (X : List Int) (vv : Value), vv = v8 ∧ v9 = .int .i64 (p : Int) ∧ Aside0 (kq = S.length - p ∧ p ≤ S.length ∧ (rdO L (S.drop p)).f0 ≠ 0 ∧ X ++ bestGo L (S.length - p) (S.drop p) = G ∧ X.length ≤ p) ∧ Aside0 (Kd.R (Kd.int .i64) 3 w' w.heap.size (fun _ => True) vv X) ∧ Aside0 (w'.heap[F1]? = some (.cells #[.slice A0 L.length c0] 38 (0, 0))) ∧ Aside0 (RdSt w w' L S A0 c0 A1 c1 R M))
  case atStart => exact ⟨0, [], _, rfl, rfl, ⟨by omega, Nat.zero_le _, by rw [List.drop_zero]; exact HM0.out, by rw [List.drop_zero]; exact HG.out.symm, Nat.le_refl _⟩, HO6, HK6, HST6⟩
  case round =>
   clear HO6 HK6 HST6 HX HM0 HG k0
   obtain ⟨p, X, v8, rfl, rfl, HXX, HRX, HK, HST⟩ := hrel
   have hLS1 := fun f hf => (HLS.out.1 f hf).1
   by_cases hp : (p : Int) < (S.length : Int)
   ·
    have d1 : decide ((p : Int) < (S.length : Int)) = true := decide_eq_true hp
    have d2 : decide (p < S.length) = true := decide_eq_true (by omega)
    have hne : S.drop p ≠ [] := by
     intro h
     have := congrArg List.length h
     rw [List.length_drop, List.length_nil] at this
     omega
    obtain ⟨b, o, hb1, hb2, hb3, hb4, hb5, hb6, hb7⟩ := best_ok (fun f hf => (HLS.out.1 f hf).1) hne HXX.out.2.2.1
    have hpl := isPre_len hb5
    rw [List.length_drop] at hpl
    have hgo : X ++ [b] ++ bestGo L (S.length - (p + (rd_T55 L b).f0.length)) (S.drop (p + (rd_T55 L b).f0.length)) = G := by
     have h1 := HXX.out.2.2.2.1
     obtain ⟨m, hm⟩ : ∃ m, S.length - p = m + 1 := ⟨S.length - p - 1, by omega⟩
     rw [hm] at h1
     simp only [bestGo] at h1
     rw [if_neg hne, hb1, List.drop_drop] at h1
     rw [← h1, bestGo_more hLS1 (S.length - (p + (rd_T55 L b).f0.length)) m (S.drop (p + (rd_T55 L b).f0.length)) (by rw [List.length_drop]; omega) (by rw [List.length_drop]; omega) (by rw [← List.drop_drop]; exact hb6)]
     simp
    obtain ⟨ad, Af, cf, e0, ux0, ux1, hcf, hrf⟩ := at_T55 HR0.out b hb3 hb4
    subst e0
    obtain ⟨f, hf⟩ : ∃ f, f = rd_T55 L b := ⟨_, rfl⟩
    rw [← hf] at ux0 hgo hb5 hb6 hb7 hpl
    rw [List.drop_drop] at hb6
    have U0 := Aside0.mk ux0
    have hf5 := (HLS.out.1 f (by rw [hf]; exact rd_mem hb3 hb4)).2
    have NX : Aside0 (S.length - (p + f.f0.length) < gk ∧ p + f.f0.length ≤ S.length ∧ (rdO L (S.drop (p + f.f0.length))).f0 ≠ 0 ∧ X ++ [b] ++ bestGo L (S.length - (p + f.f0.length)) (S.drop (p + f.f0.length)) = G ∧ (X ++ [b]).length ≤ p + f.f0.length) := ⟨by have := HXX.out.1; omega, by omega, hb6, hgo, by rw [List.length_append, List.length_singleton]; have := HXX.out.2.2.2.2; omega⟩
    have HB1 := Aside0.mk hb1
    have bx : X.length ≤ 1000 := by have := HXX.out.2.2.2.2; have := HLS.out.2.2; omega
    have bp : p ≤ 23 := by have := HLS.out.2.2; omega
    have q0 := eq_true hb3
    have q1 := eq_true hb4
    have PS := Aside0.mk (show p ≤ S.length by omega)
    clear hne hb1 hb2 hb3 hb4 hb5 hb6 hb7 hpl hgo hf ux0 ux1 hcf hrf hp
    go_upto_region 8 with (first
     | ((with_reducible refine gate_dst (N := 10) rfl ?_); refine box_event ?hg (N := 10) ?hd (cs := #[.int .i64 0]) (t := 3) ?hr ?_; (case hd => rfl); (case hg => rfl); (case hr => first | (go_simp; done) | (go_simp; rfl)); intro F2 hg w7 hbox hb; have HB7 := Aside0.mk hb; have KF2 := Aside0.mk hbox; have NF2 := Aside0.mk (show wr.heap.size ≤ F2 from (by rw [hg]; exact Nat.le_refl _)); clear hg hbox hb)
     | ((with_reducible refine gate_dst (N := 11) rfl ?_); refine box_event ?hg (N := 11) ?hd (cs := #[.int .i64 0]) (t := 3) ?hr ?_; (case hd => rfl); (case hg => rfl); (case hr => first | (go_simp; done) | (go_simp; rfl)); intro F3 hg w8 hbox hb; have HB8 := Aside0.mk (below_step HB7.out hb); have KF2' := Aside0.mk (blk_below KF2.out hb); have KF3 := Aside0.mk hbox; have NF3 := Aside0.mk (show wr.heap.size ≤ F3 from (by rw [hg]; exact HB7.out.size)); have N23 := Aside0.mk (show F2 ≠ F3 from (by rw [hg]; exact Nat.ne_of_lt (blk_lt KF2.out))); have y2 : w8.cell? ⟨F2, 0, none⟩ = some (.int .i64 0) := (blk_cell KF2'.out 0).trans rfl; have y3 : w8.cell? ⟨F3, 0, none⟩ = some (.int .i64 0) := (blk_cell KF3.out 0).trans rfl; have g2 := blk_frozen KF2'.out 0; have g3 := blk_frozen KF3.out 0; have n23 := N23.out; have n32 := Ne.symm N23.out; clear hg hbox hb))
    have E2 : Aside0 (((w8.setCell ⟨F2, 0, none⟩ (.int .i64 (-1))).setCell ⟨F3, 0, none⟩ (.int .i64 0)).heap[F2]? = some (.cells #[.int .i64 (-1)] 3 (0, 0))) := ⟨blk_far (blk_put (cs := #[.int .i64 0]) KF2'.out 0 _ rfl) n23 _⟩
    have E3 : Aside0 (((w8.setCell ⟨F2, 0, none⟩ (.int .i64 (-1))).setCell ⟨F3, 0, none⟩ (.int .i64 0)).heap[F3]? = some (.cells #[.int .i64 0] 3 (0, 0))) := ⟨blk_put (cs := #[.int .i64 0]) (blk_far KF3.out n32 _) 0 _ rfl⟩
    have HBA : Aside0 (Below wr.heap.size wr ((w8.setCell ⟨F2, 0, none⟩ (.int .i64 (-1))).setCell ⟨F3, 0, none⟩ (.int .i64 0))) := ⟨below_set (below_set HB8.out NF2.out) NF3.out⟩
    clear KF2 KF2' KF3 HB7 HB8 y2 y3 g2 g3
    generalize ((w8.setCell ⟨F2, 0, none⟩ (.int .i64 (-1))).setCell ⟨F3, 0, none⟩ (.int .i64 0)) = wA at E2 E3 HBA ⊢
    have HSA := Aside0.mk (HST.out.kept HBA.out)
    have HBI := Aside0.mk (show BI L (some ad) c0 w.heap.size F1 F2 F3 v8 X wA [] from ⟨NF1.out, Nat.le_trans HST.out.below.size NF2.out, Nat.le_trans HST.out.below.size NF3.out, n23, HSA.out.below.size, blk_below HK.out HBA.out, E2.out, E3.out, Kd.R_below (Kd.R_mono (Kd.R_bound HRX.out) (fun k hk => ⟨by have := hk.2.2.1; have := NF2.out; omega, by have := hk.2.2.1; have := NF3.out; omega⟩)) HBA.out⟩)
    have HRE := Aside0.mk (impl_read_eachB HR0.out HCC.out.1 HR1.out HCC.out.2.1 HLS.out.1 HLS.out.2.1 HLS.out.2.2 HMR.out.1 HMR.out.2.1 HMR.out.2.2 (F1 := F1) (F2 := F2) (F3 := F3) [] (BI L (some ad) c0 w.heap.size F1 F2 F3 v8 X) (fun _ _ _ hi hk => hi.move hk) (fun w' h i o hs hi h0 h1 _ => impl_FormulasBest1_calls HR0.out hs h i o hi h0 h1) p wA PS.out HSA.out HBI.out)
    simp only [List.nil_append] at HRE
    clear HBI HSA E2 E3 HK HRX n23 n32
    go_upto_region 9 with (go_at_call 78; refine HRE.out.mono ?_; rintro e wB ⟨rfl, hst, hi⟩; have HSB := Aside0.mk hst; have HIB := Aside0.mk hi; clear hst hi)
    (try simp only [Act.put, List.setIfInBounds_toArray, List.set_cons_zero, List.set_cons_succ])
    have hk2 := HIB.out.k2
    rw [HB1.out] at hk2
    have KB2 := Aside0.mk hk2
    have c2 : wB.cell? ⟨F2, 0, none⟩ = some (.int .i64 b) := (blk_cell KB2.out 0).trans rfl
    have l2 : F2 < wB.heap.size := blk_lt KB2.out
    have l3 : F3 < wB.heap.size := blk_lt HIB.out.k3
    clear hk2
    go_upto_region 10 with ((with_reducible refine gate_builtin (b := .append) (xs := #[.tmp 35, .tmp 37]) rfl ?_); at_builtin; go_loud (refine Kd.R_append (Kd.int .i64) (w0 := w) w.heap.size rfl (.tmp 35) (.tmp 37) 46 3 (.int .i64 0) 8 rfl Try.underlying46 HI.out rfl (by decide) (by omega) v8 X b [.int .i64 b] (fun k => k ≠ F2 ∧ k ≠ F3) (fun _ => False) rfl rfl ?aP (fun _ hk => hk.elim) (fun k hk => ⟨by omega, by omega⟩) HIB.out.row HSB.out.below HSB.out.below.size (by omega) ?_); (case aP => exact rfl); intro v9 wC ho9 hb9 hg9 hat9; have HO9 := Aside0.mk (Kd.R_mono ho9 (fun _ _ => trivial) : Kd.R (Kd.int .i64) 3 wC w.heap.size (fun _ => True) v9 (X ++ [b])); have HB9 := Aside0.mk hb9; have HG9 := Aside0.mk hg9; clear ho9 hb9 hg9 hat9)
    (try simp only [Act.put, List.setIfInBounds_toArray, List.set_cons_zero, List.set_cons_succ])
    have KC1 := Aside0.mk (blk_grown HIB.out.k1 HG9.out (Kd.R_ne HIB.out.row HIB.out.k1 (by decide)))
    have KC2 := Aside0.mk (blk_grown KB2.out HG9.out (fun he => (HIB.out.row.1 F2 he.symm).1 rfl))
    have HSC : Aside0 (RdSt w wC L S (some ad) c0 A1 c1 R M) := ⟨by
     obtain ⟨Fm, hFm, hFm'⟩ := HSB.out.memo
     have hbw : w.heap.size ≤ wB.heap.size := HSB.out.below.size
     refine HSB.out.far HB9.out (HG9.out.block R (blk_lt HSB.out.blk) (Kd.R_ne HIB.out.row HSB.out.blk (by decide))) (HG9.out.block M hFm.lt (fun he => ?_))
     obtain ⟨_, _, _, q, _, cells, hc⟩ := (Kd.R_bound HIB.out.row).1 M he.symm
     obtain ⟨es, ck, hm, _⟩ := hFm
     rw [hm] at hc; cases hc⟩
    have c1_ : wC.cell? ⟨F1, 0, none⟩ = some (.slice (some ad) L.length c0) := (blk_cell KC1.out 0).trans rfl
    have c2_ : wC.cell? ⟨F2, 0, none⟩ = some (.int .i64 b) := (blk_cell KC2.out 0).trans rfl
    have u0_ := pw_cell_below HB9.out U0.out
    clear c2 l2 l3
    go_wp2
    go_roundg (S.length - (p + f.f0.length))
    case measure => exact NX.out.1
    case rel => exact ⟨p + f.f0.length, X ++ [b], _, rfl, by simp, ⟨rfl, NX.out.2⟩, HO9, KC1, HSC⟩
   ·
    have d1 : decide ((p : Int) < (S.length : Int)) = false := decide_eq_false hp
    have d2 : decide (p < S.length) = false := decide_eq_false (by omega)
    have hX : X = G := by
     have h1 := HXX.out.2.2.2.1
     have e : S.length - p = 0 := by omega
     rw [e] at h1
     simpa [bestGo] using h1
    subst hX
    clear hp
    go_wp2
    go_ret2
    exact ⟨_, rfl, HRX.out, HST.out.below⟩

end Go.Proofs.Ytnemcppllfmioaa.Pure
namespace Go.Proofs.Ytnemcppllfmioaa.PFnReadMelody
open Go.RowKit Go.Proofs.YtnemcppllfmioaaW.PrintWords Go.Proofs.YtnemcppllfmioaaW.PrintLast Go.Proofs.YtnemcppllfmioaaW.PrintMore
attribute [local go_sem] max2_int min2_int max_two min_two max_three min_three max_four min_four   -- for this text's walks alone
set_option linter.unusedVariables false
set_option linter.unusedSimpArgs false

def impl_MelodyValid.l0 : Nat → List (S64) → Int → Int → Option (Bool)
 | 0, _, _, _ => none
 | k + 1, x8, x9, x10 => if x10 < x9 then (if 0 ≤ x10 then (if x10 < (x8.length : Int) then ((impl_Tone_valid.f ((rd_T64 x8 x10).f0) ((rd_T64 x8 x10).f1)).bind fun t330 => (if t330 = true then (impl_MelodyValid.l0 k x8 x9 (wrap64 (x10 + 1))) else (some false))) else (none)) else (none)) else (some true)
def impl_MelodyValid.f (k : Nat) (l0 : List (S64)) : Option (Bool) := if (l0.length : Int) > 24 then (some false) else (impl_MelodyValid.l0 k l0 (l0.length : Int) 0)
set_option maxHeartbeats 8000000 in
set_option maxRecDepth 100000 in
theorem impl_MelodyValid.calls (k : Nat) (A0 : Option Addr) (c0 : Nat) (l0 : List (S64)) (r : Bool) (w : World) (hr0 : Kd.C k64 w A0 l0.length l0) (hc0 : l0.length ≤ c0) (h : impl_MelodyValid.f k l0 = some r) :
 Calls Try.prog 65 #[.slice A0 l0.length c0] w fun e w' => e = .returned (.bool r) ∧ Below w.heap.size w w' := by
 have hu64 := Try.underlying64; have HR0 := Aside0.mk hr0; have HC0 := Aside0.mk hc0; clear hr0 hc0; have HB := Aside0.mk (Below.refl w.heap.size w); have H : (if (l0.length : Int) > 24 then (some false) else (impl_MelodyValid.l0 k l0 (l0.length : Int) 0)) = some r := h; clear h; by_cases c2 : (l0.length : Int) > 24
 ·
  rw [if_pos c2] at H; have c2b0 : decide (24 < (l0.length : Int)) = true := decide_eq_true c2; have c2b1 : decide (24 < l0.length) = true := decide_eq_true (by omega); clear c2; obtain rfl := Option.some.inj H; go_enter Try.func65, Try.ntmps65
  go_wp2; go_ret
  exact ⟨by first | rfl | (simp [errW_none, errW_some] <;> rfl) | (simp [*, errW_none, errW_some] <;> rfl), by repeat (first | (with_reducible first | exact HB.out | apply below_alloc | apply pw_below_drewN | apply below_drew1) | exact HB.out)⟩
 ·
  rw [if_neg c2] at H; have c2b0 : decide (24 < (l0.length : Int)) = false := decide_eq_false c2; have c2b1 : decide (24 < l0.length) = false := decide_eq_false (by omega); clear c2; have H' := Aside0.mk H; clear H; go_enter Try.func65, Try.ntmps65
  go_wp2; go_loopg [10] k (fun kq v10 w' => ∃ (x10_1 : Int), v10 = .int .i64 x10_1 ∧ Aside0 (impl_MelodyValid.l0 kq l0 (l0.length : Int) x10_1 = some r) ∧ Aside0 (kq ≤ k) ∧ Aside0 (Below w.heap.size w w'))
  case atStart => exact ⟨(0), (by first | rfl | (simp; done) | (simp [*]; done)), H', ⟨Nat.le_refl _⟩, ⟨by repeat (first | (with_reducible first | exact HB.out | apply below_alloc | apply pw_below_drewN | apply below_drew1) | exact HB.out)⟩⟩
  case round =>
   clear H'; try clear c2
   try clear c2b0
   try clear c2b1
   try clear p2
   obtain ⟨x10_1, rfl, HA, HK1, HB⟩ := hrel; cases gk with
   | zero => exact absurd HA.out (by simp [impl_MelodyValid.l0])
   | succ k1 =>
    have H := HA.out; clear HA; simp only [impl_MelodyValid.l0] at H; by_cases c3 : x10_1 < (l0.length : Int)
    ·
     rw [if_pos c3] at H; have c3b0 : decide (x10_1 < (l0.length : Int)) = true := decide_eq_true c3; clear c3; by_cases c4 : 0 ≤ x10_1
     ·
      rw [if_pos c4] at H; have c4b0 : decide (0 ≤ x10_1) = true := decide_eq_true c4; clear c4; by_cases c5 : x10_1 < (l0.length : Int)
      ·
       rw [if_pos c5] at H; have c5b0 : decide (x10_1 < (l0.length : Int)) = true := decide_eq_true c5; clear c5; replace H := Option.bind_eq_some_iff.mp H; obtain ⟨t330, A60, H⟩ := H; replace H : (if t330 = true then (impl_MelodyValid.l0 k1 l0 (l0.length : Int) (wrap64 (x10_1 + 1))) else (some false)) = some r := H; have A6 := Aside0.mk A60; clear A60; by_cases c7 : t330 = true
       ·
        subst c7; have H1 : (impl_MelodyValid.l0 k1 l0 (l0.length : Int) (wrap64 (x10_1 + 1))) = some r := by rw [if_pos rfl] at H; exact H
        clear H; have H := H1; clear H1; have H' := Aside0.mk H; clear H; have p328 : 0 ≤ (x10_1 : Int) := of_decide_eq_true (by first | (with_reducible assumption) | assumption); have q328 : x10_1 < (l0.length : Int) := of_decide_eq_true (by first | (with_reducible assumption) | assumption); obtain ⟨ad328, e328, hx328_0, hx328_1⟩ := at_T64 HR0.out x10_1 p328 q328; cases e328; replace hx328_0 := (HB.out.cell (World.block_lt_of_cell? w _ hx328_0)).trans hx328_0; replace hx328_1 := (HB.out.cell (World.block_lt_of_cell? w _ hx328_1)).trans hx328_1; replace p328 := eq_true p328; replace q328 := eq_true q328; go_wp2_with (first | ((with_reducible refine gate_dst (N := 4) rfl ?_); refine box_event ?hg (N := 4) ?hd (cs := #[.int .i64 0, .bool false]) (t := 64) ?hr ?_; (case hd => rfl); (case hg => rfl); (case hr => first | (go_simp; done) | (go_simp; rfl)); intro gb329 hg w8 hbox hb; have n0_ := Aside0.mk (below_step (by repeat (first | (with_reducible first | exact HB.out | apply below_alloc | apply pw_below_drewN | apply below_drew1) | exact HB.out)) hb); have n1_ := Aside0.mk (hbox); have n2_ := Aside0.mk ((by rw [hg]; exact (below_size (by repeat (first | (with_reducible first | exact HB.out | apply below_alloc | apply pw_below_drewN | apply below_drew1) | exact HB.out))) : w.heap.size ≤ gb329)); have n3_ := Aside0.mk ((by rw [hg]; exact (below_size (by repeat (first | (with_reducible first | exact HB.out | apply below_alloc | apply pw_below_drewN | apply below_drew1) | exact HB.out))) : w.heap.size ≤ gb329)); clear HB; have HB := n0_; have BK329 := n1_; have GW329 := n2_; have GE329 := n3_; clear n0_ n1_ n2_ n3_; clear hb hbox hg; have hcz9_0 : w8.cell? ⟨gb329, 0, none⟩ = some (.int .i64 0) := (blk_cell BK329.out 0).trans rfl; have hcz9_1 : w8.cell? ⟨gb329, 1, none⟩ = some (.bool false) := (blk_cell BK329.out 1).trans rfl; have hfz9_0 := blk_frozen BK329.out 0; have hfz9_1 := blk_frozen BK329.out 1) | ((with_reducible refine gate_callee (f := 89) rfl ?_); refine goesL_ (some 15) rfl rfl Try.func89 (by kernel_rfl) rfl #[.agg #[.int .i64 ((rd_T64 l0 x10_1).f0), .bool ((rd_T64 l0 x10_1).f1)]] rfl (by (try simp only [List.map_toArray, List.map_cons, List.map_nil]); first | done | rfl | (simp only [List.length_drop, List.length_take]; rfl)) ?_; (with_reducible refine (impl_Tone_valid.calls ((rd_T64 l0 x10_1).f0) ((rd_T64 l0 x10_1).f1) true _ A6.out).mono ?_); rintro e w10 ⟨rfl, hb⟩; refine ⟨_, rfl, ?_⟩; have n0_ := Aside0.mk (blk_below (g := gb329) (o := .cells #[.int .i64 ((rd_T64 l0 x10_1).f0), .bool ((rd_T64 l0 x10_1).f1)] 64 (0, 0)) (by (with_reducible repeat (first | refine blk_drewN ?_ _ | refine blk_drew ?_ | refine blk_alloc ?_ _)); refine blk_put (cs := #[.int .i64 ((rd_T64 l0 x10_1).f0), .bool false]) ?_ 1 _ rfl; (with_reducible repeat (first | refine blk_drewN ?_ _ | refine blk_drew ?_ | refine blk_alloc ?_ _)); refine blk_put (cs := #[.int .i64 0, .bool false]) ?_ 0 _ rfl; (with_reducible repeat (first | refine blk_drewN ?_ _ | refine blk_drew ?_ | refine blk_alloc ?_ _)); exact BK329.out) hb); have n1_ := Aside0.mk (below_step (by repeat (first | (with_reducible first | exact HB.out | apply below_alloc | apply pw_below_drewN | apply below_drew1 | refine below_set ?_ GE329.out) | exact HB.out)) hb); clear BK329; clear HB; have BK329 := n0_; have HB := n1_; clear n0_ n1_; (try clear hb); (try clear hb2); (try clear hk); (try clear hi)))
        go_roundg k1
        case measure => have := HK1.out; omega
        case rel => exact ⟨(wrap64 (x10_1 + 1)), (by first | rfl | (simp; done) | (simp [*]; done)), H', ⟨by have := HK1.out; omega⟩, ⟨by repeat (first | (with_reducible first | exact HB.out | apply below_alloc | apply pw_below_drewN | apply below_drew1 | refine below_set ?_ GE329.out) | exact HB.out)⟩⟩
       ·
        replace c7 := Bool.eq_false_iff.mpr c7; subst c7; have H1 : (some false) = some r := by rw [if_neg (show ¬ (false = true) by decide)] at H; exact H
        clear H; have H := H1; clear H1; obtain rfl := Option.some.inj H; have p328 : 0 ≤ (x10_1 : Int) := of_decide_eq_true (by first | (with_reducible assumption) | assumption); have q328 : x10_1 < (l0.length : Int) := of_decide_eq_true (by first | (with_reducible assumption) | assumption); obtain ⟨ad328, e328, hx328_0, hx328_1⟩ := at_T64 HR0.out x10_1 p328 q328; cases e328; replace hx328_0 := (HB.out.cell (World.block_lt_of_cell? w _ hx328_0)).trans hx328_0; replace hx328_1 := (HB.out.cell (World.block_lt_of_cell? w _ hx328_1)).trans hx328_1; replace p328 := eq_true p328; replace q328 := eq_true q328; go_wp2_with (first | ((with_reducible refine gate_dst (N := 4) rfl ?_); refine box_event ?hg (N := 4) ?hd (cs := #[.int .i64 0, .bool false]) (t := 64) ?hr ?_; (case hd => rfl); (case hg => rfl); (case hr => first | (go_simp; done) | (go_simp; rfl)); intro gb329 hg w11 hbox hb; have n0_ := Aside0.mk (below_step (by repeat (first | (with_reducible first | exact HB.out | apply below_alloc | apply pw_below_drewN | apply below_drew1) | exact HB.out)) hb); have n1_ := Aside0.mk (hbox); have n2_ := Aside0.mk ((by rw [hg]; exact (below_size (by repeat (first | (with_reducible first | exact HB.out | apply below_alloc | apply pw_below_drewN | apply below_drew1) | exact HB.out))) : w.heap.size ≤ gb329)); have n3_ := Aside0.mk ((by rw [hg]; exact (below_size (by repeat (first | (with_reducible first | exact HB.out | apply below_alloc | apply pw_below_drewN | apply below_drew1) | exact HB.out))) : w.heap.size ≤ gb329)); clear HB; have HB := n0_; have BK329 := n1_; have GW329 := n2_; have GE329 := n3_; clear n0_ n1_ n2_ n3_; clear hb hbox hg; have hcz12_0 : w11.cell? ⟨gb329, 0, none⟩ = some (.int .i64 0) := (blk_cell BK329.out 0).trans rfl; have hcz12_1 : w11.cell? ⟨gb329, 1, none⟩ = some (.bool false) := (blk_cell BK329.out 1).trans rfl; have hfz12_0 := blk_frozen BK329.out 0; have hfz12_1 := blk_frozen BK329.out 1) | ((with_reducible refine gate_callee (f := 89) rfl ?_); refine goesL_ (some 15) rfl rfl Try.func89 (by kernel_rfl) rfl #[.agg #[.int .i64 ((rd_T64 l0 x10_1).f0), .bool ((rd_T64 l0 x10_1).f1)]] rfl (by (try simp only [List.map_toArray, List.map_cons, List.map_nil]); first | done | rfl | (simp only [List.length_drop, List.length_take]; rfl)) ?_; (with_reducible refine (impl_Tone_valid.calls ((rd_T64 l0 x10_1).f0) ((rd_T64 l0 x10_1).f1) false _ A6.out).mono ?_); rintro e w13 ⟨rfl, hb⟩; refine ⟨_, rfl, ?_⟩; have n0_ := Aside0.mk (blk_below (g := gb329) (o := .cells #[.int .i64 ((rd_T64 l0 x10_1).f0), .bool ((rd_T64 l0 x10_1).f1)] 64 (0, 0)) (by (with_reducible repeat (first | refine blk_drewN ?_ _ | refine blk_drew ?_ | refine blk_alloc ?_ _)); refine blk_put (cs := #[.int .i64 ((rd_T64 l0 x10_1).f0), .bool false]) ?_ 1 _ rfl; (with_reducible repeat (first | refine blk_drewN ?_ _ | refine blk_drew ?_ | refine blk_alloc ?_ _)); refine blk_put (cs := #[.int .i64 0, .bool false]) ?_ 0 _ rfl; (with_reducible repeat (first | refine blk_drewN ?_ _ | refine blk_drew ?_ | refine blk_alloc ?_ _)); exact BK329.out) hb); have n1_ := Aside0.mk (below_step (by repeat (first | (with_reducible first | exact HB.out | apply below_alloc | apply pw_below_drewN | apply below_drew1 | refine below_set ?_ GE329.out) | exact HB.out)) hb); clear BK329; clear HB; have BK329 := n0_; have HB := n1_; clear n0_ n1_; (try clear hb); (try clear hb2); (try clear hk); (try clear hi)))
        go_ret
        exact ⟨by first | rfl | (simp [errW_none, errW_some] <;> rfl) | (simp [*, errW_none, errW_some] <;> rfl), by repeat (first | (with_reducible first | exact HB.out | apply below_alloc | apply pw_below_drewN | apply below_drew1 | refine below_set ?_ GE329.out) | exact HB.out)⟩
      ·
       rw [if_neg c5] at H; exact absurd H (by simp)
     ·
      rw [if_neg c4] at H; exact absurd H (by simp)
    ·
     rw [if_neg c3] at H; have c3b0 : decide (x10_1 < (l0.length : Int)) = false := decide_eq_false c3; clear c3; obtain rfl := Option.some.inj H; go_wp2; go_ret
     exact ⟨by first | rfl | (simp [errW_none, errW_some] <;> rfl) | (simp [*, errW_none, errW_some] <;> rfl), by repeat (first | (with_reducible first | exact HB.out | apply below_alloc | apply pw_below_drewN | apply below_drew1) | exact HB.out)⟩

end Go.Proofs.Ytnemcppllfmioaa.PFnReadMelody
namespace Go.Proofs.Ytnemcppllfmioaa.PFnReadMelody
open Go.RowKit Go.Proofs.YtnemcppllfmioaaW.PrintWords Go.Proofs.YtnemcppllfmioaaW.PrintLast Go.Proofs.YtnemcppllfmioaaW.PrintMore
attribute [local go_sem] max2_int min2_int max_two min_two max_three min_three max_four min_four   -- for this text's walks alone
set_option linter.unusedVariables false
set_option linter.unusedSimpArgs false

def impl_ToneSteps.f (a0_0 : Int) (a0_1 : Bool) (a1_0 : Int) (a1_1 : Bool) : Option (Int × Bool) := (impl_Tone_valid.f a0_0 a0_1).bind fun t333 => (if t333 = true then ((impl_Tone_valid.f a1_0 a1_1).bind fun t334 => (if t334 = true then (some (wrap64 (a1_0 - a0_0), true)) else (some (0, false)))) else (some (0, false)))
set_option maxHeartbeats 8000000 in
set_option maxRecDepth 100000 in
theorem impl_ToneSteps.calls (a0_0 : Int) (a0_1 : Bool) (a1_0 : Int) (a1_1 : Bool) (r1 : Int) (r2 : Bool) (w : World) (h : impl_ToneSteps.f a0_0 a0_1 a1_0 a1_1 = some (r1, r2)) :
 Calls Try.prog 96 #[.agg #[.int .i64 a0_0, .bool a0_1], .agg #[.int .i64 a1_0, .bool a1_1]] w fun e w' => e = .returned (.tuple #[.int .i64 r1, .bool r2]) ∧ Below w.heap.size w w' := by
 have hu64 := Try.underlying64; have HB := Aside0.mk (Below.refl w.heap.size w); have H : ((impl_Tone_valid.f a0_0 a0_1).bind fun t333 => (if t333 = true then ((impl_Tone_valid.f a1_0 a1_1).bind fun t334 => (if t334 = true then (some (wrap64 (a1_0 - a0_0), true)) else (some (0, false)))) else (some (0, false)))) = some (r1, r2) := h; clear h; replace H := Option.bind_eq_some_iff.mp H; obtain ⟨t333, A30, H⟩ := H; replace H : (if t333 = true then ((impl_Tone_valid.f a1_0 a1_1).bind fun t334 => (if t334 = true then (some (wrap64 (a1_0 - a0_0), true)) else (some (0, false)))) else (some (0, false))) = some (r1, r2) := H; have A3 := Aside0.mk A30; clear A30; by_cases c4 : t333 = true
 ·
  subst c4; have H1 : ((impl_Tone_valid.f a1_0 a1_1).bind fun t334 => (if t334 = true then (some (wrap64 (a1_0 - a0_0), true)) else (some (0, false)))) = some (r1, r2) := by rw [if_pos rfl] at H; exact H
  clear H; have H := H1; clear H1; replace H := Option.bind_eq_some_iff.mp H; obtain ⟨t334, A50, H⟩ := H; replace H : (if t334 = true then (some (wrap64 (a1_0 - a0_0), true)) else (some (0, false))) = some (r1, r2) := H; have A5 := Aside0.mk A50; clear A50; by_cases c6 : t334 = true
  ·
   subst c6; have H1 : (some (wrap64 (a1_0 - a0_0), true)) = some (r1, r2) := by rw [if_pos rfl] at H; exact H
   clear H; have H := H1; clear H1; simp only [Option.some.injEq, Prod.mk.injEq] at H; obtain ⟨rfl, rfl⟩ := H; go_enter Try.func96, Try.ntmps96
   go_wp2_with (first | ((with_reducible refine gate_dst (N := 2) rfl ?_); refine box_event ?hg (N := 2) ?hd (cs := #[.int .i64 a0_0, .bool a0_1]) (t := 64) ?hr ?_; (case hd => rfl); (case hg => rfl); (case hr => first | (go_simp; done) | (go_simp; rfl)); intro gb331 hg w7 hbox hb; have n0_ := Aside0.mk (below_step (by repeat (first | (with_reducible first | exact HB.out | apply below_alloc | apply pw_below_drewN | apply below_drew1) | exact HB.out)) hb); have n1_ := Aside0.mk (hbox); have n2_ := Aside0.mk ((by rw [hg]; exact (below_size (by repeat (first | (with_reducible first | exact HB.out | apply below_alloc | apply pw_below_drewN | apply below_drew1) | exact HB.out))) : w.heap.size ≤ gb331)); have n3_ := Aside0.mk ((by rw [hg]; exact (below_size (by repeat (first | (with_reducible first | exact HB.out | apply below_alloc | apply pw_below_drewN | apply below_drew1) | exact HB.out))) : w.heap.size ≤ gb331)); clear HB; have HB := n0_; have BK331 := n1_; have GW331 := n2_; have GE331 := n3_; clear n0_ n1_ n2_ n3_; clear hb hbox hg) | ((with_reducible refine gate_dst (N := 3) rfl ?_); refine box_event ?hg (N := 3) ?hd (cs := #[.int .i64 a1_0, .bool a1_1]) (t := 64) ?hr ?_; (case hd => rfl); (case hg => rfl); (case hr => first | (go_simp; done) | (go_simp; rfl)); intro gb332 hg w8 hbox hb; have n0_ := Aside0.mk (blk_below (g := gb331) (o := .cells #[.int .i64 a0_0, .bool a0_1] 64 (0, 0)) (by (with_reducible repeat (first | refine blk_drewN ?_ _ | refine blk_drew ?_ | refine blk_alloc ?_ _)); exact BK331.out) hb); have n1_ := Aside0.mk (below_step (by repeat (first | (with_reducible first | exact HB.out | apply below_alloc | apply pw_below_drewN | apply below_drew1 | refine below_set ?_ GE331.out) | exact HB.out)) hb); have n2_ := Aside0.mk (hbox); have n3_ := Aside0.mk ((by rw [hg]; exact (below_size (by repeat (first | (with_reducible first | exact HB.out | apply below_alloc | apply pw_below_drewN | apply below_drew1 | refine below_set ?_ GE331.out) | exact HB.out))) : w.heap.size ≤ gb332)); have n4_ := Aside0.mk ((by rw [hg]; exact (below_size (by repeat (first | (with_reducible first | exact HB.out | apply below_alloc | apply pw_below_drewN | apply below_drew1 | refine below_set ?_ GE331.out) | exact HB.out))) : w.heap.size ≤ gb332)); have n5_ := Aside0.mk ((by rw [hg]; exact Nat.ne_of_lt (blk_lt (g := gb331) (o := .cells #[.int .i64 a0_0, .bool a0_1] 64 (0, 0)) (by (with_reducible repeat (first | refine blk_drewN ?_ _ | refine blk_drew ?_ | refine blk_alloc ?_ _)); exact BK331.out)) : gb331 ≠ gb332)); have n6_ := Aside0.mk ((by rw [hg]; exact Nat.ne_of_gt (blk_lt (g := gb331) (o := .cells #[.int .i64 a0_0, .bool a0_1] 64 (0, 0)) (by (with_reducible repeat (first | refine blk_drewN ?_ _ | refine blk_drew ?_ | refine blk_alloc ?_ _)); exact BK331.out)) : gb332 ≠ gb331)); clear BK331; clear HB; have BK331 := n0_; have HB := n1_; have BK332 := n2_; have GW332 := n3_; have GE332 := n4_; have NB331_332 := n5_; have NB332_331 := n6_; clear n0_ n1_ n2_ n3_ n4_ n5_ n6_; clear hb hbox hg; have hnb9 := NB331_332.out; have hnc9 := NB332_331.out; have hcz10_0 : w8.cell? ⟨gb331, 0, none⟩ = some (.int .i64 a0_0) := (blk_cell BK331.out 0).trans rfl; have hcz10_1 : w8.cell? ⟨gb331, 1, none⟩ = some (.bool a0_1) := (blk_cell BK331.out 1).trans rfl; have hfz10_0 := blk_frozen BK331.out 0; have hfz10_1 := blk_frozen BK331.out 1) | ((with_reducible refine gate_callee (f := 89) rfl ?_); refine goesL_ (some 7) rfl rfl Try.func89 (by kernel_rfl) rfl #[.agg #[.int .i64 a0_0, .bool a0_1]] rfl (by (try simp only [List.map_toArray, List.map_cons, List.map_nil]); first | done | rfl | (simp only [List.length_drop, List.length_take]; rfl)) ?_; (with_reducible refine (impl_Tone_valid.calls a0_0 a0_1 true _ A3.out).mono ?_); rintro e w11 ⟨rfl, hb⟩; refine ⟨_, rfl, ?_⟩; have n0_ := Aside0.mk (blk_below (g := gb331) (o := .cells #[.int .i64 a0_0, .bool a0_1] 64 (0, 0)) (by (with_reducible repeat (first | refine blk_drewN ?_ _ | refine blk_drew ?_ | refine blk_alloc ?_ _)); exact BK331.out) hb); have n1_ := Aside0.mk (blk_below (g := gb332) (o := .cells #[.int .i64 a1_0, .bool a1_1] 64 (0, 0)) (by (with_reducible repeat (first | refine blk_drewN ?_ _ | refine blk_drew ?_ | refine blk_alloc ?_ _)); exact BK332.out) hb); have n2_ := Aside0.mk (below_step (by repeat (first | (with_reducible first | exact HB.out | apply below_alloc | apply pw_below_drewN | apply below_drew1 | refine below_set ?_ GE331.out | refine below_set ?_ GE332.out) | exact HB.out)) hb); clear BK331; clear BK332; clear HB; have BK331 := n0_; have BK332 := n1_; have HB := n2_; clear n0_ n1_ n2_; (try clear hb); (try clear hb2); (try clear hk); (try clear hi); have hcz12_0 : w11.cell? ⟨gb332, 0, none⟩ = some (.int .i64 a1_0) := (blk_cell BK332.out 0).trans rfl; have hcz12_1 : w11.cell? ⟨gb332, 1, none⟩ = some (.bool a1_1) := (blk_cell BK332.out 1).trans rfl; have hfz12_0 := blk_frozen BK332.out 0; have hfz12_1 := blk_frozen BK332.out 1) | (go_at_call 89; (with_reducible refine (impl_Tone_valid.calls a1_0 a1_1 true _ A5.out).mono ?_); rintro e w13 ⟨rfl, hb⟩; have n0_ := Aside0.mk (blk_below (g := gb331) (o := .cells #[.int .i64 a0_0, .bool a0_1] 64 (0, 0)) (by (with_reducible repeat (first | refine blk_drewN ?_ _ | refine blk_drew ?_ | refine blk_alloc ?_ _)); exact BK331.out) hb); have n1_ := Aside0.mk (blk_below (g := gb332) (o := .cells #[.int .i64 a1_0, .bool a1_1] 64 (0, 0)) (by (with_reducible repeat (first | refine blk_drewN ?_ _ | refine blk_drew ?_ | refine blk_alloc ?_ _)); exact BK332.out) hb); have n2_ := Aside0.mk (below_step (by repeat (first | (with_reducible first | exact HB.out | apply below_alloc | apply pw_below_drewN | apply below_drew1 | refine below_set ?_ GE331.out | refine below_set ?_ GE332.out) | exact HB.out)) hb); clear BK331; clear BK332; clear HB; have BK331 := n0_; have BK332 := n1_; have HB := n2_; clear n0_ n1_ n2_; (try clear hb); (try clear hb2); (try clear hk); (try clear hi); have hcz14_0 : w13.cell? ⟨gb332, 0, none⟩ = some (.int .i64 a1_0) := (blk_cell BK332.out 0).trans rfl; have hcz14_1 : w13.cell? ⟨gb332, 1, none⟩ = some (.bool a1_1) := (blk_cell BK332.out 1).trans rfl; have hfz14_0 := blk_frozen BK332.out 0; have hfz14_1 := blk_frozen BK332.out 1; have hcz15_0 : w13.cell? ⟨gb331, 0, none⟩ = some (.int .i64 a0_0) := (blk_cell BK331.out 0).trans rfl; have hcz15_1 : w13.cell? ⟨gb331, 1, none⟩ = some (.bool a0_1) := (blk_cell BK331.out 1).trans rfl; have hfz15_0 := blk_frozen BK331.out 0; have hfz15_1 := blk_frozen BK331.out 1))
   go_ret2
   exact ⟨by first | rfl | (simp [errW_none, errW_some] <;> rfl) | (simp [*, errW_none, errW_some] <;> rfl), by repeat (first | (with_reducible first | exact HB.out | apply below_alloc | apply pw_below_drewN | apply below_drew1 | refine below_set ?_ GE331.out | refine below_set ?_ GE332.out) | exact HB.out)⟩
  ·
   replace c6 := Bool.eq_false_iff.mpr c6; subst c6; have H1 : (some (0, false)) = some (r1, r2) := by rw [if_neg (show ¬ (false = true) by decide)] at H; exact H
   clear H; have H := H1; clear H1; simp only [Option.some.injEq, Prod.mk.injEq] at H; obtain ⟨rfl, rfl⟩ := H; go_enter Try.func96, Try.ntmps96
   go_wp2_with (first | ((with_reducible refine gate_dst (N := 2) rfl ?_); refine box_event ?hg (N := 2) ?hd (cs := #[.int .i64 a0_0, .bool a0_1]) (t := 64) ?hr ?_; (case hd => rfl); (case hg => rfl); (case hr => first | (go_simp; done) | (go_simp; rfl)); intro gb331 hg w16 hbox hb; have n0_ := Aside0.mk (below_step (by repeat (first | (with_reducible first | exact HB.out | apply below_alloc | apply pw_below_drewN | apply below_drew1) | exact HB.out)) hb); have n1_ := Aside0.mk (hbox); have n2_ := Aside0.mk ((by rw [hg]; exact (below_size (by repeat (first | (with_reducible first | exact HB.out | apply below_alloc | apply pw_below_drewN | apply below_drew1) | exact HB.out))) : w.heap.size ≤ gb331)); have n3_ := Aside0.mk ((by rw [hg]; exact (below_size (by repeat (first | (with_reducible first | exact HB.out | apply below_alloc | apply pw_below_drewN | apply below_drew1) | exact HB.out))) : w.heap.size ≤ gb331)); clear HB; have HB := n0_; have BK331 := n1_; have GW331 := n2_; have GE331 := n3_; clear n0_ n1_ n2_ n3_; clear hb hbox hg) | ((with_reducible refine gate_dst (N := 3) rfl ?_); refine box_event ?hg (N := 3) ?hd (cs := #[.int .i64 a1_0, .bool a1_1]) (t := 64) ?hr ?_; (case hd => rfl); (case hg => rfl); (case hr => first | (go_simp; done) | (go_simp; rfl)); intro gb332 hg w17 hbox hb; have n0_ := Aside0.mk (blk_below (g := gb331) (o := .cells #[.int .i64 a0_0, .bool a0_1] 64 (0, 0)) (by (with_reducible repeat (first | refine blk_drewN ?_ _ | refine blk_drew ?_ | refine blk_alloc ?_ _)); exact BK331.out) hb); have n1_ := Aside0.mk (below_step (by repeat (first | (with_reducible first | exact HB.out | apply below_alloc | apply pw_below_drewN | apply below_drew1 | refine below_set ?_ GE331.out) | exact HB.out)) hb); have n2_ := Aside0.mk (hbox); have n3_ := Aside0.mk ((by rw [hg]; exact (below_size (by repeat (first | (with_reducible first | exact HB.out | apply below_alloc | apply pw_below_drewN | apply below_drew1 | refine below_set ?_ GE331.out) | exact HB.out))) : w.heap.size ≤ gb332)); have n4_ := Aside0.mk ((by rw [hg]; exact (below_size (by repeat (first | (with_reducible first | exact HB.out | apply below_alloc | apply pw_below_drewN | apply below_drew1 | refine below_set ?_ GE331.out) | exact HB.out))) : w.heap.size ≤ gb332)); have n5_ := Aside0.mk ((by rw [hg]; exact Nat.ne_of_lt (blk_lt (g := gb331) (o := .cells #[.int .i64 a0_0, .bool a0_1] 64 (0, 0)) (by (with_reducible repeat (first | refine blk_drewN ?_ _ | refine blk_drew ?_ | refine blk_alloc ?_ _)); exact BK331.out)) : gb331 ≠ gb332)); have n6_ := Aside0.mk ((by rw [hg]; exact Nat.ne_of_gt (blk_lt (g := gb331) (o := .cells #[.int .i64 a0_0, .bool a0_1] 64 (0, 0)) (by (with_reducible repeat (first | refine blk_drewN ?_ _ | refine blk_drew ?_ | refine blk_alloc ?_ _)); exact BK331.out)) : gb332 ≠ gb331)); clear BK331; clear HB; have BK331 := n0_; have HB := n1_; have BK332 := n2_; have GW332 := n3_; have GE332 := n4_; have NB331_332 := n5_; have NB332_331 := n6_; clear n0_ n1_ n2_ n3_ n4_ n5_ n6_; clear hb hbox hg; have hnb18 := NB331_332.out; have hnc18 := NB332_331.out; have hcz19_0 : w17.cell? ⟨gb331, 0, none⟩ = some (.int .i64 a0_0) := (blk_cell BK331.out 0).trans rfl; have hcz19_1 : w17.cell? ⟨gb331, 1, none⟩ = some (.bool a0_1) := (blk_cell BK331.out 1).trans rfl; have hfz19_0 := blk_frozen BK331.out 0; have hfz19_1 := blk_frozen BK331.out 1) | ((with_reducible refine gate_callee (f := 89) rfl ?_); refine goesL_ (some 7) rfl rfl Try.func89 (by kernel_rfl) rfl #[.agg #[.int .i64 a0_0, .bool a0_1]] rfl (by (try simp only [List.map_toArray, List.map_cons, List.map_nil]); first | done | rfl | (simp only [List.length_drop, List.length_take]; rfl)) ?_; (with_reducible refine (impl_Tone_valid.calls a0_0 a0_1 true _ A3.out).mono ?_); rintro e w20 ⟨rfl, hb⟩; refine ⟨_, rfl, ?_⟩; have n0_ := Aside0.mk (blk_below (g := gb331) (o := .cells #[.int .i64 a0_0, .bool a0_1] 64 (0, 0)) (by (with_reducible repeat (first | refine blk_drewN ?_ _ | refine blk_drew ?_ | refine blk_alloc ?_ _)); exact BK331.out) hb); have n1_ := Aside0.mk (blk_below (g := gb332) (o := .cells #[.int .i64 a1_0, .bool a1_1] 64 (0, 0)) (by (with_reducible repeat (first | refine blk_drewN ?_ _ | refine blk_drew ?_ | refine blk_alloc ?_ _)); exact BK332.out) hb); have n2_ := Aside0.mk (below_step (by repeat (first | (with_reducible first | exact HB.out | apply below_alloc | apply pw_below_drewN | apply below_drew1 | refine below_set ?_ GE331.out | refine below_set ?_ GE332.out) | exact HB.out)) hb); clear BK331; clear BK332; clear HB; have BK331 := n0_; have BK332 := n1_; have HB := n2_; clear n0_ n1_ n2_; (try clear hb); (try clear hb2); (try clear hk); (try clear hi); have hcz21_0 : w20.cell? ⟨gb332, 0, none⟩ = some (.int .i64 a1_0) := (blk_cell BK332.out 0).trans rfl; have hcz21_1 : w20.cell? ⟨gb332, 1, none⟩ = some (.bool a1_1) := (blk_cell BK332.out 1).trans rfl; have hfz21_0 := blk_frozen BK332.out 0; have hfz21_1 := blk_frozen BK332.out 1) | (go_at_call 89; (with_reducible refine (impl_Tone_valid.calls a1_0 a1_1 false _ A5.out).mono ?_); rintro e w22 ⟨rfl, hb⟩; have n0_ := Aside0.mk (blk_below (g := gb331) (o := .cells #[.int .i64 a0_0, .bool a0_1] 64 (0, 0)) (by (with_reducible repeat (first | refine blk_drewN ?_ _ | refine blk_drew ?_ | refine blk_alloc ?_ _)); exact BK331.out) hb); have n1_ := Aside0.mk (blk_below (g := gb332) (o := .cells #[.int .i64 a1_0, .bool a1_1] 64 (0, 0)) (by (with_reducible repeat (first | refine blk_drewN ?_ _ | refine blk_drew ?_ | refine blk_alloc ?_ _)); exact BK332.out) hb); have n2_ := Aside0.mk (below_step (by repeat (first | (with_reducible first | exact HB.out | apply below_alloc | apply pw_below_drewN | apply below_drew1 | refine below_set ?_ GE331.out | refine below_set ?_ GE332.out) | exact HB.out)) hb); clear BK331; clear BK332; clear HB; have BK331 := n0_; have BK332 := n1_; have HB := n2_; clear n0_ n1_ n2_; (try clear hb); (try clear hb2); (try clear hk); (try clear hi)))
   go_ret2
   exact ⟨by first | rfl | (simp [errW_none, errW_some] <;> rfl) | (simp [*, errW_none, errW_some] <;> rfl), by repeat (first | (with_reducible first | exact HB.out | apply below_alloc | apply pw_below_drewN | apply below_drew1 | refine below_set ?_ GE331.out | refine below_set ?_ GE332.out) | exact HB.out)⟩
 ·
  replace c4 := Bool.eq_false_iff.mpr c4; subst c4; have H1 : (some (0, false)) = some (r1, r2) := by rw [if_neg (show ¬ (false = true) by decide)] at H; exact H
  clear H; have H := H1; clear H1; simp only [Option.some.injEq, Prod.mk.injEq] at H; obtain ⟨rfl, rfl⟩ := H; go_enter Try.func96, Try.ntmps96
  go_wp2_with (first | ((with_reducible refine gate_dst (N := 2) rfl ?_); refine box_event ?hg (N := 2) ?hd (cs := #[.int .i64 a0_0, .bool a0_1]) (t := 64) ?hr ?_; (case hd => rfl); (case hg => rfl); (case hr => first | (go_simp; done) | (go_simp; rfl)); intro gb331 hg w23 hbox hb; have n0_ := Aside0.mk (below_step (by repeat (first | (with_reducible first | exact HB.out | apply below_alloc | apply pw_below_drewN | apply below_drew1) | exact HB.out)) hb); have n1_ := Aside0.mk (hbox); have n2_ := Aside0.mk ((by rw [hg]; exact (below_size (by repeat (first | (with_reducible first | exact HB.out | apply below_alloc | apply pw_below_drewN | apply below_drew1) | exact HB.out))) : w.heap.size ≤ gb331)); have n3_ := Aside0.mk ((by rw [hg]; exact (below_size (by repeat (first | (with_reducible first | exact HB.out | apply below_alloc | apply pw_below_drewN | apply below_drew1) | exact HB.out))) : w.heap.size ≤ gb331)); clear HB; have HB := n0_; have BK331 := n1_; have GW331 := n2_; have GE331 := n3_; clear n0_ n1_ n2_ n3_; clear hb hbox hg) | ((with_reducible refine gate_dst (N := 3) rfl ?_); refine box_event ?hg (N := 3) ?hd (cs := #[.int .i64 a1_0, .bool a1_1]) (t := 64) ?hr ?_; (case hd => rfl); (case hg => rfl); (case hr => first | (go_simp; done) | (go_simp; rfl)); intro gb332 hg w24 hbox hb; have n0_ := Aside0.mk (blk_below (g := gb331) (o := .cells #[.int .i64 a0_0, .bool a0_1] 64 (0, 0)) (by (with_reducible repeat (first | refine blk_drewN ?_ _ | refine blk_drew ?_ | refine blk_alloc ?_ _)); exact BK331.out) hb); have n1_ := Aside0.mk (below_step (by repeat (first | (with_reducible first | exact HB.out | apply below_alloc | apply pw_below_drewN | apply below_drew1 | refine below_set ?_ GE331.out) | exact HB.out)) hb); have n2_ := Aside0.mk (hbox); have n3_ := Aside0.mk ((by rw [hg]; exact (below_size (by repeat (first | (with_reducible first | exact HB.out | apply below_alloc | apply pw_below_drewN | apply below_drew1 | refine below_set ?_ GE331.out) | exact HB.out))) : w.heap.size ≤ gb332)); have n4_ := Aside0.mk ((by rw [hg]; exact (below_size (by repeat (first | (with_reducible first | exact HB.out | apply below_alloc | apply pw_below_drewN | apply below_drew1 | refine below_set ?_ GE331.out) | exact HB.out))) : w.heap.size ≤ gb332)); have n5_ := Aside0.mk ((by rw [hg]; exact Nat.ne_of_lt (blk_lt (g := gb331) (o := .cells #[.int .i64 a0_0, .bool a0_1] 64 (0, 0)) (by (with_reducible repeat (first | refine blk_drewN ?_ _ | refine blk_drew ?_ | refine blk_alloc ?_ _)); exact BK331.out)) : gb331 ≠ gb332)); have n6_ := Aside0.mk ((by rw [hg]; exact Nat.ne_of_gt (blk_lt (g := gb331) (o := .cells #[.int .i64 a0_0, .bool a0_1] 64 (0, 0)) (by (with_reducible repeat (first | refine blk_drewN ?_ _ | refine blk_drew ?_ | refine blk_alloc ?_ _)); exact BK331.out)) : gb332 ≠ gb331)); clear BK331; clear HB; have BK331 := n0_; have HB := n1_; have BK332 := n2_; have GW332 := n3_; have GE332 := n4_; have NB331_332 := n5_; have NB332_331 := n6_; clear n0_ n1_ n2_ n3_ n4_ n5_ n6_; clear hb hbox hg; have hnb25 := NB331_332.out; have hnc25 := NB332_331.out; have hcz26_0 : w24.cell? ⟨gb331, 0, none⟩ = some (.int .i64 a0_0) := (blk_cell BK331.out 0).trans rfl; have hcz26_1 : w24.cell? ⟨gb331, 1, none⟩ = some (.bool a0_1) := (blk_cell BK331.out 1).trans rfl; have hfz26_0 := blk_frozen BK331.out 0; have hfz26_1 := blk_frozen BK331.out 1) | ((with_reducible refine gate_callee (f := 89) rfl ?_); refine goesL_ (some 7) rfl rfl Try.func89 (by kernel_rfl) rfl #[.agg #[.int .i64 a0_0, .bool a0_1]] rfl (by (try simp only [List.map_toArray, List.map_cons, List.map_nil]); first | done | rfl | (simp only [List.length_drop, List.length_take]; rfl)) ?_; (with_reducible refine (impl_Tone_valid.calls a0_0 a0_1 false _ A3.out).mono ?_); rintro e w27 ⟨rfl, hb⟩; refine ⟨_, rfl, ?_⟩; have n0_ := Aside0.mk (blk_below (g := gb331) (o := .cells #[.int .i64 a0_0, .bool a0_1] 64 (0, 0)) (by (with_reducible repeat (first | refine blk_drewN ?_ _ | refine blk_drew ?_ | refine blk_alloc ?_ _)); exact BK331.out) hb); have n1_ := Aside0.mk (blk_below (g := gb332) (o := .cells #[.int .i64 a1_0, .bool a1_1] 64 (0, 0)) (by (with_reducible repeat (first | refine blk_drewN ?_ _ | refine blk_drew ?_ | refine blk_alloc ?_ _)); exact BK332.out) hb); have n2_ := Aside0.mk (below_step (by repeat (first | (with_reducible first | exact HB.out | apply below_alloc | apply pw_below_drewN | apply below_drew1 | refine below_set ?_ GE331.out | refine below_set ?_ GE332.out) | exact HB.out)) hb); clear BK331; clear BK332; clear HB; have BK331 := n0_; have BK332 := n1_; have HB := n2_; clear n0_ n1_ n2_; (try clear hb); (try clear hb2); (try clear hk); (try clear hi)))
  go_ret2
  exact ⟨by first | rfl | (simp [errW_none, errW_some] <;> rfl) | (simp [*, errW_none, errW_some] <;> rfl), by repeat (first | (with_reducible first | exact HB.out | apply below_alloc | apply pw_below_drewN | apply below_drew1 | refine below_set ?_ GE331.out | refine below_set ?_ GE332.out) | exact HB.out)⟩

end Go.Proofs.Ytnemcppllfmioaa.PFnReadMelody
namespace Go.Proofs.Ytnemcppllfmioaa.Pure
set_option linter.unusedVariables false
set_option linter.unusedSimpArgs false
open Go Go.RowKit Go.Proofs.Ytnemcppllfmioaa.PFnReadMelody Go.Proofs.YtnemcppllfmioaaW.PrintWords Go.Proofs.YtnemcppllfmioaaW.PrintLast Go.Proofs.YtnemcppllfmioaaW.PrintMore

def toneOk (t : S64) : Bool := decide (0 ≤ t.f0 ∧ t.f0 ≤ 20) && (!t.f1 || Int.tmod t.f0 7 == 2)
def melOk (m : List S64) : Bool := decide (m.length ≤ 24) && m.all toneOk
theorem melOk_len {m : List S64} (h : melOk m = true) : m.length ≤ 24 := by
 unfold melOk at h; simp at h; exact h.1
theorem impl_Tone_valid_eq (a : Int) (b : Bool) : impl_Tone_valid.f a b = some (toneOk ⟨a, b⟩) := by
 unfold impl_Tone_valid.f toneOk
 by_cases h : a ≥ 0
 ·
  by_cases h' : a ≤ 20
  ·
   cases b
   ·
    simp [h, h']
   ·
    simp [h, h']
  ·
   simp [h, h']
 ·
  have : ¬ (0 ≤ a) := h
  simp [this]

theorem impl_MelodyValid_ev (m : List S64) : Ev (fun k => impl_MelodyValid.f k m) (melOk m) := by
 unfold impl_MelodyValid.f
 by_cases h : (m.length : Int) > 24
 ·
  refine Ev.eqr (Ev.pos h (Ev.now _)) ?_
  unfold melOk
  rw [decide_eq_false (by omega)]; rfl
 ·
  refine Ev.eqr (Ev.neg h (r := m.all toneOk) ?_) (by unfold melOk; rw [decide_eq_true (by omega)]; rfl)
  have := Ev.over z64 m (fun k (_ : Unit) i => impl_MelodyValid.l0 k m m.length i) (fun _ l => l.all toneOk) (fun _ _ => True) (by
   intro s _
   refine Ev.succ ?_
   simp only [impl_MelodyValid.l0]
   exact Ev.neg (by omega) (Ev.now _)) (by
   intro s i rest _ hi _ ih
   refine Ev.succ ?_
   simp only [impl_MelodyValid.l0]
   refine Ev.pos (by omega) (Ev.pos (by omega) (Ev.pos (by omega) (Ev.conb (impl_Tone_valid_eq _ _) ?_)))
   show Ev _ (toneOk (rd_T64 m i) && _)
   cases ht : toneOk (rd_T64 m i)
   ·
    exact Ev.neg (by simp [ht]) (Ev.now _)
   ·
    refine Ev.pos (by simp [ht]) ?_
    rw [w64 (by omega) (by omega)]
    simpa using ih () trivial) 0 () (Nat.zero_le _) trivial
  simpa using this

def Lk (w : World) (B : Nat) : Value → List S64 → Prop
 | v, [] => v = .pointer none
 | v, x :: xs => ∃ b nx, v = .pointer (some ⟨b, 0, none⟩) ∧ B ≤ b ∧ w.heap[b]? = some (.cells #[.int .i64 x.f0, .bool x.f1, nx] 142 (0, 0)) ∧ Lk w B nx xs
theorem Lk.below {w w' : World} {B : Nat} (hb : Below w.heap.size w w') : ∀ {xs : List S64} {v : Value}, Lk w B v xs → Lk w' B v xs
 | [], _, h => h
 | x :: xs, _, ⟨b, nx, h1, h2, h3, h4⟩ => ⟨b, nx, h1, h2, (hb.block _ (blk_lt h3)).trans h3, Lk.below hb h4⟩
theorem Lk.ptr {w : World} {B : Nat} : ∀ {xs : List S64} {v : Value}, Lk w B v xs → ∃ p, v = .pointer p
 | [], _, h => ⟨_, h⟩
 | x :: xs, _, ⟨b, nx, h1, _⟩ => ⟨_, h1⟩
set_option maxHeartbeats 4000000 in
set_option maxRecDepth 100000 in
theorem impl_linked_calls (m : List S64) (A0 : Option Addr) (c0 : Nat) (w : World) (hr0 : Kd.C k64 w A0 m.length m) (hc0 : m.length ≤ c0) (hm : m.length ≤ 1000000000000) :
 Calls Try.prog 110 #[.slice A0 m.length c0] w fun e w' => ∃ v, e = .returned v ∧ Lk w' w.heap.size v m ∧ Below w.heap.size w w' := by
 have HR0 := Aside0.mk hr0
 have HC0 := Aside0.mk hc0
 clear hr0 hc0
 have hu := Try.underlying142
 have hu1 := Try.underlying64
 go_enter Try.func110, Try.ntmps110
 go_wp2
 go_loopg [3, 4] m.length (fun kq v3 v4 w' => ∃ (i : Int), v4 = .int .i64 i ∧ Aside0 (kq = (i + 1).toNat ∧ -1 ≤ i ∧ i < (m.length : Int)) ∧ Aside0 (Lk w' w.heap.size v3 (m.drop (i + 1).toNat)) ∧ Aside0 (Below w.heap.size w w'))
 case atStart =>
  have e : ((m.length : Int) - 1 + 1).toNat = m.length := by omega
  have hL : Lk w w.heap.size (.pointer none) (m.drop ((m.length : Int) - 1 + 1).toNat) := by rw [e, List.drop_length]; rfl
  exact ⟨(m.length : Int) - 1, rfl, ⟨by omega, by omega, by omega⟩, ⟨hL⟩, ⟨by repeat (first | exact Below.refl _ _ | apply below_alloc | apply pw_below_drewN | apply below_drew1)⟩⟩
 case round =>
  obtain ⟨i, rfl, HX, HL, HB⟩ := hrel
  obtain ⟨hk, hi0, hi1⟩ := HX.out
  obtain ⟨p, rfl⟩ := HL.out.ptr
  by_cases h : 0 ≤ i
  ·
   have d1 : decide (0 ≤ i) = true := decide_eq_true h
   obtain ⟨ad, e1, ux0, ux1⟩ := at_T64 HR0.out i h hi1
   subst e1
   have hx0 := (HB.out.cell (World.block_lt_of_cell? w _ ux0)).trans ux0
   have hx1 := (HB.out.cell (World.block_lt_of_cell? w _ ux1)).trans ux1
   obtain ⟨X, hX⟩ : ∃ X, X = rd_T64 m i := ⟨_, rfl⟩
   rw [← hX] at hx0 hx1
   have hdr : Aside0 (m.drop (i - 1 + 1).toNat = X :: m.drop (i + 1).toNat) := by
    have e0 : (i - 1 + 1).toNat = i.toNat := by omega
    have e1 : (i + 1).toNat = i.toNat + 1 := by omega
    refine ⟨?_⟩
    rw [e0, e1, List.drop_eq_getElem_cons (by omega), hX]
    unfold rd_T64
    rw [List.getD_eq_getElem?_getD, List.getElem?_eq_getElem (by omega)]; rfl
   have NX : Aside0 ((i - 1 + 1).toNat < gk ∧ -1 ≤ i - 1 ∧ i - 1 < (m.length : Int)) := ⟨by omega, by omega, by omega⟩
   have j0 := eq_true h
   have j1 := eq_true hi1
   clear hX ux0 ux1 hk
   go_wp2_with ((with_reducible refine gate_dst (N := 18) rfl ?_); refine box_event ?hg (N := 18) ?hd (cs := #[.int .i64 X.f0, .bool X.f1, .pointer p]) (t := 142) ?hr ?_; (case hd => rfl); (case hg => rfl); (case hr => first | (go_simp; done) | (go_simp; rfl)); intro gb hg w3 hbox hb3; have HBX := Aside0.mk hbox; have HL3 := Aside0.mk (HL.out.below hb3); have HB3 := Aside0.mk (below_step HB.out hb3); have GW := Aside0.mk (show w.heap.size ≤ gb from (by rw [hg]; exact HB.out.size)); clear hg hbox hb3)
   go_roundg ((i - 1 + 1).toNat)
   case measure => exact NX.out.1
   case rel => exact ⟨i - 1, rfl, ⟨rfl, NX.out.2⟩, ⟨by rw [hdr.out]; exact ⟨gb, _, rfl, GW.out, HBX.out, HL3.out⟩⟩, HB3⟩
  ·
   have d1 : decide (0 ≤ i) = false := decide_eq_false h
   obtain rfl : i = -1 := by omega
   have HL' := HL.out
   go_wp2
   go_ret
   exact ⟨_, rfl, HL', HB.out⟩

def diffs (g : S64 → S64 → Int) : List S64 → List Int
 | [] => []
 | [_] => []
 | x :: y :: r => g x y :: diffs g (y :: r)
theorem diffs_len (g : S64 → S64 → Int) : ∀ m : List S64, (diffs g m).length = m.length - 1
 | [] => rfl
 | [_] => rfl
 | x :: y :: r => by
  have := diffs_len g (y :: r)
  simp only [diffs, List.length_cons] at this ⊢
  omega
def mdiffs (g : S64 → S64 → Int) (m : List S64) : List Int := if melOk m = true then diffs g m else []
theorem Lk.grown {w w1 : World} {B B' : Nat} {ok : Nat → Prop} {v0 : Value} {X : List Int} (hr : Kd.R (Kd.int .i64) 3 w B' ok v0 X) (hg : w.grownBy w1 v0.ownBlock) : ∀ {xs : List S64} {v : Value}, Lk w B v xs → Lk w1 B v xs
 | [], _, h => h
 | x :: xs, _, ⟨b, nx, h1, h2, h3, h4⟩ => ⟨b, nx, h1, h2, blk_grown h3 hg (Kd.R_ne hr h3 (by decide)), Lk.grown hr hg h4⟩
theorem melOk_all {m : List S64} (h : melOk m = true) : m.all toneOk = true := by
 unfold melOk at h; rw [Bool.and_eq_true] at h; exact h.2

set_option maxHeartbeats 4000000 in
set_option maxRecDepth 100000 in
theorem impl_differencesSteps_calls (g : S64 → S64 → Int) (I : World → Prop) (hI : ∀ w w' : World, I w → Below w.heap.size w w' → I w')
 (hC : ∀ (x y : S64) (w : World), toneOk x = true → toneOk y = true → I w → Calls Try.prog 96 #[.agg #[.int .i64 x.f0, .bool x.f1], .agg #[.int .i64 y.f0, .bool y.f1]] w fun e w' => e = .returned (.tuple #[.int .i64 (g x y), .bool true]) ∧ Below w.heap.size w w')
 (m : List S64) (A0 : Option Addr) (c0 : Nat) (w : World) (h0 : I w) (hr0 : Kd.C k64 w A0 m.length m) (hc0 : m.length ≤ c0) (hm : m.length ≤ 1000000000000) :
 Calls Try.prog 95 #[.slice A0 m.length c0, .func (.func 96) #[] #[]] w fun e w' => ∃ v, e = .returned v ∧ Kd.R (Kd.int .i64) 3 w' w.heap.size (fun _ => True) v (mdiffs g m) ∧ Below w.heap.size w w' := by
 obtain ⟨kk, hv⟩ := Ev.rounds (impl_MelodyValid_ev m)
 have hu := Try.underlying142
 have hu1 := Try.underlying64
 have HI := Aside0.mk info3
 have HII := Aside0.mk hI
 have HCC := Aside0.mk hC
 have H0 := Aside0.mk h0
 have HR0 := Aside0.mk hr0
 have HC0 := Aside0.mk hc0
 have HV := Aside0.mk hv
 clear hr0 hc0 hv hI hC h0
 cases hok : melOk m
 ·
  have e : mdiffs g m = [] := by unfold mdiffs; rw [hok]; rfl
  rw [e]
  rw [hok] at HV
  clear hok e
  go_enter Try.func95, Try.ntmps95
  go_wp2_with (first
   | ((with_reducible refine gate_dst (N := 9) rfl ?_); refine Kd.R_lit (Kd.int .i64) _ 3 ?hg (N := 9) ?hd (xs := ([] : List Int)) (inner := []) (ok := fun _ => True) (okp := fun _ => True) ?hr (Reps.none _ _) (fun _ hk => hk) trivial (Below.refl _ _) (Nat.le_refl _) (by simp) ?_; (case hd => rfl); (case hg => rfl); (case hr => first | (go_simp; done) | (go_simp; rfl)); intro v1 w1 ho1 hb1 _ _; obtain ⟨A1, c1, rfl⟩ := Kd.R_slice ho1; have HO1 := Aside0.mk ho1; have HB1 := Aside0.mk hb1; clear ho1 hb1)
   | (go_at_call 65; refine (impl_MelodyValid.calls kk _ _ m false _ (Kd.C_below HR0.out HB1.out) HC0.out HV.out).mono ?_; rintro e w2 ⟨rfl, hb2⟩))
  go_ret
  exact ⟨_, rfl, Kd.R_below HO1.out hb2, below_step HB1.out hb2⟩
 rw [hok] at HV
 have e : mdiffs g m = diffs g m := by unfold mdiffs; rw [hok]; rfl
 rw [e]
 have hall := melOk_all hok
 have hlen := melOk_len hok
 cases m with
 | nil =>
  clear hok e
  go_enter Try.func95, Try.ntmps95
  go_wp2_with (first
   | ((with_reducible refine gate_dst (N := 9) rfl ?_); refine Kd.R_lit (Kd.int .i64) _ 3 ?hg (N := 9) ?hd (xs := ([] : List Int)) (inner := []) (ok := fun _ => True) (okp := fun _ => True) ?hr (Reps.none _ _) (fun _ hk => hk) trivial (Below.refl _ _) (Nat.le_refl _) (by simp) ?_; (case hd => rfl); (case hg => rfl); (case hr => first | (go_simp; done) | (go_simp; rfl)); intro v1 w1 ho1 hb1 _ _; obtain ⟨A1, c1, rfl⟩ := Kd.R_slice ho1; have HO1 := Aside0.mk ho1; have HB1 := Aside0.mk hb1; clear ho1 hb1)
   | (go_at_call 65; refine (impl_MelodyValid.calls kk _ _ [] true _ (Kd.C_below HR0.out HB1.out) HC0.out HV.out).mono ?_; rintro e w2 ⟨rfl, hb2⟩))
  go_ret
  exact ⟨_, rfl, Kd.R_below HO1.out hb2, below_step HB1.out hb2⟩
 | cons x0 l0 =>
  obtain ⟨m, hmm⟩ : ∃ m, m = x0 :: l0 := ⟨_, rfl⟩
  have hne : ((m.length : Int) == 0) = false := by rw [beq_eq_false_iff_ne, hmm]; simp; omega
  have hne' : (m.length == 0) = false := by rw [beq_eq_false_iff_ne, hmm]; simp
  obtain ⟨D, hD⟩ : ∃ D, D = diffs g (x0 :: l0) := ⟨_, rfl⟩
  rw [← hD]
  have HD := Aside0.mk hD
  rw [List.all_cons, Bool.and_eq_true] at hall
  have HALL := Aside0.mk (And.intro hall.1 (And.intro hall.2 (show l0.length ≤ 23 by simp only [List.length_cons] at hlen; omega)))
  rw [← hmm] at HR0 HC0 HV hm ⊢
  have HMM := Aside0.mk hmm
  clear hok e hD hall hlen hmm
  go_enter Try.func95, Try.ntmps95
  go_wp2_with (first
   | ((with_reducible refine gate_dst (N := 9) rfl ?_); refine Kd.R_lit (Kd.int .i64) _ 3 ?hg (N := 9) ?hd (xs := ([] : List Int)) (inner := []) (ok := fun _ => True) (okp := fun _ => True) ?hr (Reps.none _ _) (fun _ hk => hk) trivial (Below.refl _ _) (Nat.le_refl _) (by simp) ?_; (case hd => rfl); (case hg => rfl); (case hr => first | (go_simp; done) | (go_simp; rfl)); intro v1 w1 ho1 hb1 _ _; have HO1 := Aside0.mk ho1; have HB1 := Aside0.mk hb1; clear ho1 hb1)
   | (go_at_call 65; refine (impl_MelodyValid.calls kk _ _ m true _ (Kd.C_below HR0.out HB1.out) HC0.out HV.out).mono ?_; rintro e w2 ⟨rfl, hb2⟩; have HO2 := Aside0.mk (Kd.R_below HO1.out hb2); have HB2 := Aside0.mk (below_step HB1.out hb2); clear hb2)
   | (go_at_call 110; refine (impl_linked_calls m _ _ w2 (Kd.C_below HR0.out HB2.out) HC0.out hm).mono ?_; rintro e w3 ⟨v3, rfl, hl3, hb3⟩; have HL3 := Aside0.mk hl3; have HO3 := Aside0.mk (Kd.R_below HO2.out hb3); have HB3 := Aside0.mk (below_step HB2.out hb3); clear hl3 hb3))
  go_loopg [5, 6] l0.length (fun kq v5 v6 w' => ∃ (X : List Int) (x : S64) (l : List S64), Aside0 (kq = l.length ∧ X ++ diffs g (x :: l) = D ∧ toneOk x = true ∧ l.all toneOk = true ∧ X.length + l.length ≤ 23) ∧ Aside0 (Kd.R (Kd.int .i64) 3 w' w.heap.size (fun _ => True) v5 X) ∧ Aside0 (Lk w' w2.heap.size v6 (x :: l)) ∧ Aside0 (Below w.heap.size w w'))
  case atStart => exact ⟨[], x0, l0, ⟨rfl, HD.out.symm, HALL.out.1, HALL.out.2.1, by simpa using HALL.out.2.2⟩, HO3, ⟨by rw [← HMM.out]; exact HL3.out⟩, HB3⟩
  case round =>
   clear HO3 HL3 HB3
   obtain ⟨X, x, l, HX, HO, HL, HB⟩ := hrel
   obtain ⟨b, nx, e1, hbw, hbx, hnx⟩ := HL.out
   subst e1
   have hx0 : wr.cell? ⟨b, 0, none⟩ = some (.int .i64 x.f0) := (blk_cell hbx 0).trans rfl
   have hx1 : wr.cell? ⟨b, 1, none⟩ = some (.bool x.f1) := (blk_cell hbx 1).trans rfl
   have hx2 : wr.cell? ⟨b, 2, none⟩ = some nx := (blk_cell hbx 2).trans rfl
   have HBX := Aside0.mk hbx
   cases l with
   | nil =>
    obtain rfl : nx = .pointer none := hnx
    obtain ⟨A5, c5, e5⟩ := Kd.R_slice HO.out
    subst e5
    have hXD : X = D := by have := HX.out.2.1; simpa [diffs] using this
    subst hXD
    clear hbx
    go_wp2
    go_ret
    exact ⟨_, rfl, HO.out, HB.out⟩
   | cons y l =>
    have HNX := Aside0.mk hnx
    obtain ⟨b', nx', e2, hbw', hby, hny⟩ := hnx
    subst e2
    have hy0 : wr.cell? ⟨b', 0, none⟩ = some (.int .i64 y.f0) := (blk_cell hby 0).trans rfl
    have hy1 : wr.cell? ⟨b', 1, none⟩ = some (.bool y.f1) := (blk_cell hby 1).trans rfl
    have dx0 : wr.drew.cell? ⟨b, 0, none⟩ = some (.int .i64 x.f0) := hx0
    have dx1 : wr.drew.cell? ⟨b, 1, none⟩ = some (.bool x.f1) := hx1
    have dx2 : wr.drew.cell? ⟨b, 2, none⟩ = some (.pointer (some ⟨b', 0, none⟩)) := hx2
    have dy0 : wr.drew.cell? ⟨b', 0, none⟩ = some (.int .i64 y.f0) := hy0
    have dy1 : wr.drew.cell? ⟨b', 1, none⟩ = some (.bool y.f1) := hy1
    have hall := HX.out.2.2.2.1
    rw [List.all_cons, Bool.and_eq_true] at hall
    have NX : Aside0 (l.length < gk ∧ X ++ [g x y] ++ diffs g (y :: l) = D ∧ toneOk y = true ∧ l.all toneOk = true ∧ (X ++ [g x y]).length + l.length ≤ 23) := ⟨by have := HX.out.1; simp only [List.length_cons] at this; omega, by have := HX.out.2.1; simp only [diffs] at this; rw [List.append_assoc]; exact this, hall.1, hall.2, by have := HX.out.2.2.2.2; simp only [List.length_append, List.length_cons, List.length_nil] at this ⊢; omega⟩
    have HXT := Aside0.mk HX.out.2.2.1
    have bx : X.length ≤ 23 := by have := HX.out.2.2.2.2; omega
    have HDB := Aside0.mk (below_drew1 HB.out)
    have HID := Aside0.mk (HII.out _ _ H0.out HDB.out)
    clear hall hbx hby hny
    go_wp2
    go_region_held3 (fun w' => w'.cell? ⟨b, 0, none⟩ = some (.int .i64 x.f0) ∧ w'.cell? ⟨b, 1, none⟩ = some (.bool x.f1) ∧ w'.cell? ⟨b, 2, none⟩ = some (.pointer (some ⟨b', 0, none⟩)) ∧ w'.cell? ⟨b', 0, none⟩ = some (.int .i64 y.f0) ∧ w'.cell? ⟨b', 1, none⟩ = some (.bool y.f1))
     (first
      | exact ⟨dx0, dx1, dx2, dy0, dy1⟩
      | go_keep
      | exact ⟨pw_cell_below hb4 dx0, pw_cell_below hb4 dx1, pw_cell_below hb4 dx2, pw_cell_below hb4 dy0, pw_cell_below hb4 dy1⟩
      | fail)
     (first
      | (go_at_call 96; refine (HCC.out x y wr.drew HXT.out NX.out.2.2.1 HID.out).mono ?_; rintro e w4 ⟨rfl, hb4⟩)
      | fail)
    have HO4 := Aside0.mk (Kd.R_below (show Kd.R (Kd.int .i64) 3 wr.drew w.heap.size (fun _ => True) _ X from Kd.R_drew HO.out) hb4)
    have HB4 := Aside0.mk (below_step HDB.out hb4)
    have HBX4 := Aside0.mk (blk_below (show wr.drew.heap[b]? = _ from HBX.out) hb4)
    have HNX4 := Aside0.mk (Lk.below hb4 (show Lk wr.drew w2.heap.size _ (y :: l) from HNX.out.below (below_drew1 (Below.refl _ _))))
    clear hx0 hx1 hx2 hy0 hy1 dx0 dx1 dx2 dy0 dy1 hb4
    go_wp2_with ((with_reducible refine gate_builtin (b := .append) (xs := #[.tmp 47, .tmp 49]) rfl ?_); at_builtin; go_loud (refine Kd.R_append (Kd.int .i64) (w0 := w) w.heap.size rfl (.tmp 47) (.tmp 49) 46 3 (.int .i64 0) 8 rfl Try.underlying46 HI.out rfl (by decide) (by omega) _ X (g x y) [.int .i64 (g x y)] (fun _ => True) (fun _ => False) rfl rfl ?aP (fun _ hk => hk.elim) (fun _ _ => trivial) HO4.out HB4.out HB4.out.size (by omega) ?_); (case aP => exact rfl); intro v9 wC ho9 hb9 hg9 hat9; have HO9 := Aside0.mk ho9; have HB9 := Aside0.mk hb9; have HNX9 := Aside0.mk (Lk.grown HO4.out hg9 HNX4.out); have cx2 : wC.cell? ⟨b, 2, none⟩ = some (.pointer (some ⟨b', 0, none⟩)) := (blk_cell (blk_grown HBX4.out hg9 (Kd.R_ne HO4.out HBX4.out (by decide))) 2).trans rfl; clear ho9 hb9 hg9 hat9)
    go_roundg l.length
    case measure => exact NX.out.1
    case rel => exact ⟨X ++ [g x y], y, l, ⟨rfl, NX.out.2⟩, HO9, HNX9, HB9⟩

def stepD (x y : S64) : Int := wrap64 (y.f0 - x.f0)
theorem impl_ToneSteps_good (x y : S64) (w : World) (hx : toneOk x = true) (hy : toneOk y = true) : Calls Try.prog 96 #[.agg #[.int .i64 x.f0, .bool x.f1], .agg #[.int .i64 y.f0, .bool y.f1]] w fun e w' => e = .returned (.tuple #[.int .i64 (stepD x y), .bool true]) ∧ Below w.heap.size w w' := by
 refine impl_ToneSteps.calls x.f0 x.f1 y.f0 y.f1 _ _ w ?_
 unfold impl_ToneSteps.f
 have h1 : impl_Tone_valid.f x.f0 x.f1 = some true := by rw [impl_Tone_valid_eq]; exact congrArg some hx
 have h2 : impl_Tone_valid.f y.f0 y.f1 = some true := by rw [impl_Tone_valid_eq]; exact congrArg some hy
 rw [h1, h2]; rfl
set_option maxHeartbeats 4000000 in
set_option maxRecDepth 100000 in
theorem impl_MelodySteps_calls (m : List S64) (A0 : Option Addr) (c0 : Nat) (w : World) (hr0 : Kd.C k64 w A0 m.length m) (hc0 : m.length ≤ c0) (hm : m.length ≤ 1000000000000) :
 Calls Try.prog 52 #[.slice A0 m.length c0] w fun e w' => ∃ v, e = .returned v ∧ Kd.R (Kd.int .i64) 3 w' w.heap.size (fun _ => True) v (mdiffs stepD m) ∧ Below w.heap.size w w' := by
 have HR0 := Aside0.mk hr0
 have HC0 := Aside0.mk hc0
 clear hr0 hc0
 go_enter Try.func52, Try.ntmps52
 go_wp2_with (go_at_call 95; refine (impl_differencesSteps_calls stepD (fun _ => True) (fun _ _ _ _ => trivial) (fun x y w hx hy _ => impl_ToneSteps_good x y w hx hy) m A0 c0 _ trivial HR0.out HC0.out hm).mono ?_; rintro e w1 ⟨v, rfl, ho, hb⟩; obtain ⟨A1, c1, rfl⟩ := Kd.R_slice ho)
 go_ret
 exact ⟨_, rfl, ho, hb⟩

theorem mdiffs_len (g : S64 → S64 → Int) (m : List S64) : (mdiffs g m).length ≤ 23 := by
 unfold mdiffs
 split
 ·
  rename_i h
  have := melOk_len h
  rw [diffs_len]; omega
 ·
  exact Nat.zero_le _

def fread (l : List S55) (m : List S64) : List Int × Bool := if melOk m = true then fBest l (mdiffs stepD m) else ([], false)

set_option maxHeartbeats 4000000 in
set_option maxRecDepth 100000 in
theorem impl_FormulasRead_calls (l : List S55) (m : List S64) (A0 : Option Addr) (c0 : Nat) (A1 : Option Addr) (c1 : Nat) (w : World) (hr0 : Kd.C k55 w A0 l.length l) (hc0 : l.length ≤ c0) (hr1 : Kd.C k64 w A1 m.length m) (hc1 : m.length ≤ c1) (hl : ∀ x ∈ l, x.f0.length ≤ 1000000000000) (hm : m.length ≤ 1000000000000) :
 Calls Try.prog 51 #[.slice A0 l.length c0, .slice A1 m.length c1] w fun e w' => ∃ v, e = .returned (.tuple #[v, .bool (fread l m).2]) ∧ Kd.R (Kd.int .i64) 3 w' w.heap.size (fun _ => True) v (fread l m).1 ∧ Below w.heap.size w w' := by
 obtain ⟨kk, hv⟩ := Ev.rounds (impl_MelodyValid_ev m)
 have HR0 := Aside0.mk hr0
 have HC0 := Aside0.mk hc0
 have HR1 := Aside0.mk hr1
 have HC1 := Aside0.mk hc1
 have HV := Aside0.mk hv
 have HL := Aside0.mk hl
 clear hr0 hc0 hr1 hc1 hv hl
 cases hok : melOk m
 ·
  have e : fread l m = ([], false) := by unfold fread; rw [hok]; rfl
  rw [e]
  rw [hok] at HV
  clear hok e
  go_enter Try.func51, Try.ntmps51
  go_wp2_with (go_at_call 65; refine (impl_MelodyValid.calls kk _ _ m false _ HR1.out HC1.out HV.out).mono ?_; rintro e w1 ⟨rfl, hb1⟩)
  go_ret2
  exact ⟨_, rfl, Kd.R_nil _ _ _ _ _, hb1⟩
 ·
  rw [hok] at HV
  have e : fread l m = fBest l (mdiffs stepD m) := by unfold fread; rw [hok]; rfl
  rw [e]
  have hd := mdiffs_len stepD m
  obtain ⟨D, hD⟩ : ∃ D, D = mdiffs stepD m := ⟨_, rfl⟩
  rw [← hD] at hd ⊢
  have HD := Aside0.mk hD
  clear hok e hD
  go_enter Try.func51, Try.ntmps51
  go_wp2_with (first
   | (go_at_call 65; refine (impl_MelodyValid.calls kk _ _ m true _ HR1.out HC1.out HV.out).mono ?_; rintro e w1 ⟨rfl, hb1⟩; have HB1 := Aside0.mk hb1; clear hb1)
   | (go_at_call 52; refine (impl_MelodySteps_calls m A1 c1 w1 (Kd.C_below HR1.out HB1.out) HC1.out hm).mono ?_; rintro e w2 ⟨v2, rfl, ho2, hb2⟩; rw [← HD.out] at ho2; obtain ⟨A2, c2, rfl, hc2, hr2⟩ := Kd.R_reads ho2; have HS2 := Aside0.mk (And.intro hc2 hr2); have HB2 := Aside0.mk (below_step HB1.out hb2); clear hc2 hr2 ho2 hb2)
   | (go_at_call 29; refine (impl_FormulasBest_calls l D A0 c0 A2 c2 w2 (Kd.C_below HR0.out HB2.out) HC0.out HS2.out.2 HS2.out.1 HL.out (by omega)).mono ?_; rintro e w3 ⟨v3, rfl, ho3, hb3⟩; have HO3 := Aside0.mk (Kd.R_lower ho3 HB2.out.size); have HB3 := Aside0.mk (below_step HB2.out hb3); clear ho3 hb3))
  go_ret2
  exact ⟨_, rfl, HO3.out, HB3.out⟩

end Go.Proofs.Ytnemcppllfmioaa.Pure
namespace Go.Proofs.Ytnemcppllfmioaa.PFnReadMelody
set_option linter.unusedVariables false
set_option linter.unusedSimpArgs false
open Go Go.RowKit Go.Proofs.Ytnemcppllfmioaa.Pure Go.Proofs.YtnemcppllfmioaaW.PrintWords Go.Proofs.YtnemcppllfmioaaW.PrintLast Go.Proofs.YtnemcppllfmioaaW.PrintMore
def impl_MelodySteps.f (l0 : List S64) : Option (List Int) := if l0.length ≤ 1000000000000 then some (mdiffs stepD l0) else none
theorem impl_MelodySteps.calls (A0 : Option Addr) (c0 : Nat) (l0 : List S64) (r : List Int) (w : World) (hr0 : Kd.C k64 w A0 l0.length l0) (hc0 : l0.length ≤ c0) (h : impl_MelodySteps.f l0 = some r) :
 Calls Try.prog 52 #[.slice A0 l0.length c0] w fun e w' => ∃ v0_ : Value, e = .returned (v0_) ∧ Kd.R (Kd.int .i64) 3 w' w.heap.size (fun _ => True) v0_ r ∧ Below w.heap.size w w' := by
 unfold impl_MelodySteps.f at h; split at h
 ·
  rename_i hh
  injection h with h
  have := impl_MelodySteps_calls l0 A0 c0 w hr0 hc0 hh; rw [h] at this; exact this
 ·
  cases h

end Go.Proofs.Ytnemcppllfmioaa.PFnReadMelody
namespace Go.Proofs.Ytnemcppllfmioaa.PFnReadMelody
set_option linter.unusedVariables false
set_option linter.unusedSimpArgs false
open Go Go.RowKit Go.Proofs.Ytnemcppllfmioaa.Pure Go.Proofs.YtnemcppllfmioaaW.PrintWords Go.Proofs.YtnemcppllfmioaaW.PrintLast Go.Proofs.YtnemcppllfmioaaW.PrintMore
def impl_FormulasRead.f (l0 : List S55) (l1 : List S64) : Option (List Int × Bool) := if (∀ x ∈ l0, x.f0.length ≤ 1000000000000) ∧ l1.length ≤ 1000000000000 then some (fread l0 l1) else none
theorem impl_FormulasRead.calls (A0 : Option Addr) (c0 : Nat) (l0 : List S55) (A1 : Option Addr) (c1 : Nat) (l1 : List S64) (r1 : List Int) (r2 : Bool) (w : World) (hr0 : Kd.C k55 w A0 l0.length l0) (hc0 : l0.length ≤ c0) (hr1 : Kd.C k64 w A1 l1.length l1) (hc1 : l1.length ≤ c1) (h : impl_FormulasRead.f l0 l1 = some (r1, r2)) :
 Calls Try.prog 51 #[.slice A0 l0.length c0, .slice A1 l1.length c1] w fun e w' => ∃ v0_ : Value, e = .returned (.tuple #[v0_, .bool r2]) ∧ Kd.R (Kd.int .i64) 3 w' w.heap.size (fun _ => True) v0_ r1 ∧ Below w.heap.size w w' := by
 unfold impl_FormulasRead.f at h; split at h
 ·
  rename_i hh
  injection h with h
  have := impl_FormulasRead_calls l0 l1 A0 c0 A1 c1 w hr0 hc0 hr1 hc1 hh.1 hh.2; rw [h] at this; exact this
 ·
  cases h

end Go.Proofs.Ytnemcppllfmioaa.PFnReadMelody
