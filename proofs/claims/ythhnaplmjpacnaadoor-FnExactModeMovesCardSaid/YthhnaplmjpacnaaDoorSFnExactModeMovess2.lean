/- Lemmas for the law FnExactModeMoves. -/
import Derived.BigRegion
import Derived.Deep.Slices
import Derived.Laws.CopyOwn
import Derived.Test.YthhnaplmjpacnaaDoorSFnExactModeMovess1
namespace Go.Proofs.YthhnaplmjpacnaaDoor.PFnExactModeMoves
open Go.RowKit Go.Proofs.YthhnaplmjpacnaaDoorW.PrintWords Go.Proofs.YthhnaplmjpacnaaDoorW.PrintLast Go.Proofs.YthhnaplmjpacnaaDoorW.PrintMore
attribute [local go_sem] max2_int min2_int max_two min_two max_three min_three max_four min_four   -- for this text's walks alone
set_option linter.unusedVariables false
set_option linter.unusedSimpArgs false

def impl_ToneAbove.j0 : Nat → Int → Bool → Bool → Int → Bool → Option (Int × Bool × Bool)
 | 0, _, _, _, _, _ => none
 | k + 1, x1, x2, x19, x120000, x120001 => if x19 = true then (some (0, false, false)) else ((impl_Tone_valid.f (wrap64 (x120000 + x1)) x2).bind fun t123 => (if t123 = true then (some (wrap64 (x120000 + x1), x2, true)) else (some (0, false, false))))
def impl_ToneAbove.f (k : Nat) (a0_0 : Int) (a0_1 : Bool) (a1 : Int) (a2 : Bool) : Option (Int × Bool × Bool) := (impl_Tone_valid.f a0_0 a0_1).bind fun t121 => (if t121 = true then (if a1 < (-20) then (impl_ToneAbove.j0 k a1 a2 true a0_0 a0_1) else (impl_ToneAbove.j0 k a1 a2 (decide (a1 > 20)) a0_0 a0_1)) else (impl_ToneAbove.j0 k a1 a2 true a0_0 a0_1))
set_option maxHeartbeats 8000000 in
set_option maxRecDepth 100000 in
theorem impl_ToneAbove.calls (k : Nat) (a0_0 : Int) (a0_1 : Bool) (a1 : Int) (a2 : Bool) (r1 : Int) (r2 : Bool) (r3 : Bool) (w : World) (h : impl_ToneAbove.f k a0_0 a0_1 a1 a2 = some (r1, r2, r3)) :
 Calls Tryd.prog 54 #[.agg #[.int .i64 a0_0, .bool a0_1], .int .i64 a1, .bool a2] w fun e w' => e = .returned (.tuple #[.agg #[.int .i64 r1, .bool r2], .bool r3]) ∧ Below w.heap.size w w' := by
 have hu29 := Tryd.underlying29; have HB := Aside0.mk (Below.refl w.heap.size w); have H : ((impl_Tone_valid.f a0_0 a0_1).bind fun t121 => (if t121 = true then (if a1 < (-20) then (impl_ToneAbove.j0 k a1 a2 true a0_0 a0_1) else (impl_ToneAbove.j0 k a1 a2 (decide (a1 > 20)) a0_0 a0_1)) else (impl_ToneAbove.j0 k a1 a2 true a0_0 a0_1))) = some (r1, r2, r3) := h; clear h; have HC4 := Aside0.mk H; clear H; go_enter Tryd.func54, Tryd.ntmps54
 go_upto_region 1 with (first | ((with_reducible refine gate_dst (N := 3) rfl ?_); refine box_event ?hg (N := 3) ?hd (cs := #[.int .i64 a0_0, .bool a0_1]) (t := 29) ?hr ?_; (case hd => rfl); (case hg => rfl); (case hr => first | (go_simp; done) | (go_simp; rfl)); intro gb119 hg w5 hbox hb; have n0_ := Aside0.mk (below_step (by repeat (first | (with_reducible first | exact HB.out | apply below_alloc | apply pw_below_drewN | apply below_drew1) | exact HB.out)) hb); have n1_ := Aside0.mk (hbox); have n2_ := Aside0.mk ((by rw [hg]; exact (below_size (by repeat (first | (with_reducible first | exact HB.out | apply below_alloc | apply pw_below_drewN | apply below_drew1) | exact HB.out))) : w.heap.size ≤ gb119)); have n3_ := Aside0.mk ((by rw [hg]; exact (below_size (by repeat (first | (with_reducible first | exact HB.out | apply below_alloc | apply pw_below_drewN | apply below_drew1) | exact HB.out))) : w.heap.size ≤ gb119)); clear HB; have HB := n0_; have BK119 := n1_; have GW119 := n2_; have GE119 := n3_; clear n0_ n1_ n2_ n3_; clear hb hbox hg) | ((with_reducible refine gate_dst (N := 6) rfl ?_); refine box_event ?hg (N := 6) ?hd (cs := #[.int .i64 0, .bool false]) (t := 29) ?hr ?_; (case hd => rfl); (case hg => rfl); (case hr => first | (go_simp; done) | (go_simp; rfl)); intro gb120 hg w6 hbox hb; have n0_ := Aside0.mk (blk_below (g := gb119) (o := .cells #[.int .i64 a0_0, .bool a0_1] 29 (0, 0)) (by (with_reducible repeat (first | refine blk_drewN ?_ _ | refine blk_drew ?_ | refine blk_alloc ?_ _)); exact BK119.out) hb); have n1_ := Aside0.mk (below_step (by repeat (first | (with_reducible first | exact HB.out | apply below_alloc | apply pw_below_drewN | apply below_drew1 | refine below_set ?_ GE119.out) | exact HB.out)) hb); have n2_ := Aside0.mk (hbox); have n3_ := Aside0.mk ((by rw [hg]; exact (below_size (by repeat (first | (with_reducible first | exact HB.out | apply below_alloc | apply pw_below_drewN | apply below_drew1 | refine below_set ?_ GE119.out) | exact HB.out))) : w.heap.size ≤ gb120)); have n4_ := Aside0.mk ((by rw [hg]; exact (below_size (by repeat (first | (with_reducible first | exact HB.out | apply below_alloc | apply pw_below_drewN | apply below_drew1 | refine below_set ?_ GE119.out) | exact HB.out))) : w.heap.size ≤ gb120)); have n5_ := Aside0.mk ((by rw [hg]; exact Nat.ne_of_lt (blk_lt (g := gb119) (o := .cells #[.int .i64 a0_0, .bool a0_1] 29 (0, 0)) (by (with_reducible repeat (first | refine blk_drewN ?_ _ | refine blk_drew ?_ | refine blk_alloc ?_ _)); exact BK119.out)) : gb119 ≠ gb120)); have n6_ := Aside0.mk ((by rw [hg]; exact Nat.ne_of_gt (blk_lt (g := gb119) (o := .cells #[.int .i64 a0_0, .bool a0_1] 29 (0, 0)) (by (with_reducible repeat (first | refine blk_drewN ?_ _ | refine blk_drew ?_ | refine blk_alloc ?_ _)); exact BK119.out)) : gb120 ≠ gb119)); clear BK119; clear HB; have BK119 := n0_; have HB := n1_; have BK120 := n2_; have GW120 := n3_; have GE120 := n4_; have NB119_120 := n5_; have NB120_119 := n6_; clear n0_ n1_ n2_ n3_ n4_ n5_ n6_; clear hb hbox hg))
 (try simp only [Act.put, List.setIfInBounds_toArray, List.set_cons_zero, List.set_cons_succ])
 go_cut [19] (fun v19 wc => ∃ (kq : Nat) (x19_3 : Bool), v19 = .bool x19_3 ∧ Aside0 (impl_ToneAbove.j0 kq a1 a2 x19_3 a0_0 a0_1 = some (r1, r2, r3)) ∧ Aside0 (kq ≤ k) ∧ Aside0 (wc.heap[gb119]? = some (.cells #[.int .i64 a0_0, .bool a0_1] 29 (0, 0))) ∧ Aside0 (wc.heap[gb120]? = some (.cells #[.int .i64 0, .bool false] 29 (0, 0))) ∧ Aside0 (Below w.heap.size w wc))
 case first =>
  have H := HC4.out; clear HC4; replace H := Option.bind_eq_some_iff.mp H; obtain ⟨t121, A70, H⟩ := H; replace H : (if t121 = true then (if a1 < (-20) then (impl_ToneAbove.j0 k a1 a2 true a0_0 a0_1) else (impl_ToneAbove.j0 k a1 a2 (decide (a1 > 20)) a0_0 a0_1)) else (impl_ToneAbove.j0 k a1 a2 true a0_0 a0_1)) = some (r1, r2, r3) := H; have A7 := Aside0.mk A70; clear A70; by_cases c8 : t121 = true
  ·
   subst c8; have H1 : (if a1 < (-20) then (impl_ToneAbove.j0 k a1 a2 true a0_0 a0_1) else (impl_ToneAbove.j0 k a1 a2 (decide (a1 > 20)) a0_0 a0_1)) = some (r1, r2, r3) := by rw [if_pos rfl] at H; exact H
   clear H; have H := H1; clear H1; by_cases c9 : a1 < (-20)
   ·
    rw [if_pos c9] at H; have c9b0 : decide (a1 < (-20)) = true := decide_eq_true c9; clear c9; (first | rw [c9b0] | (simp only [i64_w, i32_w]; rw [c9b0]) | skip)
    have H' := Aside0.mk H; clear H; have hnb10 := NB119_120.out; have hnc10 := NB120_119.out; have hcz11_0 : w6.cell? ⟨gb119, 0, none⟩ = some (.int .i64 a0_0) := (blk_cell BK119.out 0).trans rfl; have hcz11_1 : w6.cell? ⟨gb119, 1, none⟩ = some (.bool a0_1) := (blk_cell BK119.out 1).trans rfl; have hfz11_0 := blk_frozen BK119.out 0; have hfz11_1 := blk_frozen BK119.out 1; go_wp2_with (first | ((with_reducible refine gate_callee (f := 88) rfl ?_); refine goesL_ (some 10) rfl rfl Tryd.func88 (by kernel_rfl) rfl #[.agg #[.int .i64 a0_0, .bool a0_1]] rfl (by (try simp only [List.map_toArray, List.map_cons, List.map_nil]); first | done | rfl | (simp only [List.length_drop, List.length_take]; rfl)) ?_; (with_reducible refine (impl_Tone_valid.calls a0_0 a0_1 true _ A7.out).mono ?_); rintro e w12 ⟨rfl, hb⟩; refine ⟨_, rfl, ?_⟩; have n0_ := Aside0.mk (blk_below (g := gb119) (o := .cells #[.int .i64 a0_0, .bool a0_1] 29 (0, 0)) (by (with_reducible repeat (first | refine blk_drewN ?_ _ | refine blk_drew ?_ | refine blk_alloc ?_ _)); exact BK119.out) hb); have n1_ := Aside0.mk (blk_below (g := gb120) (o := .cells #[.int .i64 0, .bool false] 29 (0, 0)) (by (with_reducible repeat (first | refine blk_drewN ?_ _ | refine blk_drew ?_ | refine blk_alloc ?_ _)); exact BK120.out) hb); have n2_ := Aside0.mk (below_step (by repeat (first | (with_reducible first | exact HB.out | apply below_alloc | apply pw_below_drewN | apply below_drew1 | refine below_set ?_ GE119.out | refine below_set ?_ GE120.out) | exact HB.out)) hb); clear BK119; clear BK120; clear HB; have BK119 := n0_; have BK120 := n1_; have HB := n2_; clear n0_ n1_ n2_; (try clear hb); (try clear hb2); (try clear hk); (try clear hi)))
    go_meet
    case rel => exact ⟨_, (true), (by first | rfl | (simp; done) | (simp [*]; done)), H', ⟨by first | omega | exact Nat.le_refl _⟩, ⟨by (with_reducible repeat (first | refine blk_drewN ?_ _ | refine blk_drew ?_ | refine blk_alloc ?_ _)); exact BK119.out⟩, ⟨by (with_reducible repeat (first | refine blk_drewN ?_ _ | refine blk_drew ?_ | refine blk_alloc ?_ _)); exact BK120.out⟩, ⟨by repeat (first | (with_reducible first | exact HB.out | apply below_alloc | apply pw_below_drewN | apply below_drew1 | refine below_set ?_ GE119.out | refine below_set ?_ GE120.out) | exact HB.out)⟩⟩
   ·
    rw [if_neg c9] at H; have c9b0 : decide (a1 < (-20)) = false := decide_eq_false c9; clear c9; (first | rw [c9b0] | (simp only [i64_w, i32_w]; rw [c9b0]) | skip)
    have H' := Aside0.mk H; clear H; have hnb13 := NB119_120.out; have hnc13 := NB120_119.out; have hcz14_0 : w6.cell? ⟨gb119, 0, none⟩ = some (.int .i64 a0_0) := (blk_cell BK119.out 0).trans rfl; have hcz14_1 : w6.cell? ⟨gb119, 1, none⟩ = some (.bool a0_1) := (blk_cell BK119.out 1).trans rfl; have hfz14_0 := blk_frozen BK119.out 0; have hfz14_1 := blk_frozen BK119.out 1; go_wp2_with (first | ((with_reducible refine gate_callee (f := 88) rfl ?_); refine goesL_ (some 10) rfl rfl Tryd.func88 (by kernel_rfl) rfl #[.agg #[.int .i64 a0_0, .bool a0_1]] rfl (by (try simp only [List.map_toArray, List.map_cons, List.map_nil]); first | done | rfl | (simp only [List.length_drop, List.length_take]; rfl)) ?_; (with_reducible refine (impl_Tone_valid.calls a0_0 a0_1 true _ A7.out).mono ?_); rintro e w15 ⟨rfl, hb⟩; refine ⟨_, rfl, ?_⟩; have n0_ := Aside0.mk (blk_below (g := gb119) (o := .cells #[.int .i64 a0_0, .bool a0_1] 29 (0, 0)) (by (with_reducible repeat (first | refine blk_drewN ?_ _ | refine blk_drew ?_ | refine blk_alloc ?_ _)); exact BK119.out) hb); have n1_ := Aside0.mk (blk_below (g := gb120) (o := .cells #[.int .i64 0, .bool false] 29 (0, 0)) (by (with_reducible repeat (first | refine blk_drewN ?_ _ | refine blk_drew ?_ | refine blk_alloc ?_ _)); exact BK120.out) hb); have n2_ := Aside0.mk (below_step (by repeat (first | (with_reducible first | exact HB.out | apply below_alloc | apply pw_below_drewN | apply below_drew1 | refine below_set ?_ GE119.out | refine below_set ?_ GE120.out) | exact HB.out)) hb); clear BK119; clear BK120; clear HB; have BK119 := n0_; have BK120 := n1_; have HB := n2_; clear n0_ n1_ n2_; (try clear hb); (try clear hb2); (try clear hk); (try clear hi)))
    go_meet
    case rel => exact ⟨_, (decide (a1 > 20)), (by first | rfl | (simp; done) | (simp [*]; done)), H', ⟨by first | omega | exact Nat.le_refl _⟩, ⟨by (with_reducible repeat (first | refine blk_drewN ?_ _ | refine blk_drew ?_ | refine blk_alloc ?_ _)); exact BK119.out⟩, ⟨by (with_reducible repeat (first | refine blk_drewN ?_ _ | refine blk_drew ?_ | refine blk_alloc ?_ _)); exact BK120.out⟩, ⟨by repeat (first | (with_reducible first | exact HB.out | apply below_alloc | apply pw_below_drewN | apply below_drew1 | refine below_set ?_ GE119.out | refine below_set ?_ GE120.out) | exact HB.out)⟩⟩
  ·
   replace c8 := Bool.eq_false_iff.mpr c8; subst c8; have H1 : (impl_ToneAbove.j0 k a1 a2 true a0_0 a0_1) = some (r1, r2, r3) := by rw [if_neg (show ¬ (false = true) by decide)] at H; exact H
   clear H; have H := H1; clear H1; have H' := Aside0.mk H; clear H; have hnb16 := NB119_120.out; have hnc16 := NB120_119.out; have hcz17_0 : w6.cell? ⟨gb119, 0, none⟩ = some (.int .i64 a0_0) := (blk_cell BK119.out 0).trans rfl; have hcz17_1 : w6.cell? ⟨gb119, 1, none⟩ = some (.bool a0_1) := (blk_cell BK119.out 1).trans rfl; have hfz17_0 := blk_frozen BK119.out 0; have hfz17_1 := blk_frozen BK119.out 1; go_wp2_with (first | ((with_reducible refine gate_callee (f := 88) rfl ?_); refine goesL_ (some 10) rfl rfl Tryd.func88 (by kernel_rfl) rfl #[.agg #[.int .i64 a0_0, .bool a0_1]] rfl (by (try simp only [List.map_toArray, List.map_cons, List.map_nil]); first | done | rfl | (simp only [List.length_drop, List.length_take]; rfl)) ?_; (with_reducible refine (impl_Tone_valid.calls a0_0 a0_1 false _ A7.out).mono ?_); rintro e w18 ⟨rfl, hb⟩; refine ⟨_, rfl, ?_⟩; have n0_ := Aside0.mk (blk_below (g := gb119) (o := .cells #[.int .i64 a0_0, .bool a0_1] 29 (0, 0)) (by (with_reducible repeat (first | refine blk_drewN ?_ _ | refine blk_drew ?_ | refine blk_alloc ?_ _)); exact BK119.out) hb); have n1_ := Aside0.mk (blk_below (g := gb120) (o := .cells #[.int .i64 0, .bool false] 29 (0, 0)) (by (with_reducible repeat (first | refine blk_drewN ?_ _ | refine blk_drew ?_ | refine blk_alloc ?_ _)); exact BK120.out) hb); have n2_ := Aside0.mk (below_step (by repeat (first | (with_reducible first | exact HB.out | apply below_alloc | apply pw_below_drewN | apply below_drew1 | refine below_set ?_ GE119.out | refine below_set ?_ GE120.out) | exact HB.out)) hb); clear BK119; clear BK120; clear HB; have BK119 := n0_; have BK120 := n1_; have HB := n2_; clear n0_ n1_ n2_; (try clear hb); (try clear hb2); (try clear hk); (try clear hi)))
   go_meet
   case rel => exact ⟨_, (true), (by first | rfl | (simp; done) | (simp [*]; done)), H', ⟨by first | omega | exact Nat.le_refl _⟩, ⟨by (with_reducible repeat (first | refine blk_drewN ?_ _ | refine blk_drew ?_ | refine blk_alloc ?_ _)); exact BK119.out⟩, ⟨by (with_reducible repeat (first | refine blk_drewN ?_ _ | refine blk_drew ?_ | refine blk_alloc ?_ _)); exact BK120.out⟩, ⟨by repeat (first | (with_reducible first | exact HB.out | apply below_alloc | apply pw_below_drewN | apply below_drew1 | refine below_set ?_ GE119.out | refine below_set ?_ GE120.out) | exact HB.out)⟩⟩
 case rest =>
  clear HC4; try clear c1
  try clear p2
  try clear c5
  try clear c8
  try clear c9
  try clear c9b0
  try clear c10
  try clear c13
  try clear c16
  try clear hcz11_0
  try clear hcz11_1
  try clear hcz14_0
  try clear hcz14_1
  try clear hcz17_0
  try clear hcz17_1
  try clear hfz11_0
  try clear hfz11_1
  try clear hfz14_0
  try clear hfz14_1
  try clear hfz17_0
  try clear hfz17_1
  obtain ⟨kq, x19_3, rfl, HA, HJ3, BK119, BK120, HB⟩ := hcut; cases kq with
  | zero => exact absurd HA.out (by simp [impl_ToneAbove.j0])
  | succ kj3 =>
   have H := HA.out; clear HA; simp only [impl_ToneAbove.j0] at H; by_cases c19 : x19_3 = true
   ·
    subst c19; have H1 : (some (0, false, false)) = some (r1, r2, r3) := by rw [if_pos rfl] at H; exact H
    clear H; have H := H1; clear H1; simp only [Option.some.injEq, Prod.mk.injEq] at H; obtain ⟨rfl, rfl, rfl⟩ := H; have hnb20 := NB120_119.out; have hnc20 := NB119_120.out; have hcz21_0 : wc.cell? ⟨gb120, 0, none⟩ = some (.int .i64 0) := (blk_cell BK120.out 0).trans rfl; have hcz21_1 : wc.cell? ⟨gb120, 1, none⟩ = some (.bool false) := (blk_cell BK120.out 1).trans rfl; have hfz21_0 := blk_frozen BK120.out 0; have hfz21_1 := blk_frozen BK120.out 1; go_wp2; refine bodyPost_ret (results_ct rfl _ _ gb120 29 #[.int .i64 0, .bool false] (0, 0) _ rfl (by (with_reducible repeat (first | refine blk_drewN ?_ _ | refine blk_drew ?_ | refine blk_alloc ?_ _)); refine blk_put (cs := #[.int .i64 0, .bool false]) ?_ 1 _ rfl; (with_reducible repeat (first | refine blk_drewN ?_ _ | refine blk_drew ?_ | refine blk_alloc ?_ _)); refine blk_put (cs := #[.int .i64 0, .bool false]) ?_ 0 _ rfl; (with_reducible repeat (first | refine blk_drewN ?_ _ | refine blk_drew ?_ | refine blk_alloc ?_ _)); exact BK120.out) Tryd.underlying29 rfl (by kernel_rfl)) rfl ?_; exact ⟨by first | rfl | (simp [errW_none, errW_some] <;> rfl) | (simp [*, errW_none, errW_some] <;> rfl), by repeat (first | (with_reducible first | exact HB.out | apply below_alloc | apply pw_below_drewN | apply below_drew1 | refine below_set ?_ GE119.out | refine below_set ?_ GE120.out) | exact HB.out)⟩
   ·
    replace c19 := Bool.eq_false_iff.mpr c19; subst c19; have H1 : ((impl_Tone_valid.f (wrap64 (a0_0 + a1)) a2).bind fun t123 => (if t123 = true then (some (wrap64 (a0_0 + a1), a2, true)) else (some (0, false, false)))) = some (r1, r2, r3) := by rw [if_neg (show ¬ (false = true) by decide)] at H; exact H
    clear H; have H := H1; clear H1; replace H := Option.bind_eq_some_iff.mp H; obtain ⟨t123, A220, H⟩ := H; replace H : (if t123 = true then (some (wrap64 (a0_0 + a1), a2, true)) else (some (0, false, false))) = some (r1, r2, r3) := H; have A22 := Aside0.mk A220; clear A220; by_cases c23 : t123 = true
    ·
     subst c23; have H1 : (some (wrap64 (a0_0 + a1), a2, true)) = some (r1, r2, r3) := by rw [if_pos rfl] at H; exact H
     clear H; have H := H1; clear H1; simp only [Option.some.injEq, Prod.mk.injEq] at H; obtain ⟨rfl, rfl, rfl⟩ := H; have hnb24 := NB119_120.out; have hnc24 := NB120_119.out; have hcz25_0 : wc.cell? ⟨gb119, 0, none⟩ = some (.int .i64 a0_0) := (blk_cell BK119.out 0).trans rfl; have hcz25_1 : wc.cell? ⟨gb119, 1, none⟩ = some (.bool a0_1) := (blk_cell BK119.out 1).trans rfl; have hfz25_0 := blk_frozen BK119.out 0; have hfz25_1 := blk_frozen BK119.out 1; go_wp2_with (first | ((with_reducible refine gate_dst (N := 8) rfl ?_); refine box_event ?hg (N := 8) ?hd (cs := #[.int .i64 0, .bool false]) (t := 29) ?hr ?_; (case hd => rfl); (case hg => rfl); (case hr => first | (go_simp; done) | (go_simp; rfl)); intro gb122 hg w26 hbox hb; have n0_ := Aside0.mk (blk_below (g := gb119) (o := .cells #[.int .i64 a0_0, .bool a0_1] 29 (0, 0)) (by (with_reducible repeat (first | refine blk_drewN ?_ _ | refine blk_drew ?_ | refine blk_alloc ?_ _)); exact BK119.out) hb); have n1_ := Aside0.mk (blk_below (g := gb120) (o := .cells #[.int .i64 0, .bool false] 29 (0, 0)) (by (with_reducible repeat (first | refine blk_drewN ?_ _ | refine blk_drew ?_ | refine blk_alloc ?_ _)); exact BK120.out) hb); have n2_ := Aside0.mk (below_step (by repeat (first | (with_reducible first | exact HB.out | apply below_alloc | apply pw_below_drewN | apply below_drew1 | refine below_set ?_ GE119.out | refine below_set ?_ GE120.out) | exact HB.out)) hb); have n3_ := Aside0.mk (hbox); have n4_ := Aside0.mk ((by rw [hg]; exact (below_size (by repeat (first | (with_reducible first | exact HB.out | apply below_alloc | apply pw_below_drewN | apply below_drew1 | refine below_set ?_ GE119.out | refine below_set ?_ GE120.out) | exact HB.out))) : w.heap.size ≤ gb122)); have n5_ := Aside0.mk ((by rw [hg]; exact (below_size (by repeat (first | (with_reducible first | exact HB.out | apply below_alloc | apply pw_below_drewN | apply below_drew1 | refine below_set ?_ GE119.out | refine below_set ?_ GE120.out) | exact HB.out))) : w.heap.size ≤ gb122)); have n6_ := Aside0.mk ((by rw [hg]; exact Nat.ne_of_lt (blk_lt (g := gb119) (o := .cells #[.int .i64 a0_0, .bool a0_1] 29 (0, 0)) (by (with_reducible repeat (first | refine blk_drewN ?_ _ | refine blk_drew ?_ | refine blk_alloc ?_ _)); exact BK119.out)) : gb119 ≠ gb122)); have n7_ := Aside0.mk ((by rw [hg]; exact Nat.ne_of_gt (blk_lt (g := gb119) (o := .cells #[.int .i64 a0_0, .bool a0_1] 29 (0, 0)) (by (with_reducible repeat (first | refine blk_drewN ?_ _ | refine blk_drew ?_ | refine blk_alloc ?_ _)); exact BK119.out)) : gb122 ≠ gb119)); have n8_ := Aside0.mk ((by rw [hg]; exact Nat.ne_of_lt (blk_lt (g := gb120) (o := .cells #[.int .i64 0, .bool false] 29 (0, 0)) (by (with_reducible repeat (first | refine blk_drewN ?_ _ | refine blk_drew ?_ | refine blk_alloc ?_ _)); exact BK120.out)) : gb120 ≠ gb122)); have n9_ := Aside0.mk ((by rw [hg]; exact Nat.ne_of_gt (blk_lt (g := gb120) (o := .cells #[.int .i64 0, .bool false] 29 (0, 0)) (by (with_reducible repeat (first | refine blk_drewN ?_ _ | refine blk_drew ?_ | refine blk_alloc ?_ _)); exact BK120.out)) : gb122 ≠ gb120)); clear BK119; clear BK120; clear HB; have BK119 := n0_; have BK120 := n1_; have HB := n2_; have BK122 := n3_; have GW122 := n4_; have GE122 := n5_; have NB119_122 := n6_; have NB122_119 := n7_; have NB120_122 := n8_; have NB122_120 := n9_; clear n0_ n1_ n2_ n3_ n4_ n5_ n6_ n7_ n8_ n9_; clear hb hbox hg; have hnb27 := NB122_119.out; have hnc27 := NB119_122.out; have hnb28 := NB122_120.out; have hnc28 := NB120_122.out; have hcz29_0 : w26.cell? ⟨gb122, 0, none⟩ = some (.int .i64 0) := (blk_cell BK122.out 0).trans rfl; have hcz29_1 : w26.cell? ⟨gb122, 1, none⟩ = some (.bool false) := (blk_cell BK122.out 1).trans rfl; have hfz29_0 := blk_frozen BK122.out 0; have hfz29_1 := blk_frozen BK122.out 1) | ((with_reducible refine gate_callee (f := 88) rfl ?_); refine goesL_ (some 28) rfl rfl Tryd.func88 (by kernel_rfl) rfl #[.agg #[.int .i64 (wrap64 (a0_0 + a1)), .bool a2]] rfl (by (try simp only [List.map_toArray, List.map_cons, List.map_nil]); first | done | rfl | (simp only [List.length_drop, List.length_take]; rfl)) ?_; (with_reducible refine (impl_Tone_valid.calls (wrap64 (a0_0 + a1)) a2 true _ A22.out).mono ?_); rintro e w30 ⟨rfl, hb⟩; refine ⟨_, rfl, ?_⟩; have n0_ := Aside0.mk (blk_below (g := gb119) (o := .cells #[.int .i64 a0_0, .bool a0_1] 29 (0, 0)) (by (with_reducible repeat (first | refine blk_drewN ?_ _ | refine blk_drew ?_ | refine blk_alloc ?_ _)); refine blk_far ?_ NB119_122.out _; (with_reducible repeat (first | refine blk_drewN ?_ _ | refine blk_drew ?_ | refine blk_alloc ?_ _)); refine blk_far ?_ NB119_122.out _; (with_reducible repeat (first | refine blk_drewN ?_ _ | refine blk_drew ?_ | refine blk_alloc ?_ _)); exact BK119.out) hb); have n1_ := Aside0.mk (blk_below (g := gb120) (o := .cells #[.int .i64 0, .bool false] 29 (0, 0)) (by (with_reducible repeat (first | refine blk_drewN ?_ _ | refine blk_drew ?_ | refine blk_alloc ?_ _)); refine blk_far ?_ NB120_122.out _; (with_reducible repeat (first | refine blk_drewN ?_ _ | refine blk_drew ?_ | refine blk_alloc ?_ _)); refine blk_far ?_ NB120_122.out _; (with_reducible repeat (first | refine blk_drewN ?_ _ | refine blk_drew ?_ | refine blk_alloc ?_ _)); exact BK120.out) hb); have n2_ := Aside0.mk (blk_below (g := gb122) (o := .cells #[.int .i64 (wrap64 (a0_0 + a1)), .bool a2] 29 (0, 0)) (by (with_reducible repeat (first | refine blk_drewN ?_ _ | refine blk_drew ?_ | refine blk_alloc ?_ _)); refine blk_put (cs := #[.int .i64 (wrap64 (a0_0 + a1)), .bool false]) ?_ 1 _ rfl; (with_reducible repeat (first | refine blk_drewN ?_ _ | refine blk_drew ?_ | refine blk_alloc ?_ _)); refine blk_put (cs := #[.int .i64 0, .bool false]) ?_ 0 _ rfl; (with_reducible repeat (first | refine blk_drewN ?_ _ | refine blk_drew ?_ | refine blk_alloc ?_ _)); exact BK122.out) hb); have n3_ := Aside0.mk (below_step (by repeat (first | (with_reducible first | exact HB.out | apply below_alloc | apply pw_below_drewN | apply below_drew1 | refine below_set ?_ GE119.out | refine below_set ?_ GE120.out | refine below_set ?_ GE122.out) | exact HB.out)) hb); clear BK119; clear BK120; clear BK122; clear HB; have BK119 := n0_; have BK120 := n1_; have BK122 := n2_; have HB := n3_; clear n0_ n1_ n2_ n3_; (try clear hb); (try clear hb2); (try clear hk); (try clear hi); have hcz31_0 : w30.cell? ⟨gb122, 0, none⟩ = some (.int .i64 (wrap64 (a0_0 + a1))) := (blk_cell BK122.out 0).trans rfl; have hcz31_1 : w30.cell? ⟨gb122, 1, none⟩ = some (.bool a2) := (blk_cell BK122.out 1).trans rfl; have hfz31_0 := blk_frozen BK122.out 0; have hfz31_1 := blk_frozen BK122.out 1; have hcz32_0 : w30.cell? ⟨gb120, 0, none⟩ = some (.int .i64 0) := (blk_cell BK120.out 0).trans rfl; have hcz32_1 : w30.cell? ⟨gb120, 1, none⟩ = some (.bool false) := (blk_cell BK120.out 1).trans rfl; have hfz32_0 := blk_frozen BK120.out 0; have hfz32_1 := blk_frozen BK120.out 1))
     refine bodyPost_ret (results_ct rfl _ _ gb120 29 #[.int .i64 (wrap64 (a0_0 + a1)), .bool a2] (0, 0) _ rfl (by (with_reducible repeat (first | refine blk_drewN ?_ _ | refine blk_drew ?_ | refine blk_alloc ?_ _)); refine blk_put (cs := #[.int .i64 (wrap64 (a0_0 + a1)), .bool false]) ?_ 1 _ rfl; (with_reducible repeat (first | refine blk_drewN ?_ _ | refine blk_drew ?_ | refine blk_alloc ?_ _)); refine blk_put (cs := #[.int .i64 0, .bool false]) ?_ 0 _ rfl; (with_reducible repeat (first | refine blk_drewN ?_ _ | refine blk_drew ?_ | refine blk_alloc ?_ _)); exact BK120.out) Tryd.underlying29 rfl (by kernel_rfl)) rfl ?_; exact ⟨by first | rfl | (simp [errW_none, errW_some] <;> rfl) | (simp [*, errW_none, errW_some] <;> rfl), by repeat (first | (with_reducible first | exact HB.out | apply below_alloc | apply pw_below_drewN | apply below_drew1 | refine below_set ?_ GE119.out | refine below_set ?_ GE120.out | refine below_set ?_ GE122.out) | exact HB.out)⟩
    ·
     replace c23 := Bool.eq_false_iff.mpr c23; subst c23; have H1 : (some (0, false, false)) = some (r1, r2, r3) := by rw [if_neg (show ¬ (false = true) by decide)] at H; exact H
     clear H; have H := H1; clear H1; simp only [Option.some.injEq, Prod.mk.injEq] at H; obtain ⟨rfl, rfl, rfl⟩ := H; have hnb33 := NB119_120.out; have hnc33 := NB120_119.out; have hcz34_0 : wc.cell? ⟨gb119, 0, none⟩ = some (.int .i64 a0_0) := (blk_cell BK119.out 0).trans rfl; have hcz34_1 : wc.cell? ⟨gb119, 1, none⟩ = some (.bool a0_1) := (blk_cell BK119.out 1).trans rfl; have hfz34_0 := blk_frozen BK119.out 0; have hfz34_1 := blk_frozen BK119.out 1; go_wp2_with (first | ((with_reducible refine gate_dst (N := 8) rfl ?_); refine box_event ?hg (N := 8) ?hd (cs := #[.int .i64 0, .bool false]) (t := 29) ?hr ?_; (case hd => rfl); (case hg => rfl); (case hr => first | (go_simp; done) | (go_simp; rfl)); intro gb122 hg w35 hbox hb; have n0_ := Aside0.mk (blk_below (g := gb119) (o := .cells #[.int .i64 a0_0, .bool a0_1] 29 (0, 0)) (by (with_reducible repeat (first | refine blk_drewN ?_ _ | refine blk_drew ?_ | refine blk_alloc ?_ _)); exact BK119.out) hb); have n1_ := Aside0.mk (blk_below (g := gb120) (o := .cells #[.int .i64 0, .bool false] 29 (0, 0)) (by (with_reducible repeat (first | refine blk_drewN ?_ _ | refine blk_drew ?_ | refine blk_alloc ?_ _)); exact BK120.out) hb); have n2_ := Aside0.mk (below_step (by repeat (first | (with_reducible first | exact HB.out | apply below_alloc | apply pw_below_drewN | apply below_drew1 | refine below_set ?_ GE119.out | refine below_set ?_ GE120.out) | exact HB.out)) hb); have n3_ := Aside0.mk (hbox); have n4_ := Aside0.mk ((by rw [hg]; exact (below_size (by repeat (first | (with_reducible first | exact HB.out | apply below_alloc | apply pw_below_drewN | apply below_drew1 | refine below_set ?_ GE119.out | refine below_set ?_ GE120.out) | exact HB.out))) : w.heap.size ≤ gb122)); have n5_ := Aside0.mk ((by rw [hg]; exact (below_size (by repeat (first | (with_reducible first | exact HB.out | apply below_alloc | apply pw_below_drewN | apply below_drew1 | refine below_set ?_ GE119.out | refine below_set ?_ GE120.out) | exact HB.out))) : w.heap.size ≤ gb122)); have n6_ := Aside0.mk ((by rw [hg]; exact Nat.ne_of_lt (blk_lt (g := gb119) (o := .cells #[.int .i64 a0_0, .bool a0_1] 29 (0, 0)) (by (with_reducible repeat (first | refine blk_drewN ?_ _ | refine blk_drew ?_ | refine blk_alloc ?_ _)); exact BK119.out)) : gb119 ≠ gb122)); have n7_ := Aside0.mk ((by rw [hg]; exact Nat.ne_of_gt (blk_lt (g := gb119) (o := .cells #[.int .i64 a0_0, .bool a0_1] 29 (0, 0)) (by (with_reducible repeat (first | refine blk_drewN ?_ _ | refine blk_drew ?_ | refine blk_alloc ?_ _)); exact BK119.out)) : gb122 ≠ gb119)); have n8_ := Aside0.mk ((by rw [hg]; exact Nat.ne_of_lt (blk_lt (g := gb120) (o := .cells #[.int .i64 0, .bool false] 29 (0, 0)) (by (with_reducible repeat (first | refine blk_drewN ?_ _ | refine blk_drew ?_ | refine blk_alloc ?_ _)); exact BK120.out)) : gb120 ≠ gb122)); have n9_ := Aside0.mk ((by rw [hg]; exact Nat.ne_of_gt (blk_lt (g := gb120) (o := .cells #[.int .i64 0, .bool false] 29 (0, 0)) (by (with_reducible repeat (first | refine blk_drewN ?_ _ | refine blk_drew ?_ | refine blk_alloc ?_ _)); exact BK120.out)) : gb122 ≠ gb120)); clear BK119; clear BK120; clear HB; have BK119 := n0_; have BK120 := n1_; have HB := n2_; have BK122 := n3_; have GW122 := n4_; have GE122 := n5_; have NB119_122 := n6_; have NB122_119 := n7_; have NB120_122 := n8_; have NB122_120 := n9_; clear n0_ n1_ n2_ n3_ n4_ n5_ n6_ n7_ n8_ n9_; clear hb hbox hg; have hnb36 := NB122_119.out; have hnc36 := NB119_122.out; have hnb37 := NB122_120.out; have hnc37 := NB120_122.out; have hcz38_0 : w35.cell? ⟨gb122, 0, none⟩ = some (.int .i64 0) := (blk_cell BK122.out 0).trans rfl; have hcz38_1 : w35.cell? ⟨gb122, 1, none⟩ = some (.bool false) := (blk_cell BK122.out 1).trans rfl; have hfz38_0 := blk_frozen BK122.out 0; have hfz38_1 := blk_frozen BK122.out 1) | ((with_reducible refine gate_callee (f := 88) rfl ?_); refine goesL_ (some 28) rfl rfl Tryd.func88 (by kernel_rfl) rfl #[.agg #[.int .i64 (wrap64 (a0_0 + a1)), .bool a2]] rfl (by (try simp only [List.map_toArray, List.map_cons, List.map_nil]); first | done | rfl | (simp only [List.length_drop, List.length_take]; rfl)) ?_; (with_reducible refine (impl_Tone_valid.calls (wrap64 (a0_0 + a1)) a2 false _ A22.out).mono ?_); rintro e w39 ⟨rfl, hb⟩; refine ⟨_, rfl, ?_⟩; have n0_ := Aside0.mk (blk_below (g := gb119) (o := .cells #[.int .i64 a0_0, .bool a0_1] 29 (0, 0)) (by (with_reducible repeat (first | refine blk_drewN ?_ _ | refine blk_drew ?_ | refine blk_alloc ?_ _)); refine blk_far ?_ NB119_122.out _; (with_reducible repeat (first | refine blk_drewN ?_ _ | refine blk_drew ?_ | refine blk_alloc ?_ _)); refine blk_far ?_ NB119_122.out _; (with_reducible repeat (first | refine blk_drewN ?_ _ | refine blk_drew ?_ | refine blk_alloc ?_ _)); exact BK119.out) hb); have n1_ := Aside0.mk (blk_below (g := gb120) (o := .cells #[.int .i64 0, .bool false] 29 (0, 0)) (by (with_reducible repeat (first | refine blk_drewN ?_ _ | refine blk_drew ?_ | refine blk_alloc ?_ _)); refine blk_far ?_ NB120_122.out _; (with_reducible repeat (first | refine blk_drewN ?_ _ | refine blk_drew ?_ | refine blk_alloc ?_ _)); refine blk_far ?_ NB120_122.out _; (with_reducible repeat (first | refine blk_drewN ?_ _ | refine blk_drew ?_ | refine blk_alloc ?_ _)); exact BK120.out) hb); have n2_ := Aside0.mk (blk_below (g := gb122) (o := .cells #[.int .i64 (wrap64 (a0_0 + a1)), .bool a2] 29 (0, 0)) (by (with_reducible repeat (first | refine blk_drewN ?_ _ | refine blk_drew ?_ | refine blk_alloc ?_ _)); refine blk_put (cs := #[.int .i64 (wrap64 (a0_0 + a1)), .bool false]) ?_ 1 _ rfl; (with_reducible repeat (first | refine blk_drewN ?_ _ | refine blk_drew ?_ | refine blk_alloc ?_ _)); refine blk_put (cs := #[.int .i64 0, .bool false]) ?_ 0 _ rfl; (with_reducible repeat (first | refine blk_drewN ?_ _ | refine blk_drew ?_ | refine blk_alloc ?_ _)); exact BK122.out) hb); have n3_ := Aside0.mk (below_step (by repeat (first | (with_reducible first | exact HB.out | apply below_alloc | apply pw_below_drewN | apply below_drew1 | refine below_set ?_ GE119.out | refine below_set ?_ GE120.out | refine below_set ?_ GE122.out) | exact HB.out)) hb); clear BK119; clear BK120; clear BK122; clear HB; have BK119 := n0_; have BK120 := n1_; have BK122 := n2_; have HB := n3_; clear n0_ n1_ n2_ n3_; (try clear hb); (try clear hb2); (try clear hk); (try clear hi); have hcz40_0 : w39.cell? ⟨gb120, 0, none⟩ = some (.int .i64 0) := (blk_cell BK120.out 0).trans rfl; have hcz40_1 : w39.cell? ⟨gb120, 1, none⟩ = some (.bool false) := (blk_cell BK120.out 1).trans rfl; have hfz40_0 := blk_frozen BK120.out 0; have hfz40_1 := blk_frozen BK120.out 1))
     refine bodyPost_ret (results_ct rfl _ _ gb120 29 #[.int .i64 0, .bool false] (0, 0) _ rfl (by (with_reducible repeat (first | refine blk_drewN ?_ _ | refine blk_drew ?_ | refine blk_alloc ?_ _)); refine blk_put (cs := #[.int .i64 0, .bool false]) ?_ 1 _ rfl; (with_reducible repeat (first | refine blk_drewN ?_ _ | refine blk_drew ?_ | refine blk_alloc ?_ _)); refine blk_put (cs := #[.int .i64 0, .bool false]) ?_ 0 _ rfl; (with_reducible repeat (first | refine blk_drewN ?_ _ | refine blk_drew ?_ | refine blk_alloc ?_ _)); exact BK120.out) Tryd.underlying29 rfl (by kernel_rfl)) rfl ?_; exact ⟨by first | rfl | (simp [errW_none, errW_some] <;> rfl) | (simp [*, errW_none, errW_some] <;> rfl), by repeat (first | (with_reducible first | exact HB.out | apply below_alloc | apply pw_below_drewN | apply below_drew1 | refine below_set ?_ GE119.out | refine below_set ?_ GE120.out | refine below_set ?_ GE122.out) | exact HB.out)⟩

end Go.Proofs.YthhnaplmjpacnaaDoor.PFnExactModeMoves
namespace Go.Proofs.YthhnaplmjpacnaaDoor.Pure
set_option linter.unusedVariables false
set_option linter.unusedSimpArgs false
open Go Go.RowKit Go.Proofs.YthhnaplmjpacnaaDoor.PFnExactModeMoves Go.Proofs.YthhnaplmjpacnaaDoorW.PrintWords Go.Proofs.YthhnaplmjpacnaaDoorW.PrintLast Go.Proofs.YthhnaplmjpacnaaDoorW.PrintMore

theorem Ev.succ {α : Type} {g : Nat → Option α} {r : α} (h : Ev (fun k => g (k + 1)) r) : Ev g r := Ev.step (fun _ => rfl) h
theorem Ev.pos {α : Type} {c : Prop} [Decidable c] {f g : Nat → Option α} {r : α} (hc : c) (h : Ev f r) : Ev (fun k => if c then f k else g k) r := by
 simp only [if_pos hc]; exact h
theorem Ev.neg {α : Type} {c : Prop} [Decidable c] {f g : Nat → Option α} {r : α} (hc : ¬ c) (h : Ev g r) : Ev (fun k => if c then f k else g k) r := by
 simp only [if_neg hc]; exact h
theorem Ev.someb {α β : Type} {a : α} {f : Nat → α → Option β} {r : β} (h : Ev (fun n => f n a) r) : Ev (fun n => (some a).bind (f n)) r := h
theorem Ev.conb {α β : Type} {x : Option α} {a : α} {f : Nat → α → Option β} {r : β} (hx : x = some a) (h : Ev (fun n => f n a) r) : Ev (fun n => x.bind (f n)) r := by subst hx; exact h
theorem Ev.eqr {α : Type} {g : Nat → Option α} {r r' : α} (h : Ev g r) (e : r = r') : Ev g r' := e ▸ h
/-- A loop over the places of a list, from the front. -/
theorem Ev.over {α ρ σ : Type} (d : α) (xs : List α) (L : Nat → σ → Int → Option ρ) (F : σ → List α → ρ) (I : Nat → σ → Prop)
 (hend : ∀ s, I xs.length s → Ev (fun k => L k s (xs.length : Int)) (F s []))
 (hstep : ∀ s (i : Nat) rest, I i s → i < xs.length → xs.drop i = xs.getD i d :: rest → (∀ s', I (i + 1) s' → Ev (fun k => L k s' ((i : Int) + 1)) (F s' rest)) → Ev (fun k => L k s (i : Int)) (F s (xs.getD i d :: rest))) :
 ∀ (i : Nat) (s : σ), i ≤ xs.length → I i s → Ev (fun k => L k s (i : Int)) (F s (xs.drop i)) := by
 intro i s hi hI
 obtain ⟨n, hn⟩ : ∃ n, n = xs.length - i := ⟨_, rfl⟩
 induction n generalizing i s with
 | zero =>
  have e : i = xs.length := by omega
  subst e
  rw [List.drop_length]
  exact hend s hI
 | succ n ih =>
  have hlt : i < xs.length := by omega
  have e : xs.drop i = xs.getD i d :: xs.drop (i + 1) := by
   rw [List.drop_eq_getElem_cons hlt, List.getD_eq_getElem?_getD, List.getElem?_eq_getElem hlt]; rfl
  rw [e]
  refine hstep s i _ hI hlt e (fun s' hs' => ?_)
  have := ih (i + 1) s' (by omega) hs' (by omega)
  simpa using this
theorem w64 {x : Int} (h : -9223372036854775808 ≤ x) (h' : x ≤ 9223372036854775807) : wrap64 x = x := by unfold wrap64; omega
theorem mx_le (a b : Int) : a ≤ mx a b ∧ b ≤ mx a b ∧ (mx a b = a ∨ mx a b = b) := by unfold mx; split <;> omega
theorem mn_le (a b : Int) : mn a b ≤ a ∧ mn a b ≤ b ∧ (mn a b = a ∨ mn a b = b) := by unfold mn; split <;> omega
theorem Ev.upto {ρ σ : Type} (L : Nat → σ → Int → Option ρ) (S : Nat → σ) (n : Nat) (r : ρ) (hend : Ev (fun k => L k (S n) (n : Int)) r)
 (hstep : ∀ i < n, Ev (fun k => L k (S (i + 1)) ((i : Int) + 1)) r → Ev (fun k => L k (S i) (i : Int)) r) : ∀ i ≤ n, Ev (fun k => L k (S i) (i : Int)) r := by
 intro i hi
 obtain ⟨d, hd⟩ : ∃ d, d = n - i := ⟨_, rfl⟩
 induction d generalizing i with
 | zero =>
  obtain rfl : i = n := by omega
  exact hend
 | succ d ih =>
  have := ih (i + 1) (by omega) (by omega)
  refine hstep i (by omega) ?_
  simpa using this

def toneOk (t : S29) : Bool := decide (0 ≤ t.f0 ∧ t.f0 ≤ 20) && (!t.f1 || Int.tmod t.f0 7 == 2)
def melOk (m : List S29) : Bool := decide (m.length ≤ 24) && m.all toneOk
theorem melOk_len {m : List S29} (h : melOk m = true) : m.length ≤ 24 := by
 unfold melOk at h; simp at h; exact h.1
theorem impl_Tone_valid_eq (a : Int) (b : Bool) : impl_Tone_valid.f a b = some (toneOk ⟨a, b⟩) := by
 unfold impl_Tone_valid.f toneOk
 by_cases h : a ≥ 0
 ·
  by_cases h' : a ≤ 20
  ·
   cases b
   ·
    simp [h, h']
   ·
    simp [h, h']
  ·
   simp [h, h']
 ·
  have : ¬ (0 ≤ a) := h
  simp [this]

theorem impl_MelodyValid_ev (m : List S29) : Ev (fun k => impl_MelodyValid.f k m) (melOk m) := by
 unfold impl_MelodyValid.f
 by_cases h : (m.length : Int) > 24
 ·
  refine Ev.eqr (Ev.pos h (Ev.now _)) ?_
  unfold melOk
  rw [decide_eq_false (by omega)]; rfl
 ·
  refine Ev.eqr (Ev.neg h (r := m.all toneOk) ?_) (by unfold melOk; rw [decide_eq_true (by omega)]; rfl)
  have := Ev.over z29 m (fun k (_ : Unit) i => impl_MelodyValid.l0 k m m.length i) (fun _ l => l.all toneOk) (fun _ _ => True) (by
   intro s _
   refine Ev.succ ?_
   simp only [impl_MelodyValid.l0]
   exact Ev.neg (by omega) (Ev.now _)) (by
   intro s i rest _ hi _ ih
   refine Ev.succ ?_
   simp only [impl_MelodyValid.l0]
   refine Ev.pos (by omega) (Ev.pos (by omega) (Ev.pos (by omega) (Ev.conb (impl_Tone_valid_eq _ _) ?_)))
   show Ev _ (toneOk (rd_T29 m i) && _)
   cases ht : toneOk (rd_T29 m i)
   ·
    exact Ev.neg (by simp [ht]) (Ev.now _)
   ·
    refine Ev.pos (by simp [ht]) ?_
    rw [w64 (by omega) (by omega)]
    simpa using ih () trivial) 0 () (Nat.zero_le _) trivial
  simpa using this

theorem spec_l6In_eq (a b c : Int) : spec_l6In.f a b c = some (decide (b ≤ a ∧ a ≤ c)) := by
 unfold spec_l6In.f
 by_cases h : a ≥ b
 ·
  rw [if_pos h]; simp [show b ≤ a from h]
 ·
  rw [if_neg h]; simp [show ¬ b ≤ a from h]

theorem spec_ToneValid_eq (a : Int) (b : Bool) : spec_ToneValid.f a b = some (toneOk ⟨a, b⟩) := by
 unfold spec_ToneValid.f toneOk
 rw [spec_l6In_eq]
 by_cases h : 0 ≤ a ∧ a ≤ 20
 ·
  cases b <;> simp [h, spec_l1Letter.f]
 ·
  simp [h]
theorem spec_MelodyValid_ev (m : List S29) (hm : m.length ≤ 1000000000000) : Ev (fun k => spec_MelodyValid.f k m) (melOk m) := by
 unfold spec_MelodyValid.f
 have := Ev.over z29 m (fun k (_ : Unit) i => spec_MelodyValid.l0 k m i) (fun _ l => l.all toneOk && decide (m.length ≤ 24)) (fun _ _ => True) (by
  intro s _
  refine Ev.succ ?_
  simp only [spec_MelodyValid.l0]
  refine Ev.eqr (Ev.neg (by omega) (Ev.now _)) ?_
  simp; omega) (by
  intro s i rest _ hi _ ih
  refine Ev.succ ?_
  simp only [spec_MelodyValid.l0]
  refine Ev.pos (by omega) (Ev.pos (by omega) (Ev.conb (spec_ToneValid_eq _ _) ?_))
  show Ev _ (toneOk (rd_T29 m i) && _ && _)
  cases ht : toneOk (rd_T29 m i)
  ·
   exact Ev.neg (by simp [ht]) (Ev.now _)
  ·
   refine Ev.pos (by simp [ht]) ?_
   rw [w64 (by omega) (by omega)]
   simpa using ih () trivial) 0 () (Nat.zero_le _) trivial
 refine Ev.eqr (by simpa using this) ?_
 unfold melOk
 rw [Bool.and_comm]

def mRow (mode : Int) : Int × Int × Int × Int :=
 if mode = 1 then (4, 8, 3, 12) else if mode = 2 then (4, 6, 0, 9) else if mode = 3 then (5, 10, 4, 13) else if mode = 4 then (5, 8, 1, 10) else if mode = 5 then (6, 10, 5, 14) else if mode = 6 then (6, 8, 2, 11) else if mode = 7 then (7, 11, 6, 15) else (7, 10, 3, 12)
def mOk (mode : Int) : Bool := decide (1 ≤ mode ∧ mode ≤ 8)
theorem mOk_cases {mode : Int} (h : mOk mode = true) : mode = 1 ∨ mode = 2 ∨ mode = 3 ∨ mode = 4 ∨ mode = 5 ∨ mode = 6 ∨ mode = 7 ∨ mode = 8 := by
 unfold mOk at h; simp at h; omega
def mlo : Int → List S29 → Int
 | a, [] => a
 | a, x :: xs => mlo (mn a x.f0) xs
def mhi : Int → List S29 → Int
 | a, [] => a
 | a, x :: xs => mhi (mx a x.f0) xs
def mSome (m : List S29) : Bool := melOk m && decide (0 < m.length)
def mrange (m : List S29) : Int × Int × Bool := if mSome m = true then (mlo (rd_T29 m 0).f0 m, mhi (rd_T29 m 0).f0 m, true) else (0, 0, false)
def mIn (m : List S29) (mode : Int) : Bool :=
 mSome m && (mOk mode && ((rd_T29 m ((m.length : Int) - 1)).f0 == (mRow mode).1 && (!(rd_T29 m ((m.length : Int) - 1)).f1 && (decide ((mRow mode).2.2.1 ≤ mlo (rd_T29 m 0).f0 m) && decide (mhi (rd_T29 m 0).f0 m ≤ (mRow mode).2.2.2)))))
def mUp (m : List S29) : Nat → List Int
 | 0 => []
 | n + 1 => if mIn m ((n : Int) + 1) = true then mUp m n ++ [(n : Int) + 1] else mUp m n
theorem mUp_len (m : List S29) : ∀ n, (mUp m n).length ≤ n
 | 0 => by simp [mUp]
 | n + 1 => by
  have := mUp_len m n
  simp only [mUp]
  split
  ·
   simp; omega
  ·
   omega

theorem spec_MelodyRange_ev (m : List S29) (hm : m.length ≤ 1000000000000) : Ev (fun k => spec_MelodyRange.f k m) (mrange m) := by
 unfold spec_MelodyRange.f mrange mSome
 refine Ev.bind (spec_MelodyValid_ev m hm) ?_
 cases hok : melOk m
 ·
  refine Ev.neg (by simp) (Ev.succ ?_)
  simp only [spec_MelodyRange.j0, if_true]
  exact Ev.eqr (Ev.now _) (by simp)
 refine Ev.pos rfl (Ev.succ ?_)
 simp only [spec_MelodyRange.j0]
 by_cases h0 : 0 < m.length
 ·
  rw [decide_eq_true h0, if_pos (by simp)]
  refine Ev.neg (by simp; intro h; subst h; simp at h0) (Ev.pos (by omega) ?_)
  have := Ev.over z29 m (fun k (s : Int × Int) i => spec_MelodyRange.l0 k m s.1 s.2 i) (fun s rest => (mlo s.1 rest, mhi s.2 rest, true)) (fun _ _ => True) (by
   intro s _
   refine Ev.succ ?_
   simp only [spec_MelodyRange.l0, mlo, mhi]
   exact Ev.neg (by omega) (Ev.now _)) (by
   intro s i rest _ hi _ ih
   refine Ev.succ ?_
   simp only [spec_MelodyRange.l0, mlo, mhi]
   rw [w64 (by omega) (by omega)]
   exact Ev.pos (by omega) (Ev.pos (by omega) (ih (_, _) trivial))) 0 ((rd_T29 m 0).f0, (rd_T29 m 0).f0) (Nat.zero_le _) trivial
  simpa using this
 ·
  have e : m = [] := List.eq_nil_of_length_eq_zero (by omega)
  subst e
  exact Ev.pos rfl (Ev.eqr (Ev.now _) (by simp))
theorem spec_l5Mode_eq (mode : Int) : spec_l5Mode.f mode = some (mOk mode) := by
 unfold spec_l5Mode.f
 rw [spec_l6In_eq]; rfl
theorem spec_ModeFinal_eq {mode : Int} (h : mOk mode = true) : spec_ModeFinal.f mode = some (mRow mode).1 := by
 rcases mOk_cases h with rfl | rfl | rfl | rfl | rfl | rfl | rfl | rfl <;> kernel_rfl
theorem spec_ModeRange_eq {mode : Int} (h : mOk mode = true) : spec_ModeRange.f mode = some ((mRow mode).2.2.1, (mRow mode).2.2.2, true) := by
 rcases mOk_cases h with rfl | rfl | rfl | rfl | rfl | rfl | rfl | rfl <;> kernel_rfl
theorem spec_ModeRange_no {mode : Int} (h : mOk mode = false) : spec_ModeRange.f mode = some (0, 0, false) := by
 unfold spec_ModeRange.f
 rw [spec_l5Mode_eq, h]; rfl
theorem spec_ModeIn_ev (m : List S29) (mode : Int) (hm : m.length ≤ 1000000000000) : Ev (fun k => spec_ModeIn.f k m mode) (mIn m mode) := by
 unfold spec_ModeIn.f
 refine Ev.bind (spec_MelodyRange_ev m hm) ?_
 unfold mIn mrange
 cases hs : mSome m
 ·
  rw [if_neg (by simp)]
  cases hok : mOk mode
  ·
   exact Ev.conb (spec_ModeRange_no hok) (Ev.neg (by simp) (Ev.now _))
  ·
   exact Ev.conb (spec_ModeRange_eq hok) (Ev.neg (by simp) (Ev.now _))
 rw [if_pos rfl]
 have h0 : 0 < m.length := by unfold mSome at hs; simp at hs; exact hs.2
 cases hok : mOk mode
 ·
  exact Ev.conb (spec_ModeRange_no hok) (Ev.pos rfl (Ev.neg (by simp) (Ev.now _)))
 refine Ev.conb (spec_ModeRange_eq hok) (Ev.pos rfl (Ev.pos rfl ?_))
 simp only [Bool.true_and]
 rw [w64 (x := (m.length : Int) - 1) (by omega) (by omega)]
 by_cases h1 : mlo (rd_T29 m 0).f0 m < (mRow mode).2.2.1
 ·
  refine Ev.pos h1 (Ev.eqr (Ev.now _) ?_)
  rw [decide_eq_false (by omega : ¬ (mRow mode).2.2.1 ≤ mlo (rd_T29 m 0).f0 m)]; simp
 ·
  refine Ev.neg h1 ?_
  rw [decide_eq_true (by omega : (mRow mode).2.2.1 ≤ mlo (rd_T29 m 0).f0 m)]
  by_cases h2 : mhi (rd_T29 m 0).f0 m > (mRow mode).2.2.2
  ·
   refine Ev.pos h2 (Ev.eqr (Ev.now _) ?_)
   rw [decide_eq_false (by omega : ¬ mhi (rd_T29 m 0).f0 m ≤ (mRow mode).2.2.2)]; simp
  ·
   refine Ev.neg h2 (Ev.pos (by omega) (Ev.pos (by omega) (Ev.conb (spec_ModeFinal_eq hok) (Ev.eqr (Ev.now _) ?_))))
   rw [decide_eq_true (by omega : mhi (rd_T29 m 0).f0 m ≤ (mRow mode).2.2.2)]; simp

theorem spec_ModeAll_ev (m : List S29) (hm : m.length ≤ 1000000000000) : Ev (fun k => spec_ModeAll.f k m) (mUp m 8) := by
 unfold spec_ModeAll.f
 have := Ev.upto (fun k (s : List Int) i => spec_ModeAll.l0 k m s (i + 1)) (fun i => mUp m i) 8 (mUp m 8) (by
  refine Ev.succ ?_
  simp only [spec_ModeAll.l0]
  exact Ev.neg (by omega) (Ev.now _)) (by
  intro i hi ih
  have hl := mUp_len m i
  refine Ev.succ ?_
  simp only [spec_ModeAll.l0]
  rw [w64 (by omega) (by omega)]
  refine Ev.pos (by omega) (Ev.bind (spec_ModeIn_ev m _ hm) ?_)
  simp only [mUp] at ih
  by_cases h : mIn m ((i : Int) + 1) = true
  ·
   rw [if_pos h] at ih
   exact Ev.pos h (Ev.pos (by omega) ih)
  ·
   rw [if_neg h] at ih
   exact Ev.neg h ih) 0 (Nat.zero_le _)
 simpa [mUp] using this

def Lk (w : World) (B : Nat) : Value → List S29 → Prop
 | v, [] => v = .pointer none
 | v, x :: xs => ∃ b nx, v = .pointer (some ⟨b, 0, none⟩) ∧ B ≤ b ∧ w.heap[b]? = some (.cells #[.int .i64 x.f0, .bool x.f1, nx] 103 (0, 0)) ∧ Lk w B nx xs
theorem Lk.below {w w' : World} {B : Nat} (hb : Below w.heap.size w w') : ∀ {xs : List S29} {v : Value}, Lk w B v xs → Lk w' B v xs
 | [], _, h => h
 | x :: xs, _, ⟨b, nx, h1, h2, h3, h4⟩ => ⟨b, nx, h1, h2, (hb.block _ (blk_lt h3)).trans h3, Lk.below hb h4⟩
theorem Lk.ptr {w : World} {B : Nat} : ∀ {xs : List S29} {v : Value}, Lk w B v xs → ∃ p, v = .pointer p
 | [], _, h => ⟨_, h⟩
 | x :: xs, _, ⟨b, nx, h1, _⟩ => ⟨_, h1⟩
set_option maxHeartbeats 4000000 in
set_option maxRecDepth 100000 in
theorem impl_linked_calls (m : List S29) (A0 : Option Addr) (c0 : Nat) (w : World) (hr0 : Kd.C k29 w A0 m.length m) (hc0 : m.length ≤ c0) (hm : m.length ≤ 1000000000000) :
 Calls Tryd.prog 96 #[.slice A0 m.length c0] w fun e w' => ∃ v, e = .returned v ∧ Lk w' w.heap.size v m ∧ Below w.heap.size w w' := by
 have HR0 := Aside0.mk hr0
 have HC0 := Aside0.mk hc0
 clear hr0 hc0
 have hu := Tryd.underlying103
 have hu1 := Tryd.underlying29
 go_enter Tryd.func96, Tryd.ntmps96
 go_wp2
 go_loopg [3, 4] m.length (fun kq v3 v4 w' => ∃ (i : Int), v4 = .int .i64 i ∧ Aside0 (kq = (i + 1).toNat ∧ -1 ≤ i ∧ i < (m.length : Int)) ∧ Aside0 (Lk w' w.heap.size v3 (m.drop (i + 1).toNat)) ∧ Aside0 (Below w.heap.size w w'))
 case atStart =>
  have e : ((m.length : Int) - 1 + 1).toNat = m.length := by omega
  have hL : Lk w w.heap.size (.pointer none) (m.drop ((m.length : Int) - 1 + 1).toNat) := by rw [e, List.drop_length]; rfl
  exact ⟨(m.length : Int) - 1, rfl, ⟨by omega, by omega, by omega⟩, ⟨hL⟩, ⟨by repeat (first | exact Below.refl _ _ | apply below_alloc | apply pw_below_drewN | apply below_drew1)⟩⟩
 case round =>
  obtain ⟨i, rfl, HX, HL, HB⟩ := hrel
  obtain ⟨hk, hi0, hi1⟩ := HX.out
  obtain ⟨p, rfl⟩ := HL.out.ptr
  by_cases h : 0 ≤ i
  ·
   have d1 : decide (0 ≤ i) = true := decide_eq_true h
   obtain ⟨ad, e1, ux0, ux1⟩ := at_T29 HR0.out i h hi1
   subst e1
   have hx0 := (HB.out.cell (World.block_lt_of_cell? w _ ux0)).trans ux0
   have hx1 := (HB.out.cell (World.block_lt_of_cell? w _ ux1)).trans ux1
   obtain ⟨X, hX⟩ : ∃ X, X = rd_T29 m i := ⟨_, rfl⟩
   rw [← hX] at hx0 hx1
   have hdr : Aside0 (m.drop (i - 1 + 1).toNat = X :: m.drop (i + 1).toNat) := by
    have e0 : (i - 1 + 1).toNat = i.toNat := by omega
    have e1 : (i + 1).toNat = i.toNat + 1 := by omega
    refine ⟨?_⟩
    rw [e0, e1, List.drop_eq_getElem_cons (by omega), hX]
    unfold rd_T29
    rw [List.getD_eq_getElem?_getD, List.getElem?_eq_getElem (by omega)]; rfl
   have NX : Aside0 ((i - 1 + 1).toNat < gk ∧ -1 ≤ i - 1 ∧ i - 1 < (m.length : Int)) := ⟨by omega, by omega, by omega⟩
   have j0 := eq_true h
   have j1 := eq_true hi1
   clear hX ux0 ux1 hk
   go_wp2_with ((with_reducible refine gate_dst (N := 18) rfl ?_); refine box_event ?hg (N := 18) ?hd (cs := #[.int .i64 X.f0, .bool X.f1, .pointer p]) (t := 103) ?hr ?_; (case hd => rfl); (case hg => rfl); (case hr => first | (go_simp; done) | (go_simp; rfl)); intro gb hg w3 hbox hb3; have HBX := Aside0.mk hbox; have HL3 := Aside0.mk (HL.out.below hb3); have HB3 := Aside0.mk (below_step HB.out hb3); have GW := Aside0.mk (show w.heap.size ≤ gb from (by rw [hg]; exact HB.out.size)); clear hg hbox hb3)
   go_roundg ((i - 1 + 1).toNat)
   case measure => exact NX.out.1
   case rel => exact ⟨i - 1, rfl, ⟨rfl, NX.out.2⟩, ⟨by rw [hdr.out]; exact ⟨gb, _, rfl, GW.out, HBX.out, HL3.out⟩⟩, HB3⟩
  ·
   have d1 : decide (0 ≤ i) = false := decide_eq_false h
   obtain rfl : i = -1 := by omega
   have HL' := HL.out
   go_wp2
   go_ret
   exact ⟨_, rfl, HL', HB.out⟩

def diffs (g : S29 → S29 → Int) : List S29 → List Int
 | [] => []
 | [_] => []
 | x :: y :: r => g x y :: diffs g (y :: r)
theorem melOk_all {m : List S29} (h : melOk m = true) : m.all toneOk = true := by
 unfold melOk at h; rw [Bool.and_eq_true] at h; exact h.2

def lhL : List Int := [0, 2, 4, 5, 7, 9, 10]
def lh (x : Int) : Int := lhL.getD (Int.tmod x 7).toNat 0
def hgt (t : S29) : Int := if t.f1 = true then lh t.f0 + 12 * Int.tdiv t.f0 7 - 1 else lh t.f0 + 12 * Int.tdiv t.f0 7
theorem toneOk_bd {t : S29} (h : toneOk t = true) : 0 ≤ t.f0 ∧ t.f0 ≤ 20 := by unfold toneOk at h; simp at h; exact h.1
theorem lh_bd (x : Int) : 0 ≤ lh x ∧ lh x ≤ 10 := by
 unfold lh
 generalize (Int.tmod x 7).toNat = n
 match n with
 | 0 => decide
 | 1 => decide
 | 2 => decide
 | 3 => decide
 | 4 => decide
 | 5 => decide
 | 6 => decide
 | n + 7 =>
  have : lhL.getD (n + 7) 0 = 0 := rfl
  rw [this]; decide
theorem mod7 {x : Int} (h : 0 ≤ x) : 0 ≤ Int.tmod x 7 ∧ Int.tmod x 7 < 7 := ⟨Int.tmod_nonneg _ h, Int.tmod_lt_of_pos _ (by decide)⟩
theorem div7 {x : Int} (h : 0 ≤ x) (h' : x ≤ 20) : 0 ≤ Int.tdiv x 7 ∧ Int.tdiv x 7 ≤ 2 := by
 rw [Int.tdiv_eq_ediv_of_nonneg h]; omega
theorem hgt_bd {t : S29} (h : toneOk t = true) : -1 ≤ hgt t ∧ hgt t ≤ 34 := by
 have h1 := toneOk_bd h
 have h2 := lh_bd t.f0
 have h3 := div7 h1.1 h1.2
 unfold hgt
 split <;> omega
def mvT (t : S29) (k : Int) (s : Bool) : S29 := ⟨t.f0 + k, s⟩
def mvGood (k semis : Int) (t : S29) (s : Bool) : Bool := toneOk (mvT t k s) && decide (hgt (mvT t k s) - hgt t = semis)
def mvAll (k semis : Int) : List S29 → Option (List S29)
 | [] => some []
 | t :: ts => if mvGood k semis t false = true then (mvAll k semis ts).map (mvT t k false :: ·) else if mvGood k semis t true = true then (mvAll k semis ts).map (mvT t k true :: ·) else none
def movedP (k semis : Int) (m : List S29) : List S29 × Bool := match mvAll k semis m with
 | some l => (l, true)
 | none => ([], false)
def mmTry (m : List S29) (k : Int) (s : Bool) : Bool := toneOk (mvT (rd_T29 m 0) k s) && (movedP k (hgt (mvT (rd_T29 m 0) k s) - hgt (rd_T29 m 0)) m).2
def mmOf (m : List S29) (k : Int) (s : Bool) : List S29 := (movedP k (hgt (mvT (rd_T29 m 0) k s) - hgt (rd_T29 m 0)) m).1
def mmove (m : List S29) (k : Int) : List S29 × Bool :=
 if melOk m = true then (if m.length = 0 then ([], true) else if -20 ≤ k ∧ k ≤ 20 then (if mmTry m k false = true then (mmOf m k false, true) else if mmTry m k true = true then (mmOf m k true, true) else ([], false)) else ([], false)) else ([], false)
theorem mvAll_len (k semis : Int) : ∀ (m l : List S29), mvAll k semis m = some l → l.length = m.length
 | [], l, h => by cases h; rfl
 | t :: ts, l, h => by
  simp only [mvAll] at h
  split at h
  ·
   obtain ⟨l', h1, rfl⟩ := Option.map_eq_some_iff.1 h
   simp [mvAll_len k semis ts l' h1]
  ·
   split at h
   ·
    obtain ⟨l', h1, rfl⟩ := Option.map_eq_some_iff.1 h
    simp [mvAll_len k semis ts l' h1]
   ·
    cases h
theorem movedP_len (k semis : Int) (m : List S29) : (movedP k semis m).1.length ≤ m.length := by
 unfold movedP
 cases h : mvAll k semis m with
 | none => exact Nat.zero_le _
 | some l => exact Nat.le_of_eq (mvAll_len k semis m l h)
theorem mmove_len (m : List S29) (k : Int) : (mmove m k).1.length ≤ 24 := by
 unfold mmove
 split
 ·
  rename_i h
  have := melOk_len h
  split
  ·
   exact Nat.zero_le _
  ·
   split
   ·
    split
    ·
     exact Nat.le_trans (movedP_len _ _ _) this
    ·
     split
     ·
      exact Nat.le_trans (movedP_len _ _ _) this
     ·
      exact Nat.zero_le _
   ·
    exact Nat.zero_le _
 ·
  exact Nat.zero_le _

theorem spec_l1Height_eq {t : S29} (h : toneOk t = true) : spec_l1Height.f t.f0 t.f1 = some (hgt t) := by
 have h1 := toneOk_bd h
 have h2 := lh_bd t.f0
 have h3 := div7 h1.1 h1.2
 have h4 := mod7 h1.1
 unfold spec_l1Height.f
 have e : spec_l1Letter.f t.f0 = some (Int.tmod t.f0 7) := rfl
 have er : rd ([0, 2, 4, 5, 7, 9, 10] : List Int) (Int.tmod t.f0 7) = lh t.f0 := rfl
 simp only [Option.bind_some]
 rw [e]
 simp only [Option.bind_some]
 rw [if_pos h4.1, if_pos (by simp; omega), er, w64 (x := Int.tdiv t.f0 7) (by omega) (by omega), w64 (x := 12 * Int.tdiv t.f0 7) (by omega) (by omega), w64 (x := 12 * Int.tdiv t.f0 7 + lh t.f0) (by omega) (by omega), w64 (x := 12 * Int.tdiv t.f0 7 + lh t.f0 - 1) (by omega) (by omega)]
 unfold hgt
 split
 ·
  congr 1; omega
 ·
  congr 1; omega
theorem spec_l2Moved_ev (m : List S29) (k semis : Int) (hm : melOk m = true) (hk : -20 ≤ k ∧ k ≤ 20) (hs : -100 ≤ semis ∧ semis ≤ 100) : Ev (fun n => spec_l2Moved.f n m k semis) (movedP k semis m) := by
 unfold spec_l2Moved.f
 have hl := melOk_len hm
 have hall := melOk_all hm
 have := Ev.over z29 m (fun n (y : List S29) i => spec_l2Moved.l0 n m k semis y i) (fun y rest => match mvAll k semis rest with | some l => (y ++ l, true) | none => ([], false)) (fun i y => y.length = i) (by
  intro y _
  refine Ev.succ ?_
  simp only [spec_l2Moved.l0]
  exact Ev.neg (by omega) (Ev.eqr (Ev.now _) (by simp [mvAll]))) (by
  intro y i rest hy hi hdr ih
  have hrd : rd_T29 m (i : Int) = m.getD i z29 := rfl
  have ht : toneOk (m.getD i z29) = true := by
   refine List.all_eq_true.1 hall _ ?_
   rw [List.getD_eq_getElem?_getD, List.getElem?_eq_getElem hi]; exact List.getElem_mem hi
  have hb := toneOk_bd ht
  have hh := hgt_bd ht
  refine Ev.succ ?_
  simp only [spec_l2Moved.l0]
  refine Ev.pos (by omega) ?_
  -- found: on to the next tone
  have found : ∀ (z : List S29) (s : Int), s = 1 ∨ s = 2 → Ev (fun n => spec_l2Moved.l0 n m k semis z ((i : Int) + 1)) (match mvAll k semis rest with | some l => (z ++ l, true) | none => ([], false)) → Ev (fun n => spec_l2Moved.l1 n m k semis z (i : Int) true s) (match mvAll k semis rest with | some l => (z ++ l, true) | none => ([], false)) := by
   intro z s hs h
   have go : Ev (fun n => spec_l2Moved.j2 n m k semis z (i : Int) true s false) (match mvAll k semis rest with | some l => (z ++ l, true) | none => ([], false)) := by
    refine Ev.succ ?_
    simp only [spec_l2Moved.j2]
    rw [w64 (x := (i : Int) + 1) (by omega) (by omega)]
    exact Ev.neg (by simp) (Ev.pos trivial h)
   refine Ev.succ ?_
   simp only [spec_l2Moved.l1, Bool.not_true]
   rcases hs with rfl | rfl
   ·
    exact Ev.pos (by decide) go
   ·
    exact Ev.neg (by decide) go
  -- one try
  have one : ∀ (s : Int) (b : Bool) (R : List S29 × Bool), (s = 0 ∨ s = 1) → (s == 1) = b → (mvGood k semis (m.getD i z29) b = true → Ev (fun n => spec_l2Moved.l1 n m k semis (y ++ [mvT (m.getD i z29) k b]) (i : Int) true (s + 1)) R) → (¬ mvGood k semis (m.getD i z29) b = true → Ev (fun n => spec_l2Moved.l1 n m k semis y (i : Int) false (s + 1)) R) → Ev (fun n => spec_l2Moved.l1 n m k semis y (i : Int) false s) R := by
   intro s b R hs hsb hyes hno
   refine Ev.succ ?_
   simp only [spec_l2Moved.l1, Bool.not_false]
   refine Ev.pos (by omega) (Ev.succ ?_)
   simp only [spec_l2Moved.j2]
   rw [hrd, w64 (x := s + 1) (by omega) (by omega), hsb]
   generalize m.getD i z29 = t at ht hb hh hyes hno
   rw [w64 (x := t.f0 + k) (by omega) (by omega)]
   refine Ev.pos trivial (Ev.pos (by omega) (Ev.pos (by omega) (Ev.conb (spec_ToneValid_eq _ _) ?_)))
   have e : (⟨t.f0 + k, b⟩ : S29) = mvT t k b := rfl
   rw [e]
   unfold mvGood at hyes hno
   cases hv : toneOk (mvT t k b)
   ·
    exact Ev.neg (by simp) (hno (by rw [hv]; simp))
   ·
    have hh2 := hgt_bd hv
    have e1 : spec_l1Height.f (t.f0 + k) b = some (hgt (mvT t k b)) := spec_l1Height_eq (t := mvT t k b) hv
    refine Ev.pos rfl (Ev.conb e1 (Ev.conb (spec_l1Height_eq ht) ?_))
    rw [w64 (x := hgt (mvT t k b) - hgt t) (by omega) (by omega)]
    by_cases hc : hgt (mvT t k b) - hgt t = semis
    ·
     exact Ev.pos hc (Ev.pos (by omega) (hyes (by rw [hv, decide_eq_true hc]; rfl)))
    ·
     exact Ev.neg hc (hno (by rw [decide_eq_false hc]; simp))
  simp only [mvAll]
  refine one 0 false _ (.inl rfl) rfl (fun h => ?_) (fun h => one (0 + 1) true _ (.inr rfl) rfl (fun h' => ?_) (fun h' => ?_))
  ·
   rw [if_pos h]
   have := found (y ++ [mvT (m.getD i z29) k false]) (0 + 1) (.inl rfl) (ih _ (by rw [List.length_append, List.length_singleton]; omega))
   refine Ev.eqr this ?_
   cases mvAll k semis rest <;> simp
  ·
   rw [if_neg h, if_pos h']
   have := found (y ++ [mvT (m.getD i z29) k true]) (0 + 1 + 1) (.inr rfl) (ih _ (by rw [List.length_append, List.length_singleton]; omega))
   refine Ev.eqr this ?_
   cases mvAll k semis rest <;> simp
  ·
   rw [if_neg h, if_neg h']
   refine Ev.succ ?_
   simp only [spec_l2Moved.l1]
   refine Ev.neg (by decide) (Ev.succ ?_)
   simp only [spec_l2Moved.j2]
   exact Ev.neg (by simp) (Ev.neg (by simp) (Ev.now _))) 0 [] (Nat.zero_le _) rfl
 refine Ev.eqr (by simpa using this) ?_
 unfold movedP
 cases mvAll k semis m <;> rfl
theorem spec_MelodyMove_ev (m : List S29) (k : Int) (hml : m.length ≤ 1000000000000) : Ev (fun n => spec_MelodyMove.f n m k) (mmove m k) := by
 unfold spec_MelodyMove.f mmove
 by_cases h0 : (m.length : Int) = 0
 ·
  have e : m = [] := List.eq_nil_of_length_eq_zero (by omega)
  subst e
  exact Ev.pos rfl (Ev.now _)
 refine Ev.neg h0 (Ev.bind (spec_MelodyValid_ev m hml) ?_)
 have no : Ev (fun n => spec_MelodyMove.j0 n m k true) (([] : List S29), false) := by
  refine Ev.succ ?_
  simp only [spec_MelodyMove.j0]
  exact Ev.pos trivial (Ev.now _)
 cases hok : melOk m
 ·
  exact Ev.neg (by simp) (Ev.eqr no (by simp))
 refine Ev.pos rfl (Ev.conb (spec_l6In_eq _ _ _) ?_)
 rw [if_pos rfl, if_neg (by omega)]
 by_cases hk : -20 ≤ k ∧ k ≤ 20
 ·
  rw [decide_eq_true hk, if_pos hk]
  refine Ev.succ ?_
  simp only [spec_MelodyMove.j0]
  refine Ev.neg (by simp) ?_
  have hl := melOk_len hok
  have ht : toneOk (rd_T29 m 0) = true := List.all_eq_true.1 (melOk_all hok) _ (by
   unfold rd_T29
   rw [List.getD_eq_getElem?_getD, List.getElem?_eq_getElem (by simp; omega)]; exact List.getElem_mem _)
  have hb := toneOk_bd ht
  have hh := hgt_bd ht
  have one : ∀ (s : Int) (b : Bool) (R : List S29 × Bool), (s = 0 ∨ s = 1) → (s == 1) = b → (mmTry m k b = true → R = (mmOf m k b, true)) → (¬ mmTry m k b = true → Ev (fun n => spec_MelodyMove.l0 n m k (s + 1)) R) → Ev (fun n => spec_MelodyMove.l0 n m k s) R := by
   intro s b R hs hsb hyes hno
   refine Ev.succ ?_
   simp only [spec_MelodyMove.l0]
   rw [w64 (x := s + 1) (by omega) (by omega), hsb]
   unfold mmTry mmOf at hyes
   unfold mmTry at hno
   generalize hT : rd_T29 m 0 = t at ht hb hh hyes hno
   rw [w64 (x := t.f0 + k) (by omega) (by omega)]
   refine Ev.pos (by omega) (Ev.pos (by omega) (Ev.conb (spec_ToneValid_eq _ _) ?_))
   have e : (⟨t.f0 + k, b⟩ : S29) = mvT t k b := rfl
   rw [e]
   cases hv : toneOk (mvT t k b)
   ·
    exact Ev.neg (by simp) (hno (by rw [hv]; simp))
   ·
    have hh2 := hgt_bd hv
    have e1 : spec_l1Height.f (t.f0 + k) b = some (hgt (mvT t k b)) := spec_l1Height_eq (t := mvT t k b) hv
    refine Ev.pos rfl (Ev.conb e1 (Ev.conb (spec_l1Height_eq ht) ?_))
    rw [w64 (x := hgt (mvT t k b) - hgt t) (by omega) (by omega)]
    refine Ev.bind (spec_l2Moved_ev m k _ hok hk (by omega)) ?_
    cases hp : (movedP k (hgt (mvT t k b) - hgt t) m).2
    ·
     exact Ev.neg (by simp) (hno (by rw [hp]; simp))
    ·
     exact Ev.pos rfl (Ev.eqr (Ev.now _) (hyes (by rw [hv, hp]; rfl)).symm)
  refine one 0 false _ (.inl rfl) rfl (fun h => by rw [if_pos h]) (fun h => one (0 + 1) true _ (.inr rfl) rfl (fun h' => by rw [if_neg h, if_pos h']) (fun h' => ?_))
  rw [if_neg h, if_neg h']
  refine Ev.succ ?_
  simp only [spec_MelodyMove.l0]
  exact Ev.neg (by decide) (Ev.now _)
 ·
  rw [decide_eq_false hk, if_neg hk]
  exact no

end Go.Proofs.YthhnaplmjpacnaaDoor.Pure
namespace Go.Proofs.YthhnaplmjpacnaaDoor.Pure
set_option linter.unusedVariables false
set_option linter.unusedSimpArgs false
open Go Go.RowKit Go.Proofs.YthhnaplmjpacnaaDoor.PFnExactModeMoves Go.Proofs.YthhnaplmjpacnaaDoorW.PrintWords Go.Proofs.YthhnaplmjpacnaaDoorW.PrintLast Go.Proofs.YthhnaplmjpacnaaDoorW.PrintMore

def hCells : Array Value := #[.int .i64 0, .int .i64 2, .int .i64 4, .int .i64 5, .int .i64 7, .int .i64 9, .int .i64 10]
def HTab (w : World) : Prop := ∃ t fz, w.heap[1]? = some (.cells hCells t fz)
theorem HTab.below {w w' : World} (h : HTab w) (hb : Below w.heap.size w w') : HTab w' := by
 obtain ⟨t, fz, h⟩ := h
 exact ⟨t, fz, (hb.block _ (blk_lt h)).trans h⟩
theorem HTab.at {w : World} (h : HTab w) (x : Int) (h0 : 0 ≤ x) : w.cell? ⟨1, (Int.tmod x 7).toNat, none⟩ = some (.int .i64 (lh x)) := by
 obtain ⟨t, fz, h⟩ := h
 refine (cell_of_row w _ _ hCells t fz h).trans ?_
 have := mod7 h0
 unfold lh
 obtain ⟨n, hn⟩ : ∃ n, n = (Int.tmod x 7).toNat := ⟨_, rfl⟩
 rw [← hn]
 have hn7 : n < 7 := by omega
 clear hn
 match n, hn7 with
 | 0, _ => rfl
 | 1, _ => rfl
 | 2, _ => rfl
 | 3, _ => rfl
 | 4, _ => rfl
 | 5, _ => rfl
 | 6, _ => rfl
set_option maxHeartbeats 4000000 in
set_option maxRecDepth 100000 in
theorem impl_height_calls (t : S29) (w : World) (ht : HTab w) (hok : toneOk t = true) :
 Calls Tryd.prog 73 #[.agg #[.int .i64 t.f0, .bool t.f1]] w fun e w' => e = .returned (.int .i64 (hgt t)) ∧ Below w.heap.size w w' := by
 have hu1 := Tryd.underlying29
 have hb := toneOk_bd hok
 have h4 := mod7 hb.1
 have h3 := div7 hb.1 hb.2
 have hl := lh_bd t.f0
 have HT := Aside0.mk ht
 have e1 : wrap64 (Int.tdiv t.f0 7) = Int.tdiv t.f0 7 := w64 (by omega) (by omega)
 have e2 : wrap64 (12 * Int.tdiv t.f0 7) = 12 * Int.tdiv t.f0 7 := w64 (by omega) (by omega)
 have e3 : wrap64 (lh t.f0 + 12 * Int.tdiv t.f0 7) = lh t.f0 + 12 * Int.tdiv t.f0 7 := w64 (by omega) (by omega)
 have e4 : wrap64 (lh t.f0 + 12 * Int.tdiv t.f0 7 - 1) = lh t.f0 + 12 * Int.tdiv t.f0 7 - 1 := w64 (by omega) (by omega)
 have i1 := eq_true h4.1
 have i2 := eq_true h4.2
 cases hs : t.f1
 ·
  have eh : hgt t = lh t.f0 + 12 * Int.tdiv t.f0 7 := by unfold hgt; rw [hs]; rfl
  rw [eh]
  clear eh hok ht
  go_enter Tryd.func73, Tryd.ntmps73
  go_wp2_with ((with_reducible refine gate_dst (N := 1) rfl ?_); refine box_event ?hg (N := 1) ?hd (cs := #[.int .i64 t.f0, .bool false]) (t := 29) ?hr ?_; (case hd => rfl); (case hg => rfl); (case hr => first | (go_simp; done) | (go_simp; rfl)); intro gb hg w3 hbox hb3; have HB3 := Aside0.mk hb3; have hx0 : w3.cell? ⟨gb, 0, none⟩ = some (.int .i64 t.f0) := (blk_cell hbox 0).trans rfl; have hx1 : w3.cell? ⟨gb, 1, none⟩ = some (.bool false) := (blk_cell hbox 1).trans rfl; have hgl := (HT.out.below hb3).at t.f0 hb.1; clear hg hbox hb3)
  go_region
  all_goals
   go_wp2
   go_ret
   exact ⟨rfl, below_drew1 HB3.out⟩
 ·
  have eh : hgt t = lh t.f0 + 12 * Int.tdiv t.f0 7 - 1 := by unfold hgt; rw [hs]; rfl
  rw [eh]
  clear eh hok ht
  go_enter Tryd.func73, Tryd.ntmps73
  go_wp2_with ((with_reducible refine gate_dst (N := 1) rfl ?_); refine box_event ?hg (N := 1) ?hd (cs := #[.int .i64 t.f0, .bool true]) (t := 29) ?hr ?_; (case hd => rfl); (case hg => rfl); (case hr => first | (go_simp; done) | (go_simp; rfl)); intro gb hg w3 hbox hb3; have HB3 := Aside0.mk hb3; have hx0 : w3.cell? ⟨gb, 0, none⟩ = some (.int .i64 t.f0) := (blk_cell hbox 0).trans rfl; have hx1 : w3.cell? ⟨gb, 1, none⟩ = some (.bool true) := (blk_cell hbox 1).trans rfl; have hgl := (HT.out.below hb3).at t.f0 hb.1; clear hg hbox hb3)
  go_region
  all_goals
   go_wp2
   go_ret
   exact ⟨rfl, below_drew1 HB3.out⟩
theorem impl_ToneAbove_eq (t : S29) (a : Int) (s : Bool) (ht : toneOk t = true) (ha : -20 ≤ a ∧ a ≤ 20) : impl_ToneAbove.f 1 t.f0 t.f1 a s = some (if toneOk (mvT t a s) = true then (t.f0 + a, s, true) else (0, false, false)) := by
 have hb := toneOk_bd ht
 unfold impl_ToneAbove.f
 rw [impl_Tone_valid_eq]
 have e : (⟨t.f0, t.f1⟩ : S29) = t := rfl
 have d : decide (a > 20) = false := decide_eq_false (by omega)
 rw [e, ht, Option.bind_some, if_pos rfl, if_neg (by omega), d]
 simp only [impl_ToneAbove.j0]
 rw [if_neg (by simp), w64 (x := t.f0 + a) (by omega) (by omega), impl_Tone_valid_eq, Option.bind_some]
 show (if toneOk (mvT t a s) = true then _ else _) = _
 split <;> rfl

end Go.Proofs.YthhnaplmjpacnaaDoor.Pure
namespace Go.Proofs.YthhnaplmjpacnaaDoor.Pure
set_option linter.unusedVariables false
set_option linter.unusedSimpArgs false
open Go Go.RowKit Go.Proofs.YthhnaplmjpacnaaDoor.PFnExactModeMoves Go.Proofs.YthhnaplmjpacnaaDoorW.PrintWords Go.Proofs.YthhnaplmjpacnaaDoorW.PrintLast Go.Proofs.YthhnaplmjpacnaaDoorW.PrintMore

def mvRes (k semis : Int) (X l : List S29) : List S29 × Bool := match mvAll k semis l with
 | some r => (X ++ r, true)
 | none => ([], false)
theorem mvRes_nil (k semis : Int) (X : List S29) : mvRes k semis X [] = (X, true) := by simp [mvRes, mvAll]
theorem mvRes_yes {k semis : Int} {X l : List S29} {x : S29} {b : Bool} (h : mvGood k semis x b = true) (h' : b = true → ¬ mvGood k semis x false = true) : mvRes k semis X (x :: l) = mvRes k semis (X ++ [mvT x k b]) l := by
 unfold mvRes
 simp only [mvAll]
 cases b
 ·
  rw [if_pos h]; cases mvAll k semis l <;> simp
 ·
  rw [if_neg (h' rfl), if_pos h]; cases mvAll k semis l <;> simp
theorem mvRes_no {k semis : Int} {X l : List S29} {x : S29} (h : ¬ mvGood k semis x true = true) (h' : ¬ mvGood k semis x false = true) : mvRes k semis X (x :: l) = ([], false) := by
 unfold mvRes
 simp only [mvAll]
 rw [if_neg h', if_neg h]
theorem movedP_res (k semis : Int) (m : List S29) : movedP k semis m = mvRes k semis [] m := by unfold movedP mvRes; cases mvAll k semis m <;> simp
theorem LkT.grown {w w1 : World} {B B' : Nat} {ok : Nat → Prop} {v0 : Value} {X : List S29} (hr : Kd.R k29 29 w B' ok v0 X) (hg : w.grownBy w1 v0.ownBlock) : ∀ {xs : List S29} {v : Value}, Lk w B v xs → Lk w1 B v xs
 | [], _, h => h
 | x :: xs, _, ⟨b, nx, h1, h2, h3, h4⟩ => ⟨b, nx, h1, h2, blk_grown h3 hg (Kd.R_ne hr h3 (by decide)), LkT.grown hr hg h4⟩
set_option maxHeartbeats 8000000 in
set_option maxRecDepth 100000 in
theorem impl_movedMelody_calls (m : List S29) (k semis : Int) (A0 : Option Addr) (c0 : Nat) (w : World) (ht : HTab w) (hr0 : Kd.C k29 w A0 m.length m) (hc0 : m.length ≤ c0) (hok : melOk m = true) (hk : -20 ≤ k ∧ k ≤ 20) :
 Calls Tryd.prog 72 #[.slice A0 m.length c0, .int .i64 k, .int .i64 semis] w fun e w' => ∃ v, e = .returned (.tuple #[v, .bool (movedP k semis m).2]) ∧ Kd.R k29 29 w' w.heap.size (fun _ => True) v (movedP k semis m).1 ∧ Below w.heap.size w w' := by
 have hu := Tryd.underlying103
 have hu1 := Tryd.underlying29
 have ix0 : ∀ w, (Instr.index 86 (.agg #[.bool false, .bool true]) (.int .i64 0)).run Tryd.prog w = .ok (.bool false) w := fun _ => by kernel_rfl
 have ix1 : ∀ w, (Instr.index 86 (.agg #[.bool false, .bool true]) (.int .i64 1)).run Tryd.prog w = .ok (.bool true) w := fun _ => by kernel_rfl
 have HT := Aside0.mk ht
 have HR0 := Aside0.mk hr0
 have HC0 := Aside0.mk hc0
 have hall := melOk_all hok
 have hlen := melOk_len hok
 have HKK := Aside0.mk hk
 obtain ⟨⟨R1, R2⟩, hR⟩ : ∃ R, R = movedP k semis m := ⟨_, rfl⟩
 rw [← hR]
 rw [movedP_res] at hR
 have HRR := Aside0.mk hR.symm
 have HALL := Aside0.mk (And.intro hall hlen)
 clear hr0 hc0 ht hR hok hall hk
 go_enter Tryd.func72, Tryd.ntmps72
 go_wp2_with (first
  | ((with_reducible refine gate_dst (N := 15) rfl ?_); refine Kd.R_lit k29 _ 29 ?hg (N := 15) ?hd (xs := ([] : List S29)) (inner := []) (ok := fun _ => True) (okp := fun _ => True) ?hr (Reps.none _ _) (fun _ hk => hk) trivial (Below.refl _ _) (Nat.le_refl _) (by simp) ?_; (case hd => rfl); (case hg => rfl); (case hr => first | (go_simp; done) | (go_simp; rfl)); intro v1 w1 ho1 hb1 _ _; have HO1 := Aside0.mk ho1; have HB1 := Aside0.mk hb1; clear ho1 hb1)
  | (go_at_call 96; refine (impl_linked_calls m _ _ w1 (Kd.C_below HR0.out HB1.out) HC0.out (by omega)).mono ?_; rintro e w3 ⟨v3, rfl, hl3, hb3⟩; have HL3 := Aside0.mk hl3; have HO3 := Aside0.mk (Kd.R_below HO1.out hb3); have HB3 := Aside0.mk (below_step HB1.out hb3); clear hl3 hb3))
 go_loopg [8, 9] m.length (fun kq v8 v9 w' => ∃ (X : List S29) (l : List S29), Aside0 (kq = l.length ∧ mvRes k semis X l = (R1, R2) ∧ l.all toneOk = true ∧ X.length + l.length ≤ 24) ∧ Aside0 (Kd.R k29 29 w' w.heap.size (fun _ => True) v8 X) ∧ Aside0 (Lk w' w1.heap.size v9 l) ∧ Aside0 (Below w.heap.size w w'))
 case atStart => exact ⟨[], m, ⟨rfl, HRR.out, HALL.out.1, by simpa using HALL.out.2⟩, HO3, HL3, HB3⟩
 case round =>
  clear HO3 HL3 HB3
  obtain ⟨X, l, HX, HO, HL, HB⟩ := hrel
  cases l with
  | nil =>
   obtain rfl := HL.out
   obtain ⟨A5, c5, e5⟩ := Kd.R_slice HO.out
   subst e5
   have hXD := HX.out.2.1
   rw [mvRes_nil] at hXD
   cases hXD
   go_wp2
   go_ret2
   exact ⟨_, rfl, HO.out, HB.out⟩
  | cons x l =>
   obtain ⟨b, nx, e1, hbw, hbx, hnx⟩ := HL.out
   subst e1
   obtain ⟨p, rfl⟩ := hnx.ptr
   have NXM : Aside0 (l.length < gk) := ⟨by have := HX.out.1; simp only [List.length_cons] at this; omega⟩
   have HBX := Aside0.mk hbx
   have HNX := Aside0.mk hnx
   have hxl := HX.out.2.2.1
   rw [List.all_cons, Bool.and_eq_true] at hxl
   have HXL := Aside0.mk hxl
   clear hxl hbx hnx HL
   go_wp2
   go_loopg [8, 10, 25] 2 (fun kq v8 v10 v25 w' => ∃ (j : Int), v10 = .bool false ∧ v25 = .int .i64 j ∧ Aside0 (kq = (2 - j).toNat ∧ 0 ≤ j ∧ j ≤ 2 ∧ (1 ≤ j → ¬ mvGood k semis x false = true) ∧ (2 ≤ j → ¬ mvGood k semis x true = true)) ∧ Aside0 (Kd.R k29 29 w' w.heap.size (fun _ => True) v8 X) ∧ Aside0 (w'.heap[b]? = some (.cells #[.int .i64 x.f0, .bool x.f1, .pointer p] 103 (0, 0))) ∧ Aside0 (Lk w' w1.heap.size (.pointer p) l) ∧ Aside0 (Below w.heap.size w w'))
   case atStart => exact ⟨0, rfl, rfl, ⟨rfl, by decide, by decide, by omega, by omega⟩, HO, HBX, HNX, HB⟩
   case round =>
    obtain ⟨j, rfl, rfl, HJ, HO2, HBX2, HNX2, HB2⟩ := hrel
    clear HO HBX HNX HB
    obtain ⟨hk, j0, j2, n0, n1⟩ := HJ.out
    by_cases h2 : j = 2
    ·
     subst h2
     have hR : (R1, R2) = ([], false) := HX.out.2.1.symm.trans (mvRes_no (n1 (by omega)) (n0 (by omega)))
     cases hR
     clear n0 n1 hk j0 j2
     go_wp2
     go_ret2
     exact ⟨_, rfl, Kd.R_nil _ _ _ _ _, HB2.out⟩
    have hj : j = 0 ∨ j = 1 := by omega
    have HY := Aside0.mk (toneOk_bd HXL.out.1)
    rcases hj with rfl | rfl
    ·
     have N0 : Aside0 True := ⟨trivial⟩
     have HK := Aside0.mk hk
     clear n0 n1 hk j0 j2 h2 HJ
     obtain ⟨ok, hv⟩ : ∃ ok, ok = toneOk (mvT x k false) := ⟨_, rfl⟩
     have HV := Aside0.mk hv
     have hta : impl_ToneAbove.f 1 x.f0 x.f1 k false = some (if ok = true then (x.f0 + k, false, true) else (0, false, false)) := by rw [impl_ToneAbove_eq x k false HXL.out.1 HKK.out, hv]
     have HTA := Aside0.mk hta
     clear hta hv
     have hx0 : wr.cell? ⟨b, 0, none⟩ = some (.int .i64 x.f0) := (blk_cell HBX2.out 0).trans rfl
     have hx1 : wr.cell? ⟨b, 1, none⟩ = some (.bool x.f1) := (blk_cell HBX2.out 1).trans rfl
     cases ok
     ·
      have NG : Aside0 (¬ mvGood k semis x false = true) := ⟨by unfold mvGood; rw [← HV.out]; simp⟩
      go_upto_region 10 with (first
       | (go_at_call 54; refine (impl_ToneAbove.calls 1 x.f0 x.f1 k false 0 false false _ (HTA.out.trans rfl)).mono ?_; rintro e w4 ⟨rfl, hb4⟩; have HB4 := Aside0.mk hb4; clear hb4)
       | ((with_reducible refine gate_dst (N := 13) rfl ?_); refine box_event ?hg (N := 13) ?hd (cs := #[.int .i64 0, .bool false]) (t := 29) ?hr ?_; (case hd => rfl); (case hg => rfl); (case hr => first | (go_simp; done) | (go_simp; rfl)); intro gb hg w5 hbox hb5; have HG := Aside0.mk (show w4.heap.size ≤ gb by omega); have HB5 := Aside0.mk hb5; have hcz0 : w5.cell? ⟨gb, 0, none⟩ = some (.int .i64 0) := (blk_cell hbox 0).trans rfl; have hcz1 : w5.cell? ⟨gb, 1, none⟩ = some (.bool false) := (blk_cell hbox 1).trans rfl; have hfz0 := blk_frozen hbox 0; have hfz1 := blk_frozen hbox 1; clear hbox hb5 hg))
      have hbW : Below wr.heap.size wr ((w5.setCell ⟨gb, 0, none⟩ (.int .i64 0)).setCell ⟨gb, 1, none⟩ (.bool false)) := below_step HB4.out (below_set (below_set HB5.out HG.out) HG.out)
      have HBW := Aside0.mk hbW
      clear hbW HB4 HB5 HG hcz0 hcz1 hx0 hx1 hfz0 hfz1
      generalize (w5.setCell ⟨gb, 0, none⟩ (.int .i64 0)).setCell ⟨gb, 1, none⟩ (.bool false) = wx at HBW ⊢
      go_region
      all_goals
       go_wp2
       go_roundg (2 - 1)
       case measure => have := HK.out; omega
       case rel => exact ⟨1, rfl, rfl, ⟨by decide, by decide, by decide, fun _ => NG.out, by omega⟩, ⟨Kd.R_below HO2.out (below_drew1 HBW.out)⟩, ⟨blk_below HBX2.out (below_drew1 HBW.out)⟩, ⟨Lk.below (below_drew1 HBW.out) HNX2.out⟩, ⟨below_step HB2.out (below_drew1 HBW.out)⟩⟩
     ·
      have HB' := Aside0.mk (hgt_bd (t := mvT x k false) HV.out.symm)
      have HB'' := Aside0.mk (hgt_bd HXL.out.1)
      obtain ⟨Y, hY⟩ : ∃ Y, Y = x.f0 + k := ⟨_, rfl⟩
      have hYT : mvT x k false = ⟨Y, false⟩ := by rw [hY]; rfl
      have hgood : mvGood k semis x false = decide (hgt ⟨Y, false⟩ - hgt x = semis) := by unfold mvGood; rw [← HV.out, ← hYT]; rfl
      have HGD := Aside0.mk hgood
      have HYT := Aside0.mk hYT
      have HYO := Aside0.mk (show toneOk ⟨Y, false⟩ = true by rw [← hYT]; exact HV.out.symm)
      have EW : Aside0 (IntKind.i64.wrap (hgt ⟨Y, false⟩ - hgt x) = hgt ⟨Y, false⟩ - hgt x) := ⟨by rw [← hYT, i64_w]; exact w64 (x := hgt (mvT x k false) - hgt x) (by have := HB'.out; have := HB''.out; omega) (by have := HB'.out; have := HB''.out; omega)⟩
      rw [← hY] at HTA
      clear hY hYT hgood HB' HB''
      go_upto_region 10 with (first
       | (go_at_call 54; refine (impl_ToneAbove.calls 1 x.f0 x.f1 k false Y false true _ (HTA.out.trans rfl)).mono ?_; rintro e w4 ⟨rfl, hb4⟩; have HB4 := Aside0.mk hb4; clear hb4)
       | ((with_reducible refine gate_dst (N := 13) rfl ?_); refine box_event ?hg (N := 13) ?hd (cs := #[.int .i64 0, .bool false]) (t := 29) ?hr ?_; (case hd => rfl); (case hg => rfl); (case hr => first | (go_simp; done) | (go_simp; rfl)); intro gb hg w5 hbox hb5; have HG := Aside0.mk (show w4.heap.size ≤ gb by omega); have HB5 := Aside0.mk hb5; have HBK := Aside0.mk hbox; have hcz0 : w5.cell? ⟨gb, 0, none⟩ = some (.int .i64 0) := (blk_cell hbox 0).trans rfl; have hcz1 : w5.cell? ⟨gb, 1, none⟩ = some (.bool false) := (blk_cell hbox 1).trans rfl; have hfz0 := blk_frozen hbox 0; have hfz1 := blk_frozen hbox 1; clear hbox hb5 hg))
      have hbW : Below wr.heap.size wr ((w5.setCell ⟨gb, 0, none⟩ (.int .i64 Y)).setCell ⟨gb, 1, none⟩ (.bool false)) := below_step HB4.out (below_set (below_set HB5.out HG.out) HG.out)
      have hbk : ((w5.setCell ⟨gb, 0, none⟩ (.int .i64 Y)).setCell ⟨gb, 1, none⟩ (.bool false)).heap[gb]? = some (.cells #[.int .i64 Y, .bool false] 29 (0, 0)) := blk_put (cs := #[.int .i64 Y, .bool false]) (blk_put (cs := #[.int .i64 0, .bool false]) HBK.out 0 _ rfl) 1 _ rfl
      have HBW := Aside0.mk hbW
      have HBKW := Aside0.mk hbk
      clear hbW hbk HB4 HB5 HG HBK hcz0 hcz1 hx0 hx1 hfz0 hfz1
      generalize (w5.setCell ⟨gb, 0, none⟩ (.int .i64 Y)).setCell ⟨gb, 1, none⟩ (.bool false) = wx at HBW HBKW ⊢
      have hg0 : wx.drew.cell? ⟨gb, 0, none⟩ = some (.int .i64 Y) := (blk_cell HBKW.out 0).trans rfl
      have hg1 : wx.drew.cell? ⟨gb, 1, none⟩ = some (.bool false) := (blk_cell HBKW.out 1).trans rfl
      have hy0 : wx.drew.cell? ⟨b, 0, none⟩ = some (.int .i64 x.f0) := pw_cell_below (below_drew1 HBW.out) ((blk_cell HBX2.out 0).trans rfl)
      have hy1 : wx.drew.cell? ⟨b, 1, none⟩ = some (.bool x.f1) := pw_cell_below (below_drew1 HBW.out) ((blk_cell HBX2.out 1).trans rfl)
      have HTW := Aside0.mk (HT.out.below (below_step HB2.out (below_drew1 HBW.out)))
      go_region_held3 (fun w' => w'.cell? ⟨gb, 0, none⟩ = some (.int .i64 Y) ∧ w'.cell? ⟨gb, 1, none⟩ = some (.bool false) ∧ w'.cell? ⟨b, 0, none⟩ = some (.int .i64 x.f0) ∧ w'.cell? ⟨b, 1, none⟩ = some (.bool x.f1))
       (first
        | exact ⟨hg0, hg1, hy0, hy1⟩
        | go_keep
        | exact ⟨pw_cell_below hb6 hg0, pw_cell_below hb6 hg1, pw_cell_below hb6 hy0, pw_cell_below hb6 hy1⟩
        | exact ⟨pw_cell_below (below_step hb6 hb7) hg0, pw_cell_below (below_step hb6 hb7) hg1, pw_cell_below (below_step hb6 hb7) hy0, pw_cell_below (below_step hb6 hb7) hy1⟩
        | fail)
       (first
        | (go_at_call 73; with_reducible refine (impl_height_calls ⟨Y, false⟩ wx.drew HTW.out HYO.out).mono ?_; rintro e w6 ⟨rfl, hb6⟩)
        | (go_at_call 73; with_reducible refine (impl_height_calls x w6 (HTW.out.below hb6) HXL.out.1).mono ?_; rintro e w7 ⟨rfl, hb7⟩)
        | fail)
      have HB7 := Aside0.mk (below_step (below_drew1 HBW.out) (below_step hb6 hb7))
      have hz0 := pw_cell_below (below_step hb6 hb7) hg0
      have hz1 := pw_cell_below (below_step hb6 hb7) hg1
      have HO7 := Aside0.mk (Kd.R_below HO2.out HB7.out)
      have HBX7 := Aside0.mk (blk_below HBX2.out HB7.out)
      have HNX7 := Aside0.mk (Lk.below HB7.out HNX2.out)
      have HW7 := Aside0.mk (below_step HB2.out HB7.out)
      clear hg0 hg1 hy0 hy1 hb6 hb7 HBKW HBW HTW
      by_cases hs : hgt ⟨Y, false⟩ - hgt x = semis
      ·
       have d1 : (IntKind.i64.wrap (hgt ⟨Y, false⟩ - hgt x) == semis) = true := beq_iff_eq.2 (EW.out.trans hs)
       have d2 : decide (hgt ⟨Y, false⟩ - hgt x = semis) = true := decide_eq_true hs
       have GO : Aside0 (mvGood k semis x false = true) := ⟨by rw [HGD.out]; exact d2⟩
       have bx := HX.out.2.2.2
       clear hs
       go_wp2_with ((with_reducible refine gate_builtin (b := .append) (xs := #[.tmp 51, .tmp 53]) rfl ?_); at_builtin; go_loud (refine Kd.R_append k29 (w0 := w) w.heap.size rfl (.tmp 51) (.tmp 53) 23 29 (.agg #[(.int .i64 0), (.bool false)]) 16 rfl Tryd.underlying23 info29 rfl (by decide) (by omega) _ X (⟨Y, false⟩ : S29) [.int .i64 Y, .bool false] (fun _ => True) (fun _ => False) rfl rfl (k29_mkM _ _ _ _) (fun _ hk => hk.elim) (fun _ _ => trivial) HO7.out HW7.out HW7.out.size (by omega) ?_); intro v9 w8 ho8 hb8 hg8 hat8; have HO8 := Aside0.mk ho8; have HB8 := Aside0.mk hb8; have HNX8 := Aside0.mk (LkT.grown HO7.out hg8 HNX7.out); have cx2 : w8.cell? ⟨b, 2, none⟩ = some (.pointer p) := (blk_cell (blk_grown HBX7.out hg8 (Kd.R_ne HO7.out HBX7.out (by decide))) 2).trans rfl; clear ho8 hb8 hg8 hat8)
       go_roundg l.length
       case measure => exact NXM.out
       case rel => exact ⟨X ++ [⟨Y, false⟩], l, ⟨rfl, by rw [← HYT.out, ← mvRes_yes GO.out (fun h => by cases h)]; exact HX.out.2.1, HXL.out.2, by simp only [List.length_append, List.length_cons, List.length_nil] at bx ⊢; omega⟩, HO8, HNX8, HB8⟩
      ·
       have d1 : (IntKind.i64.wrap (hgt ⟨Y, false⟩ - hgt x) == semis) = false := beq_eq_false_iff_ne.2 (fun h => hs (EW.out.symm.trans h))
       have d2 : decide (hgt ⟨Y, false⟩ - hgt x = semis) = false := decide_eq_false hs
       have NG : Aside0 (¬ mvGood k semis x false = true) := ⟨by rw [HGD.out, d2]; decide⟩
       clear hs
       go_wp2
       go_roundg (2 - 1)
       case measure => have := HK.out; omega
       case rel => exact ⟨1, rfl, rfl, ⟨by decide, by decide, by decide, fun _ => NG.out, by omega⟩, HO7, HBX7, HNX7, HW7⟩
    ·
     have N0 := Aside0.mk (n0 (by omega))
     have HK := Aside0.mk hk
     clear n0 n1 hk j0 j2 h2 HJ
     obtain ⟨ok, hv⟩ : ∃ ok, ok = toneOk (mvT x k true) := ⟨_, rfl⟩
     have HV := Aside0.mk hv
     have hta : impl_ToneAbove.f 1 x.f0 x.f1 k true = some (if ok = true then (x.f0 + k, true, true) else (0, false, false)) := by rw [impl_ToneAbove_eq x k true HXL.out.1 HKK.out, hv]
     have HTA := Aside0.mk hta
     clear hta hv
     have hx0 : wr.cell? ⟨b, 0, none⟩ = some (.int .i64 x.f0) := (blk_cell HBX2.out 0).trans rfl
     have hx1 : wr.cell? ⟨b, 1, none⟩ = some (.bool x.f1) := (blk_cell HBX2.out 1).trans rfl
     cases ok
     ·
      have NG : Aside0 (¬ mvGood k semis x true = true) := ⟨by unfold mvGood; rw [← HV.out]; simp⟩
      go_upto_region 10 with (first
       | (go_at_call 54; refine (impl_ToneAbove.calls 1 x.f0 x.f1 k true 0 false false _ (HTA.out.trans rfl)).mono ?_; rintro e w4 ⟨rfl, hb4⟩; have HB4 := Aside0.mk hb4; clear hb4)
       | ((with_reducible refine gate_dst (N := 13) rfl ?_); refine box_event ?hg (N := 13) ?hd (cs := #[.int .i64 0, .bool false]) (t := 29) ?hr ?_; (case hd => rfl); (case hg => rfl); (case hr => first | (go_simp; done) | (go_simp; rfl)); intro gb hg w5 hbox hb5; have HG := Aside0.mk (show w4.heap.size ≤ gb by omega); have HB5 := Aside0.mk hb5; have hcz0 : w5.cell? ⟨gb, 0, none⟩ = some (.int .i64 0) := (blk_cell hbox 0).trans rfl; have hcz1 : w5.cell? ⟨gb, 1, none⟩ = some (.bool false) := (blk_cell hbox 1).trans rfl; have hfz0 := blk_frozen hbox 0; have hfz1 := blk_frozen hbox 1; clear hbox hb5 hg))
      have hbW : Below wr.heap.size wr ((w5.setCell ⟨gb, 0, none⟩ (.int .i64 0)).setCell ⟨gb, 1, none⟩ (.bool false)) := below_step HB4.out (below_set (below_set HB5.out HG.out) HG.out)
      have HBW := Aside0.mk hbW
      clear hbW HB4 HB5 HG hcz0 hcz1 hx0 hx1 hfz0 hfz1
      generalize (w5.setCell ⟨gb, 0, none⟩ (.int .i64 0)).setCell ⟨gb, 1, none⟩ (.bool false) = wx at HBW ⊢
      go_region
      all_goals
       go_wp2
       go_roundg (2 - 2)
       case measure => have := HK.out; omega
       case rel => exact ⟨2, rfl, rfl, ⟨by decide, by decide, by decide, fun _ => N0.out, fun _ => NG.out⟩, ⟨Kd.R_below HO2.out (below_drew1 HBW.out)⟩, ⟨blk_below HBX2.out (below_drew1 HBW.out)⟩, ⟨Lk.below (below_drew1 HBW.out) HNX2.out⟩, ⟨below_step HB2.out (below_drew1 HBW.out)⟩⟩
     ·
      have HB' := Aside0.mk (hgt_bd (t := mvT x k true) HV.out.symm)
      have HB'' := Aside0.mk (hgt_bd HXL.out.1)
      obtain ⟨Y, hY⟩ : ∃ Y, Y = x.f0 + k := ⟨_, rfl⟩
      have hYT : mvT x k true = ⟨Y, true⟩ := by rw [hY]; rfl
      have hgood : mvGood k semis x true = decide (hgt ⟨Y, true⟩ - hgt x = semis) := by unfold mvGood; rw [← HV.out, ← hYT]; rfl
      have HGD := Aside0.mk hgood
      have HYT := Aside0.mk hYT
      have HYO := Aside0.mk (show toneOk ⟨Y, true⟩ = true by rw [← hYT]; exact HV.out.symm)
      have EW : Aside0 (IntKind.i64.wrap (hgt ⟨Y, true⟩ - hgt x) = hgt ⟨Y, true⟩ - hgt x) := ⟨by rw [← hYT, i64_w]; exact w64 (x := hgt (mvT x k true) - hgt x) (by have := HB'.out; have := HB''.out; omega) (by have := HB'.out; have := HB''.out; omega)⟩
      rw [← hY] at HTA
      clear hY hYT hgood HB' HB''
      go_upto_region 10 with (first
       | (go_at_call 54; refine (impl_ToneAbove.calls 1 x.f0 x.f1 k true Y true true _ (HTA.out.trans rfl)).mono ?_; rintro e w4 ⟨rfl, hb4⟩; have HB4 := Aside0.mk hb4; clear hb4)
       | ((with_reducible refine gate_dst (N := 13) rfl ?_); refine box_event ?hg (N := 13) ?hd (cs := #[.int .i64 0, .bool false]) (t := 29) ?hr ?_; (case hd => rfl); (case hg => rfl); (case hr => first | (go_simp; done) | (go_simp; rfl)); intro gb hg w5 hbox hb5; have HG := Aside0.mk (show w4.heap.size ≤ gb by omega); have HB5 := Aside0.mk hb5; have HBK := Aside0.mk hbox; have hcz0 : w5.cell? ⟨gb, 0, none⟩ = some (.int .i64 0) := (blk_cell hbox 0).trans rfl; have hcz1 : w5.cell? ⟨gb, 1, none⟩ = some (.bool false) := (blk_cell hbox 1).trans rfl; have hfz0 := blk_frozen hbox 0; have hfz1 := blk_frozen hbox 1; clear hbox hb5 hg))
      have hbW : Below wr.heap.size wr ((w5.setCell ⟨gb, 0, none⟩ (.int .i64 Y)).setCell ⟨gb, 1, none⟩ (.bool true)) := below_step HB4.out (below_set (below_set HB5.out HG.out) HG.out)
      have hbk : ((w5.setCell ⟨gb, 0, none⟩ (.int .i64 Y)).setCell ⟨gb, 1, none⟩ (.bool true)).heap[gb]? = some (.cells #[.int .i64 Y, .bool true] 29 (0, 0)) := blk_put (cs := #[.int .i64 Y, .bool false]) (blk_put (cs := #[.int .i64 0, .bool false]) HBK.out 0 _ rfl) 1 _ rfl
      have HBW := Aside0.mk hbW
      have HBKW := Aside0.mk hbk
      clear hbW hbk HB4 HB5 HG HBK hcz0 hcz1 hx0 hx1 hfz0 hfz1
      generalize (w5.setCell ⟨gb, 0, none⟩ (.int .i64 Y)).setCell ⟨gb, 1, none⟩ (.bool true) = wx at HBW HBKW ⊢
      have hg0 : wx.drew.cell? ⟨gb, 0, none⟩ = some (.int .i64 Y) := (blk_cell HBKW.out 0).trans rfl
      have hg1 : wx.drew.cell? ⟨gb, 1, none⟩ = some (.bool true) := (blk_cell HBKW.out 1).trans rfl
      have hy0 : wx.drew.cell? ⟨b, 0, none⟩ = some (.int .i64 x.f0) := pw_cell_below (below_drew1 HBW.out) ((blk_cell HBX2.out 0).trans rfl)
      have hy1 : wx.drew.cell? ⟨b, 1, none⟩ = some (.bool x.f1) := pw_cell_below (below_drew1 HBW.out) ((blk_cell HBX2.out 1).trans rfl)
      have HTW := Aside0.mk (HT.out.below (below_step HB2.out (below_drew1 HBW.out)))
      go_region_held3 (fun w' => w'.cell? ⟨gb, 0, none⟩ = some (.int .i64 Y) ∧ w'.cell? ⟨gb, 1, none⟩ = some (.bool true) ∧ w'.cell? ⟨b, 0, none⟩ = some (.int .i64 x.f0) ∧ w'.cell? ⟨b, 1, none⟩ = some (.bool x.f1))
       (first
        | exact ⟨hg0, hg1, hy0, hy1⟩
        | go_keep
        | exact ⟨pw_cell_below hb6 hg0, pw_cell_below hb6 hg1, pw_cell_below hb6 hy0, pw_cell_below hb6 hy1⟩
        | exact ⟨pw_cell_below (below_step hb6 hb7) hg0, pw_cell_below (below_step hb6 hb7) hg1, pw_cell_below (below_step hb6 hb7) hy0, pw_cell_below (below_step hb6 hb7) hy1⟩
        | fail)
       (first
        | (go_at_call 73; with_reducible refine (impl_height_calls ⟨Y, true⟩ wx.drew HTW.out HYO.out).mono ?_; rintro e w6 ⟨rfl, hb6⟩)
        | (go_at_call 73; with_reducible refine (impl_height_calls x w6 (HTW.out.below hb6) HXL.out.1).mono ?_; rintro e w7 ⟨rfl, hb7⟩)
        | fail)
      have HB7 := Aside0.mk (below_step (below_drew1 HBW.out) (below_step hb6 hb7))
      have hz0 := pw_cell_below (below_step hb6 hb7) hg0
      have hz1 := pw_cell_below (below_step hb6 hb7) hg1
      have HO7 := Aside0.mk (Kd.R_below HO2.out HB7.out)
      have HBX7 := Aside0.mk (blk_below HBX2.out HB7.out)
      have HNX7 := Aside0.mk (Lk.below HB7.out HNX2.out)
      have HW7 := Aside0.mk (below_step HB2.out HB7.out)
      clear hg0 hg1 hy0 hy1 hb6 hb7 HBKW HBW HTW
      by_cases hs : hgt ⟨Y, true⟩ - hgt x = semis
      ·
       have d1 : (IntKind.i64.wrap (hgt ⟨Y, true⟩ - hgt x) == semis) = true := beq_iff_eq.2 (EW.out.trans hs)
       have d2 : decide (hgt ⟨Y, true⟩ - hgt x = semis) = true := decide_eq_true hs
       have GO : Aside0 (mvGood k semis x true = true) := ⟨by rw [HGD.out]; exact d2⟩
       have bx := HX.out.2.2.2
       clear hs
       go_wp2_with ((with_reducible refine gate_builtin (b := .append) (xs := #[.tmp 51, .tmp 53]) rfl ?_); at_builtin; go_loud (refine Kd.R_append k29 (w0 := w) w.heap.size rfl (.tmp 51) (.tmp 53) 23 29 (.agg #[(.int .i64 0), (.bool false)]) 16 rfl Tryd.underlying23 info29 rfl (by decide) (by omega) _ X (⟨Y, true⟩ : S29) [.int .i64 Y, .bool true] (fun _ => True) (fun _ => False) rfl rfl (k29_mkM _ _ _ _) (fun _ hk => hk.elim) (fun _ _ => trivial) HO7.out HW7.out HW7.out.size (by omega) ?_); intro v9 w8 ho8 hb8 hg8 hat8; have HO8 := Aside0.mk ho8; have HB8 := Aside0.mk hb8; have HNX8 := Aside0.mk (LkT.grown HO7.out hg8 HNX7.out); have cx2 : w8.cell? ⟨b, 2, none⟩ = some (.pointer p) := (blk_cell (blk_grown HBX7.out hg8 (Kd.R_ne HO7.out HBX7.out (by decide))) 2).trans rfl; clear ho8 hb8 hg8 hat8)
       go_roundg l.length
       case measure => exact NXM.out
       case rel => exact ⟨X ++ [⟨Y, true⟩], l, ⟨rfl, by rw [← HYT.out, ← mvRes_yes GO.out (fun _ => N0.out)]; exact HX.out.2.1, HXL.out.2, by simp only [List.length_append, List.length_cons, List.length_nil] at bx ⊢; omega⟩, HO8, HNX8, HB8⟩
      ·
       have d1 : (IntKind.i64.wrap (hgt ⟨Y, true⟩ - hgt x) == semis) = false := beq_eq_false_iff_ne.2 (fun h => hs (EW.out.symm.trans h))
       have d2 : decide (hgt ⟨Y, true⟩ - hgt x = semis) = false := decide_eq_false hs
       have NG : Aside0 (¬ mvGood k semis x true = true) := ⟨by rw [HGD.out, d2]; decide⟩
       clear hs
       go_wp2
       go_roundg (2 - 2)
       case measure => have := HK.out; omega
       case rel => exact ⟨2, rfl, rfl, ⟨by decide, by decide, by decide, fun _ => N0.out, fun _ => NG.out⟩, HO7, HBX7, HNX7, HW7⟩

end Go.Proofs.YthhnaplmjpacnaaDoor.Pure
namespace Go.Proofs.YthhnaplmjpacnaaDoor.Pure
set_option linter.unusedVariables false
set_option linter.unusedSimpArgs false
open Go Go.RowKit Go.Proofs.YthhnaplmjpacnaaDoor.PFnExactModeMoves Go.Proofs.YthhnaplmjpacnaaDoorW.PrintWords Go.Proofs.YthhnaplmjpacnaaDoorW.PrintLast Go.Proofs.YthhnaplmjpacnaaDoorW.PrintMore

theorem impl_ToneAbove_out (t : S29) (a : Int) (s : Bool) (ht : toneOk t = true) (ha : ¬ (-20 ≤ a ∧ a ≤ 20)) : impl_ToneAbove.f 1 t.f0 t.f1 a s = some (0, false, false) := by
 unfold impl_ToneAbove.f
 rw [impl_Tone_valid_eq]
 have e : (⟨t.f0, t.f1⟩ : S29) = t := rfl
 rw [e, ht, Option.bind_some, if_pos rfl]
 by_cases h : a < -20
 ·
  rw [if_pos h]; rfl
 ·
  rw [if_neg h, decide_eq_true (show a > 20 by omega)]; rfl
def mmT (m : List S29) (k : Int) (b : Bool) : Prop := (-20 ≤ k ∧ k ≤ 20) ∧ mmTry m k b = true
theorem mmove_yes {m : List S29} {k : Int} {b : Bool} (hok : melOk m = true) (hm : 0 < m.length) (h : mmT m k b) (h' : b = true → ¬ mmT m k false) : mmove m k = (mmOf m k b, true) := by
 unfold mmove
 rw [if_pos hok, if_neg (by omega), if_pos h.1]
 cases b
 ·
  rw [if_pos h.2]
 ·
  rw [if_neg (fun g => h' rfl ⟨h.1, g⟩), if_pos h.2]
theorem mmove_no {m : List S29} {k : Int} (hok : melOk m = true) (hm : 0 < m.length) (h : ¬ mmT m k true) (h' : ¬ mmT m k false) : mmove m k = ([], false) := by
 unfold mmove
 rw [if_pos hok, if_neg (by omega)]
 by_cases hk : -20 ≤ k ∧ k ≤ 20
 ·
  rw [if_pos hk, if_neg (fun g => h' ⟨hk, g⟩), if_neg (fun g => h ⟨hk, g⟩)]
 ·
  rw [if_neg hk]
set_option maxHeartbeats 8000000 in
set_option maxRecDepth 100000 in
theorem impl_MelodyMove_calls (m : List S29) (k : Int) (A0 : Option Addr) (c0 : Nat) (w : World) (ht : HTab w) (hr0 : Kd.C k29 w A0 m.length m) (hc0 : m.length ≤ c0) (hm : m.length ≤ 1000000000000) :
 Calls Tryd.prog 21 #[.slice A0 m.length c0, .int .i64 k] w fun e w' => ∃ v, e = .returned (.tuple #[v, .bool (mmove m k).2]) ∧ Kd.R k29 29 w' w.heap.size (fun _ => True) v (mmove m k).1 ∧ Below w.heap.size w w' := by
 obtain ⟨kk, hv⟩ := Ev.rounds (impl_MelodyValid_ev m)
 have hu1 := Tryd.underlying29
 have ix0 : ∀ w, (Instr.index 86 (.agg #[.bool false, .bool true]) (.int .i64 0)).run Tryd.prog w = .ok (.bool false) w := fun _ => by kernel_rfl
 have ix1 : ∀ w, (Instr.index 86 (.agg #[.bool false, .bool true]) (.int .i64 1)).run Tryd.prog w = .ok (.bool true) w := fun _ => by kernel_rfl
 have HT := Aside0.mk ht
 have HR0 := Aside0.mk hr0
 have HC0 := Aside0.mk hc0
 have HVV := Aside0.mk hv
 clear hr0 hc0 ht hv
 cases hok : melOk m
 ·
  have e : mmove m k = ([], false) := by unfold mmove; rw [hok]; rfl
  rw [e]
  rw [hok] at HVV
  clear hok e
  go_enter Tryd.func21, Tryd.ntmps21
  go_wp2_with (go_at_call 71; refine (impl_MelodyValid.calls kk _ _ m false _ HR0.out HC0.out HVV.out).mono ?_; rintro e w1 ⟨rfl, hb1⟩)
  go_ret2
  exact ⟨_, rfl, Kd.R_nil _ _ _ _ _, hb1⟩
 rw [hok] at HVV
 have HOK := Aside0.mk hok
 by_cases h0 : m.length = 0
 ·
  have e : mmove m k = ([], true) := by unfold mmove; rw [if_pos hok, if_pos h0]
  rw [e]
  have hne : ((m.length : Int) == 0) = true := by rw [beq_iff_eq]; omega
  have hne' : (m.length == 0) = true := by rw [beq_iff_eq]; omega
  clear hok e h0
  go_enter Tryd.func21, Tryd.ntmps21
  go_wp2_with (first
   | (go_at_call 71; refine (impl_MelodyValid.calls kk _ _ m true _ HR0.out HC0.out HVV.out).mono ?_; rintro e w1 ⟨rfl, hb1⟩)
   | ((with_reducible refine gate_dst (N := 18) rfl ?_); refine Kd.R_lit k29 _ 29 ?hg (N := 18) ?hd (xs := ([] : List S29)) (inner := []) (ok := fun _ => True) (okp := fun _ => True) ?hr (Reps.none _ _) (fun _ hk => hk) trivial (Below.refl _ _) (Nat.le_refl _) (by simp) ?_; (case hd => rfl); (case hg => rfl); (case hr => first | (go_simp; done) | (go_simp; rfl)); intro v1 w2 ho1 hb2 _ _; obtain ⟨A1, c1, rfl⟩ := Kd.R_slice ho1))
  go_ret2
  exact ⟨_, rfl, Kd.R_lower ho1 hb1.size, below_step hb1 hb2⟩
 have hlen := melOk_len hok
 have hpos : 0 < m.length := by omega
 have hne : ((m.length : Int) == 0) = false := by rw [beq_eq_false_iff_ne]; omega
 have hne' : (m.length == 0) = false := by rw [beq_eq_false_iff_ne]; omega
 obtain ⟨⟨R1, R2⟩, hR⟩ : ∃ R, R = mmove m k := ⟨_, rfl⟩
 rw [← hR]
 have HRR := Aside0.mk hR.symm
 obtain ⟨ad, e1, ux0, ux1⟩ := at_T29 HR0.out 0 (by omega) (by omega)
 subst e1
 obtain ⟨x, hx⟩ : ∃ x, x = rd_T29 m 0 := ⟨_, rfl⟩
 have hxo : toneOk x = true := by
  rw [hx]
  refine List.all_eq_true.1 (melOk_all hok) _ ?_
  unfold rd_T29
  rw [List.getD_eq_getElem?_getD, List.getElem?_eq_getElem (by simp; omega)]; exact List.getElem_mem _
 rw [← hx] at ux0 ux1
 have HXL := Aside0.mk (And.intro hxo hx)
 have UX0 : Aside0 (w.cell? ad = some (.int .i64 x.f0)) := ⟨ux0⟩
 have UX1 : Aside0 (w.cell? ⟨ad.block, ad.off + 1, none⟩ = some (.bool x.f1)) := ⟨ux1⟩
 have i1 := eq_true (show 0 < (m.length : Int) by omega)
 have i2 := eq_true hpos
 have HPOS := Aside0.mk hpos
 clear hok h0 hR ux0 ux1 hx hxo hpos
 go_enter Tryd.func21, Tryd.ntmps21
 go_wp2_with (go_at_call 71; refine (impl_MelodyValid.calls kk _ _ m true _ HR0.out HC0.out HVV.out).mono ?_; rintro e w1 ⟨rfl, hb1⟩; have HB1 := Aside0.mk hb1; clear hb1)
 go_loopg [20] 2 (fun kq v20 w' => ∃ (j : Int), v20 = .int .i64 j ∧ Aside0 (kq = (2 - j).toNat ∧ 0 ≤ j ∧ j ≤ 2 ∧ (1 ≤ j → ¬ mmT m k false) ∧ (2 ≤ j → ¬ mmT m k true)) ∧ Aside0 (Below w.heap.size w w'))
 case atStart => exact ⟨0, rfl, ⟨rfl, by decide, by decide, by omega, by omega⟩, HB1⟩
 case round =>
  obtain ⟨j, rfl, HJ, HB2⟩ := hrel
  clear HB1
  obtain ⟨hk, j0, j2, n0, n1⟩ := HJ.out
  by_cases h2 : j = 2
  ·
   subst h2
   have hR : (R1, R2) = ([], false) := HRR.out.symm.trans (mmove_no HOK.out HPOS.out (n1 (by omega)) (n0 (by omega)))
   cases hR
   clear n0 n1 hk j0 j2
   go_wp2
   go_ret2
   exact ⟨_, rfl, Kd.R_nil _ _ _ _ _, HB2.out⟩
  have hj : j = 0 ∨ j = 1 := by omega
  rcases hj with rfl | rfl
  ·
   have N0 : Aside0 True := ⟨trivial⟩
   have HK := Aside0.mk hk
   clear n0 n1 hk j0 j2 h2 HJ
   obtain ⟨ok, hv⟩ : ∃ ok, ok = (decide (-20 ≤ k ∧ k ≤ 20) && toneOk (mvT x k false)) := ⟨_, rfl⟩
   have HV := Aside0.mk hv
   have hta : impl_ToneAbove.f 1 x.f0 x.f1 k false = some (if ok = true then (x.f0 + k, false, true) else (0, false, false)) := by
    by_cases hk : -20 ≤ k ∧ k ≤ 20
    ·
     rw [impl_ToneAbove_eq x k false HXL.out.1 hk, hv, decide_eq_true hk]; rfl
    ·
     rw [impl_ToneAbove_out x k false HXL.out.1 hk, hv, decide_eq_false hk]; rfl
   have HTA := Aside0.mk hta
   clear hta hv
   have hx0 : wr.cell? ad = some (.int .i64 x.f0) := (HB2.out.cell (World.block_lt_of_cell? w _ UX0.out)).trans UX0.out
   have hx1 : wr.cell? ⟨ad.block, ad.off + 1, none⟩ = some (.bool x.f1) := (HB2.out.cell (World.block_lt_of_cell? w _ UX1.out)).trans UX1.out
   cases ok
   ·
    have NG : Aside0 (¬ mmT m k false) := ⟨fun h => by have hv := HV.out; rw [decide_eq_true h.1, Bool.true_and] at hv; have h2 := h.2; unfold mmTry at h2; rw [← HXL.out.2, ← hv] at h2; cases h2⟩
    go_wp2_with (first
     | (go_at_call 54; refine (impl_ToneAbove.calls 1 x.f0 x.f1 k false 0 false false _ (HTA.out.trans rfl)).mono ?_; rintro e w4 ⟨rfl, hb4⟩; have HB4 := Aside0.mk hb4; clear hb4)
     | ((with_reducible refine gate_dst (N := 8) rfl ?_); refine box_event ?hg (N := 8) ?hd (cs := #[.int .i64 0, .bool false]) (t := 29) ?hr ?_; (case hd => rfl); (case hg => rfl); (case hr => first | (go_simp; done) | (go_simp; rfl)); intro gb hg w5 hbox hb5; have HG := Aside0.mk (show w4.heap.size ≤ gb by omega); have HB5 := Aside0.mk hb5; have hcz0 : w5.cell? ⟨gb, 0, none⟩ = some (.int .i64 0) := (blk_cell hbox 0).trans rfl; have hcz1 : w5.cell? ⟨gb, 1, none⟩ = some (.bool false) := (blk_cell hbox 1).trans rfl; have hfz0 := blk_frozen hbox 0; have hfz1 := blk_frozen hbox 1; clear hbox hb5 hg))
    have hbW : Below wr.heap.size wr ((w5.setCell ⟨gb, 0, none⟩ (.int .i64 0)).setCell ⟨gb, 1, none⟩ (.bool false)) := below_step HB4.out (below_set (below_set HB5.out HG.out) HG.out)
    have HBW := Aside0.mk hbW
    go_roundg (2 - 1)
    case measure => have := HK.out; omega
    case rel => exact ⟨1, rfl, ⟨by decide, by decide, by decide, fun _ => NG.out, by omega⟩, ⟨below_step HB2.out HBW.out⟩⟩
   ·
    have hv := HV.out.symm
    rw [Bool.and_eq_true] at hv
    have hkk := of_decide_eq_true hv.1
    have HKK := Aside0.mk hkk
    have HB' := Aside0.mk (hgt_bd (t := mvT x k false) hv.2)
    have HB'' := Aside0.mk (hgt_bd HXL.out.1)
    obtain ⟨Y, hY⟩ : ∃ Y, Y = x.f0 + k := ⟨_, rfl⟩
    have hYT : mvT x k false = ⟨Y, false⟩ := by rw [hY]; rfl
    obtain ⟨⟨M1, M2⟩, hM⟩ : ∃ R, R = movedP k (hgt ⟨Y, false⟩ - hgt x) m := ⟨_, rfl⟩
    have HM := Aside0.mk hM.symm
    have HTRY : Aside0 (mmTry m k false = M2 ∧ mmOf m k false = M1) := ⟨by unfold mmTry mmOf; rw [← HXL.out.2, hv.2, hYT, ← hM]; exact ⟨rfl, rfl⟩⟩
    have HYO := Aside0.mk (show toneOk ⟨Y, false⟩ = true by rw [← hYT]; exact hv.2)
    have EW : Aside0 (IntKind.i64.wrap (hgt ⟨Y, false⟩ - hgt x) = hgt ⟨Y, false⟩ - hgt x) := ⟨by rw [← hYT, i64_w]; exact w64 (x := hgt (mvT x k false) - hgt x) (by have := HB'.out; have := HB''.out; omega) (by have := HB'.out; have := HB''.out; omega)⟩
    rw [← hY] at HTA
    clear hY hYT HB' HB'' hM hv hkk
    go_upto_region 10 with (first
     | (go_at_call 54; refine (impl_ToneAbove.calls 1 x.f0 x.f1 k false Y false true _ (HTA.out.trans rfl)).mono ?_; rintro e w4 ⟨rfl, hb4⟩; have HB4 := Aside0.mk hb4; clear hb4)
     | ((with_reducible refine gate_dst (N := 8) rfl ?_); refine box_event ?hg (N := 8) ?hd (cs := #[.int .i64 0, .bool false]) (t := 29) ?hr ?_; (case hd => rfl); (case hg => rfl); (case hr => first | (go_simp; done) | (go_simp; rfl)); intro gb hg w5 hbox hb5; have HG := Aside0.mk (show w4.heap.size ≤ gb by omega); have HB5 := Aside0.mk hb5; have HBK := Aside0.mk hbox; have hcz0 : w5.cell? ⟨gb, 0, none⟩ = some (.int .i64 0) := (blk_cell hbox 0).trans rfl; have hcz1 : w5.cell? ⟨gb, 1, none⟩ = some (.bool false) := (blk_cell hbox 1).trans rfl; have hfz0 := blk_frozen hbox 0; have hfz1 := blk_frozen hbox 1; clear hbox hb5 hg))
    have hbW : Below wr.heap.size wr ((w5.setCell ⟨gb, 0, none⟩ (.int .i64 Y)).setCell ⟨gb, 1, none⟩ (.bool false)) := below_step HB4.out (below_set (below_set HB5.out HG.out) HG.out)
    have hbk : ((w5.setCell ⟨gb, 0, none⟩ (.int .i64 Y)).setCell ⟨gb, 1, none⟩ (.bool false)).heap[gb]? = some (.cells #[.int .i64 Y, .bool false] 29 (0, 0)) := blk_put (cs := #[.int .i64 Y, .bool false]) (blk_put (cs := #[.int .i64 0, .bool false]) HBK.out 0 _ rfl) 1 _ rfl
    have HBW := Aside0.mk hbW
    have HBKW := Aside0.mk hbk
    have hy0' := pw_cell_below hbW hx0
    have hy1' := pw_cell_below hbW hx1
    clear hbW hbk HB4 HB5 HG HBK hcz0 hcz1 hx0 hx1 hfz0 hfz1
    generalize (w5.setCell ⟨gb, 0, none⟩ (.int .i64 Y)).setCell ⟨gb, 1, none⟩ (.bool false) = wx at HBW HBKW hy0' hy1' ⊢
    have hg0 : wx.drew.cell? ⟨gb, 0, none⟩ = some (.int .i64 Y) := (blk_cell HBKW.out 0).trans rfl
    have hg1 : wx.drew.cell? ⟨gb, 1, none⟩ = some (.bool false) := (blk_cell HBKW.out 1).trans rfl
    have hy0 : wx.drew.cell? ad = some (.int .i64 x.f0) := hy0'
    have hy1 : wx.drew.cell? ⟨ad.block, ad.off + 1, none⟩ = some (.bool x.f1) := hy1'
    have HW0 := Aside0.mk (below_step HB2.out (below_drew1 HBW.out))
    have HTW := Aside0.mk (HT.out.below HW0.out)
    clear hy0' hy1'
    go_region_held3 (fun w' => w'.cell? ⟨gb, 0, none⟩ = some (.int .i64 Y) ∧ w'.cell? ⟨gb, 1, none⟩ = some (.bool false) ∧ w'.cell? ad = some (.int .i64 x.f0) ∧ w'.cell? ⟨ad.block, ad.off + 1, none⟩ = some (.bool x.f1))
     (first
      | exact ⟨hg0, hg1, hy0, hy1⟩
      | go_keep
      | exact ⟨pw_cell_below hb6 hg0, pw_cell_below hb6 hg1, pw_cell_below hb6 hy0, pw_cell_below hb6 hy1⟩
      | exact ⟨pw_cell_below (below_step hb6 hb7) hg0, pw_cell_below (below_step hb6 hb7) hg1, pw_cell_below (below_step hb6 hb7) hy0, pw_cell_below (below_step hb6 hb7) hy1⟩
      | exact ⟨pw_cell_below (below_step (below_step hb6 hb7) hb8) hg0, pw_cell_below (below_step (below_step hb6 hb7) hb8) hg1, pw_cell_below (below_step (below_step hb6 hb7) hb8) hy0, pw_cell_below (below_step (below_step hb6 hb7) hb8) hy1⟩
      | fail)
     (first
      | (go_at_call 73; with_reducible refine (impl_height_calls ⟨Y, false⟩ wx.drew HTW.out HYO.out).mono ?_; rintro e w6 ⟨rfl, hb6⟩)
      | (go_at_call 73; with_reducible refine (impl_height_calls x w6 (HTW.out.below hb6) HXL.out.1).mono ?_; rintro e w7 ⟨rfl, hb7⟩)
      | (go_at_call 72; with_reducible refine (impl_movedMelody_calls m k (IntKind.i64.wrap (hgt ⟨Y, false⟩ - hgt x)) _ _ w7 (HTW.out.below (below_step hb6 hb7)) (Kd.C_below HR0.out (below_step HW0.out (below_step hb6 hb7))) HC0.out HOK.out HKK.out).mono ?_; rintro e w8 ⟨v8, rfl, ho8, hb8⟩; rw [EW.out, HM.out] at ho8; rw [EW.out, HM.out]; obtain ⟨A8, c8, rfl⟩ := Kd.R_slice ho8)
      | fail)
    have HB8 := Aside0.mk (below_step (below_step HW0.out (below_step hb6 hb7)) hb8)
    have HO8 := Aside0.mk (Kd.R_lower ho8 (below_step HW0.out (below_step hb6 hb7)).size)
    clear hg0 hg1 hy0 hy1 hb6 hb7 hb8 ho8 HBKW HBW HTW HW0
    cases M2
    ·
     have NG : Aside0 (¬ mmT m k false) := ⟨fun h => by have h2 := h.2; rw [HTRY.out.1] at h2; cases h2⟩
     go_wp2
     go_roundg (2 - 1)
     case measure => have := HK.out; omega
     case rel => exact ⟨1, rfl, ⟨by decide, by decide, by decide, fun _ => NG.out, by omega⟩, HB8⟩
    ·
     have hR : (R1, R2) = (M1, true) := by rw [← HTRY.out.2]; exact HRR.out.symm.trans (mmove_yes HOK.out HPOS.out ⟨HKK.out, HTRY.out.1⟩ (fun h => by cases h))
     cases hR
     go_wp2
     go_ret2
     exact ⟨_, rfl, HO8.out, HB8.out⟩
  ·
   have N0 := Aside0.mk (n0 (by omega))
   have HK := Aside0.mk hk
   clear n0 n1 hk j0 j2 h2 HJ
   obtain ⟨ok, hv⟩ : ∃ ok, ok = (decide (-20 ≤ k ∧ k ≤ 20) && toneOk (mvT x k true)) := ⟨_, rfl⟩
   have HV := Aside0.mk hv
   have hta : impl_ToneAbove.f 1 x.f0 x.f1 k true = some (if ok = true then (x.f0 + k, true, true) else (0, false, false)) := by
    by_cases hk : -20 ≤ k ∧ k ≤ 20
    ·
     rw [impl_ToneAbove_eq x k true HXL.out.1 hk, hv, decide_eq_true hk]; rfl
    ·
     rw [impl_ToneAbove_out x k true HXL.out.1 hk, hv, decide_eq_false hk]; rfl
   have HTA := Aside0.mk hta
   clear hta hv
   have hx0 : wr.cell? ad = some (.int .i64 x.f0) := (HB2.out.cell (World.block_lt_of_cell? w _ UX0.out)).trans UX0.out
   have hx1 : wr.cell? ⟨ad.block, ad.off + 1, none⟩ = some (.bool x.f1) := (HB2.out.cell (World.block_lt_of_cell? w _ UX1.out)).trans UX1.out
   cases ok
   ·
    have NG : Aside0 (¬ mmT m k true) := ⟨fun h => by have hv := HV.out; rw [decide_eq_true h.1, Bool.true_and] at hv; have h2 := h.2; unfold mmTry at h2; rw [← HXL.out.2, ← hv] at h2; cases h2⟩
    go_wp2_with (first
     | (go_at_call 54; refine (impl_ToneAbove.calls 1 x.f0 x.f1 k true 0 false false _ (HTA.out.trans rfl)).mono ?_; rintro e w4 ⟨rfl, hb4⟩; have HB4 := Aside0.mk hb4; clear hb4)
     | ((with_reducible refine gate_dst (N := 8) rfl ?_); refine box_event ?hg (N := 8) ?hd (cs := #[.int .i64 0, .bool false]) (t := 29) ?hr ?_; (case hd => rfl); (case hg => rfl); (case hr => first | (go_simp; done) | (go_simp; rfl)); intro gb hg w5 hbox hb5; have HG := Aside0.mk (show w4.heap.size ≤ gb by omega); have HB5 := Aside0.mk hb5; have hcz0 : w5.cell? ⟨gb, 0, none⟩ = some (.int .i64 0) := (blk_cell hbox 0).trans rfl; have hcz1 : w5.cell? ⟨gb, 1, none⟩ = some (.bool false) := (blk_cell hbox 1).trans rfl; have hfz0 := blk_frozen hbox 0; have hfz1 := blk_frozen hbox 1; clear hbox hb5 hg))
    have hbW : Below wr.heap.size wr ((w5.setCell ⟨gb, 0, none⟩ (.int .i64 0)).setCell ⟨gb, 1, none⟩ (.bool false)) := below_step HB4.out (below_set (below_set HB5.out HG.out) HG.out)
    have HBW := Aside0.mk hbW
    go_roundg (2 - 2)
    case measure => have := HK.out; omega
    case rel => exact ⟨2, rfl, ⟨by decide, by decide, by decide, fun _ => N0.out, fun _ => NG.out⟩, ⟨below_step HB2.out HBW.out⟩⟩
   ·
    have hv := HV.out.symm
    rw [Bool.and_eq_true] at hv
    have hkk := of_decide_eq_true hv.1
    have HKK := Aside0.mk hkk
    have HB' := Aside0.mk (hgt_bd (t := mvT x k true) hv.2)
    have HB'' := Aside0.mk (hgt_bd HXL.out.1)
    obtain ⟨Y, hY⟩ : ∃ Y, Y = x.f0 + k := ⟨_, rfl⟩
    have hYT : mvT x k true = ⟨Y, true⟩ := by rw [hY]; rfl
    obtain ⟨⟨M1, M2⟩, hM⟩ : ∃ R, R = movedP k (hgt ⟨Y, true⟩ - hgt x) m := ⟨_, rfl⟩
    have HM := Aside0.mk hM.symm
    have HTRY : Aside0 (mmTry m k true = M2 ∧ mmOf m k true = M1) := ⟨by unfold mmTry mmOf; rw [← HXL.out.2, hv.2, hYT, ← hM]; exact ⟨rfl, rfl⟩⟩
    have HYO := Aside0.mk (show toneOk ⟨Y, true⟩ = true by rw [← hYT]; exact hv.2)
    have EW : Aside0 (IntKind.i64.wrap (hgt ⟨Y, true⟩ - hgt x) = hgt ⟨Y, true⟩ - hgt x) := ⟨by rw [← hYT, i64_w]; exact w64 (x := hgt (mvT x k true) - hgt x) (by have := HB'.out; have := HB''.out; omega) (by have := HB'.out; have := HB''.out; omega)⟩
    rw [← hY] at HTA
    clear hY hYT HB' HB'' hM hv hkk
    go_upto_region 10 with (first
     | (go_at_call 54; refine (impl_ToneAbove.calls 1 x.f0 x.f1 k true Y true true _ (HTA.out.trans rfl)).mono ?_; rintro e w4 ⟨rfl, hb4⟩; have HB4 := Aside0.mk hb4; clear hb4)
     | ((with_reducible refine gate_dst (N := 8) rfl ?_); refine box_event ?hg (N := 8) ?hd (cs := #[.int .i64 0, .bool false]) (t := 29) ?hr ?_; (case hd => rfl); (case hg => rfl); (case hr => first | (go_simp; done) | (go_simp; rfl)); intro gb hg w5 hbox hb5; have HG := Aside0.mk (show w4.heap.size ≤ gb by omega); have HB5 := Aside0.mk hb5; have HBK := Aside0.mk hbox; have hcz0 : w5.cell? ⟨gb, 0, none⟩ = some (.int .i64 0) := (blk_cell hbox 0).trans rfl; have hcz1 : w5.cell? ⟨gb, 1, none⟩ = some (.bool false) := (blk_cell hbox 1).trans rfl; have hfz0 := blk_frozen hbox 0; have hfz1 := blk_frozen hbox 1; clear hbox hb5 hg))
    have hbW : Below wr.heap.size wr ((w5.setCell ⟨gb, 0, none⟩ (.int .i64 Y)).setCell ⟨gb, 1, none⟩ (.bool true)) := below_step HB4.out (below_set (below_set HB5.out HG.out) HG.out)
    have hbk : ((w5.setCell ⟨gb, 0, none⟩ (.int .i64 Y)).setCell ⟨gb, 1, none⟩ (.bool true)).heap[gb]? = some (.cells #[.int .i64 Y, .bool true] 29 (0, 0)) := blk_put (cs := #[.int .i64 Y, .bool false]) (blk_put (cs := #[.int .i64 0, .bool false]) HBK.out 0 _ rfl) 1 _ rfl
    have HBW := Aside0.mk hbW
    have HBKW := Aside0.mk hbk
    have hy0' := pw_cell_below hbW hx0
    have hy1' := pw_cell_below hbW hx1
    clear hbW hbk HB4 HB5 HG HBK hcz0 hcz1 hx0 hx1 hfz0 hfz1
    generalize (w5.setCell ⟨gb, 0, none⟩ (.int .i64 Y)).setCell ⟨gb, 1, none⟩ (.bool true) = wx at HBW HBKW hy0' hy1' ⊢
    have hg0 : wx.drew.cell? ⟨gb, 0, none⟩ = some (.int .i64 Y) := (blk_cell HBKW.out 0).trans rfl
    have hg1 : wx.drew.cell? ⟨gb, 1, none⟩ = some (.bool true) := (blk_cell HBKW.out 1).trans rfl
    have hy0 : wx.drew.cell? ad = some (.int .i64 x.f0) := hy0'
    have hy1 : wx.drew.cell? ⟨ad.block, ad.off + 1, none⟩ = some (.bool x.f1) := hy1'
    have HW0 := Aside0.mk (below_step HB2.out (below_drew1 HBW.out))
    have HTW := Aside0.mk (HT.out.below HW0.out)
    clear hy0' hy1'
    go_region_held3 (fun w' => w'.cell? ⟨gb, 0, none⟩ = some (.int .i64 Y) ∧ w'.cell? ⟨gb, 1, none⟩ = some (.bool true) ∧ w'.cell? ad = some (.int .i64 x.f0) ∧ w'.cell? ⟨ad.block, ad.off + 1, none⟩ = some (.bool x.f1))
     (first
      | exact ⟨hg0, hg1, hy0, hy1⟩
      | go_keep
      | exact ⟨pw_cell_below hb6 hg0, pw_cell_below hb6 hg1, pw_cell_below hb6 hy0, pw_cell_below hb6 hy1⟩
      | exact ⟨pw_cell_below (below_step hb6 hb7) hg0, pw_cell_below (below_step hb6 hb7) hg1, pw_cell_below (below_step hb6 hb7) hy0, pw_cell_below (below_step hb6 hb7) hy1⟩
      | exact ⟨pw_cell_below (below_step (below_step hb6 hb7) hb8) hg0, pw_cell_below (below_step (below_step hb6 hb7) hb8) hg1, pw_cell_below (below_step (below_step hb6 hb7) hb8) hy0, pw_cell_below (below_step (below_step hb6 hb7) hb8) hy1⟩
      | fail)
     (first
      | (go_at_call 73; with_reducible refine (impl_height_calls ⟨Y, true⟩ wx.drew HTW.out HYO.out).mono ?_; rintro e w6 ⟨rfl, hb6⟩)
      | (go_at_call 73; with_reducible refine (impl_height_calls x w6 (HTW.out.below hb6) HXL.out.1).mono ?_; rintro e w7 ⟨rfl, hb7⟩)
      | (go_at_call 72; with_reducible refine (impl_movedMelody_calls m k (IntKind.i64.wrap (hgt ⟨Y, true⟩ - hgt x)) _ _ w7 (HTW.out.below (below_step hb6 hb7)) (Kd.C_below HR0.out (below_step HW0.out (below_step hb6 hb7))) HC0.out HOK.out HKK.out).mono ?_; rintro e w8 ⟨v8, rfl, ho8, hb8⟩; rw [EW.out, HM.out] at ho8; rw [EW.out, HM.out]; obtain ⟨A8, c8, rfl⟩ := Kd.R_slice ho8)
      | fail)
    have HB8 := Aside0.mk (below_step (below_step HW0.out (below_step hb6 hb7)) hb8)
    have HO8 := Aside0.mk (Kd.R_lower ho8 (below_step HW0.out (below_step hb6 hb7)).size)
    clear hg0 hg1 hy0 hy1 hb6 hb7 hb8 ho8 HBKW HBW HTW HW0
    cases M2
    ·
     have NG : Aside0 (¬ mmT m k true) := ⟨fun h => by have h2 := h.2; rw [HTRY.out.1] at h2; cases h2⟩
     go_wp2
     go_roundg (2 - 2)
     case measure => have := HK.out; omega
     case rel => exact ⟨2, rfl, ⟨by decide, by decide, by decide, fun _ => N0.out, fun _ => NG.out⟩, HB8⟩
    ·
     have hR : (R1, R2) = (M1, true) := by rw [← HTRY.out.2]; exact HRR.out.symm.trans (mmove_yes HOK.out HPOS.out ⟨HKK.out, HTRY.out.1⟩ (fun _ => N0.out))
     cases hR
     go_wp2
     go_ret2
     exact ⟨_, rfl, HO8.out, HB8.out⟩

end Go.Proofs.YthhnaplmjpacnaaDoor.Pure
namespace Go.Proofs.YthhnaplmjpacnaaDoor.Pure
set_option linter.unusedVariables false
set_option linter.unusedSimpArgs false
open Go Go.RowKit Go.Proofs.YthhnaplmjpacnaaDoor.PFnExactModeMoves Go.Proofs.YthhnaplmjpacnaaDoorW.PrintWords Go.Proofs.YthhnaplmjpacnaaDoorW.PrintLast Go.Proofs.YthhnaplmjpacnaaDoorW.PrintMore

def mCells : Array Value := #[.int .i64 4, .int .i64 8, .int .i64 3, .int .i64 12, .int .i64 4, .int .i64 6, .int .i64 0, .int .i64 9, .int .i64 5, .int .i64 10, .int .i64 4, .int .i64 13, .int .i64 5, .int .i64 8, .int .i64 1, .int .i64 10, .int .i64 6, .int .i64 10, .int .i64 5, .int .i64 14, .int .i64 6, .int .i64 8, .int .i64 2, .int .i64 11, .int .i64 7, .int .i64 11, .int .i64 6, .int .i64 15, .int .i64 7, .int .i64 10, .int .i64 3, .int .i64 12]
def MTab (w : World) : Prop := ∃ t fz, w.heap[0]? = some (.cells mCells t fz)
theorem MTab.below {w w' : World} (h : MTab w) (hb : Below w.heap.size w w') : MTab w' := by
 obtain ⟨t, fz, h⟩ := h
 exact ⟨t, fz, (hb.block _ (blk_lt h)).trans h⟩
theorem MTab.cell {w : World} (h : MTab w) (i : Nat) : w.cell? ⟨0, i, none⟩ = mCells[i]? := by
 obtain ⟨t, fz, h⟩ := h
 exact cell_of_row w _ i mCells t fz h
def mRz (mode : Int) : Int × Int × Int × Int := if mOk mode = true then mRow mode else (0, 0, 0, 0)
set_option maxHeartbeats 4000000 in
set_option maxRecDepth 100000 in
theorem impl_modeAt_calls (mode : Int) (w : World) (ht : MTab w) :
 Calls Tryd.prog 61 #[.int .i64 mode] w fun e w' => e = .returned (.tuple #[.agg #[.int .i64 (mRz mode).1, .int .i64 (mRz mode).2.1, .int .i64 (mRz mode).2.2.1, .int .i64 (mRz mode).2.2.2], .bool (mOk mode)]) ∧ Below w.heap.size w w' := by
 have hu := Tryd.underlying75
 by_cases h1 : mode < 1
 ·
  have d1 : decide (mode < 1) = true := decide_eq_true h1
  have e : mOk mode = false := decide_eq_false (by omega)
  have ez : mRz mode = (0, 0, 0, 0) := by unfold mRz; rw [e]; rfl
  rw [e, ez]
  clear h1 e ez
  go_enter Tryd.func61, Tryd.ntmps61
  go_wp2
  (try simp only [Exit.inBlock, Exit.then])
  refine bodyPost_ret (results_ct rfl _ _ w.heap.size 75 #[.int .i64 0, .int .i64 0, .int .i64 0, .int .i64 0] (0, 0) _ rfl (blk_new w _) Tryd.underlying75 rfl (by kernel_rfl)) rfl ?_
  exact ⟨rfl, below_alloc (Below.refl _ _) _⟩
 have d1 : decide (mode < 1) = false := decide_eq_false h1
 by_cases h2 : mode > 8
 ·
  have d2 : decide (8 < mode) = true := decide_eq_true h2
  have e : mOk mode = false := decide_eq_false (by omega)
  have ez : mRz mode = (0, 0, 0, 0) := by unfold mRz; rw [e]; rfl
  rw [e, ez]
  clear h1 h2 e ez
  go_enter Tryd.func61, Tryd.ntmps61
  go_wp2
  (try simp only [Exit.inBlock, Exit.then])
  refine bodyPost_ret (results_ct rfl _ _ w.heap.size 75 #[.int .i64 0, .int .i64 0, .int .i64 0, .int .i64 0] (0, 0) _ rfl (blk_new w _) Tryd.underlying75 rfl (by kernel_rfl)) rfl ?_
  exact ⟨rfl, below_alloc (Below.refl _ _) _⟩
 have e : mOk mode = true := decide_eq_true (by omega)
 have hc := mOk_cases e
 have ez : mRz mode = mRow mode := by unfold mRz; rw [e]; rfl
 rw [e, ez]
 clear h1 h2 d1 e ez
 have hn := fun (i : Nat) (v : Value) (h : w.cell? ⟨0, i, none⟩ = some v) => pw_cell_below (below_alloc (Below.refl w.heap.size w) (.cells #[.int .i64 0, .int .i64 0, .int .i64 0, .int .i64 0] 75 (0, 0))) h
 rcases hc with rfl | rfl | rfl | rfl | rfl | rfl | rfl | rfl
 ·
  have c0 := hn 0 (.int .i64 4) ((ht.cell 0).trans rfl)
  have c1 := hn 1 (.int .i64 8) ((ht.cell 1).trans rfl)
  have c2 := hn 2 (.int .i64 3) ((ht.cell 2).trans rfl)
  have c3 := hn 3 (.int .i64 12) ((ht.cell 3).trans rfl)
  clear hn
  go_enter Tryd.func61, Tryd.ntmps61
  go_wp2
  (try simp only [Exit.inBlock, Exit.then])
  refine bodyPost_ret (results_ct rfl _ _ w.heap.size 75 #[.int .i64 4, .int .i64 8, .int .i64 3, .int .i64 12] (0, 0) _ rfl (blk_new w _) Tryd.underlying75 rfl (by kernel_rfl)) rfl ?_
  exact ⟨rfl, below_alloc (Below.refl _ _) _⟩
 ·
  have c0 := hn 4 (.int .i64 4) ((ht.cell 4).trans rfl)
  have c1 := hn 5 (.int .i64 6) ((ht.cell 5).trans rfl)
  have c2 := hn 6 (.int .i64 0) ((ht.cell 6).trans rfl)
  have c3 := hn 7 (.int .i64 9) ((ht.cell 7).trans rfl)
  clear hn
  go_enter Tryd.func61, Tryd.ntmps61
  go_wp2
  (try simp only [Exit.inBlock, Exit.then])
  refine bodyPost_ret (results_ct rfl _ _ w.heap.size 75 #[.int .i64 4, .int .i64 6, .int .i64 0, .int .i64 9] (0, 0) _ rfl (blk_new w _) Tryd.underlying75 rfl (by kernel_rfl)) rfl ?_
  exact ⟨rfl, below_alloc (Below.refl _ _) _⟩
 ·
  have c0 := hn 8 (.int .i64 5) ((ht.cell 8).trans rfl)
  have c1 := hn 9 (.int .i64 10) ((ht.cell 9).trans rfl)
  have c2 := hn 10 (.int .i64 4) ((ht.cell 10).trans rfl)
  have c3 := hn 11 (.int .i64 13) ((ht.cell 11).trans rfl)
  clear hn
  go_enter Tryd.func61, Tryd.ntmps61
  go_wp2
  (try simp only [Exit.inBlock, Exit.then])
  refine bodyPost_ret (results_ct rfl _ _ w.heap.size 75 #[.int .i64 5, .int .i64 10, .int .i64 4, .int .i64 13] (0, 0) _ rfl (blk_new w _) Tryd.underlying75 rfl (by kernel_rfl)) rfl ?_
  exact ⟨rfl, below_alloc (Below.refl _ _) _⟩
 ·
  have c0 := hn 12 (.int .i64 5) ((ht.cell 12).trans rfl)
  have c1 := hn 13 (.int .i64 8) ((ht.cell 13).trans rfl)
  have c2 := hn 14 (.int .i64 1) ((ht.cell 14).trans rfl)
  have c3 := hn 15 (.int .i64 10) ((ht.cell 15).trans rfl)
  clear hn
  go_enter Tryd.func61, Tryd.ntmps61
  go_wp2
  (try simp only [Exit.inBlock, Exit.then])
  refine bodyPost_ret (results_ct rfl _ _ w.heap.size 75 #[.int .i64 5, .int .i64 8, .int .i64 1, .int .i64 10] (0, 0) _ rfl (blk_new w _) Tryd.underlying75 rfl (by kernel_rfl)) rfl ?_
  exact ⟨rfl, below_alloc (Below.refl _ _) _⟩
 ·
  have c0 := hn 16 (.int .i64 6) ((ht.cell 16).trans rfl)
  have c1 := hn 17 (.int .i64 10) ((ht.cell 17).trans rfl)
  have c2 := hn 18 (.int .i64 5) ((ht.cell 18).trans rfl)
  have c3 := hn 19 (.int .i64 14) ((ht.cell 19).trans rfl)
  clear hn
  go_enter Tryd.func61, Tryd.ntmps61
  go_wp2
  (try simp only [Exit.inBlock, Exit.then])
  refine bodyPost_ret (results_ct rfl _ _ w.heap.size 75 #[.int .i64 6, .int .i64 10, .int .i64 5, .int .i64 14] (0, 0) _ rfl (blk_new w _) Tryd.underlying75 rfl (by kernel_rfl)) rfl ?_
  exact ⟨rfl, below_alloc (Below.refl _ _) _⟩
 ·
  have c0 := hn 20 (.int .i64 6) ((ht.cell 20).trans rfl)
  have c1 := hn 21 (.int .i64 8) ((ht.cell 21).trans rfl)
  have c2 := hn 22 (.int .i64 2) ((ht.cell 22).trans rfl)
  have c3 := hn 23 (.int .i64 11) ((ht.cell 23).trans rfl)
  clear hn
  go_enter Tryd.func61, Tryd.ntmps61
  go_wp2
  (try simp only [Exit.inBlock, Exit.then])
  refine bodyPost_ret (results_ct rfl _ _ w.heap.size 75 #[.int .i64 6, .int .i64 8, .int .i64 2, .int .i64 11] (0, 0) _ rfl (blk_new w _) Tryd.underlying75 rfl (by kernel_rfl)) rfl ?_
  exact ⟨rfl, below_alloc (Below.refl _ _) _⟩
 ·
  have c0 := hn 24 (.int .i64 7) ((ht.cell 24).trans rfl)
  have c1 := hn 25 (.int .i64 11) ((ht.cell 25).trans rfl)
  have c2 := hn 26 (.int .i64 6) ((ht.cell 26).trans rfl)
  have c3 := hn 27 (.int .i64 15) ((ht.cell 27).trans rfl)
  clear hn
  go_enter Tryd.func61, Tryd.ntmps61
  go_wp2
  (try simp only [Exit.inBlock, Exit.then])
  refine bodyPost_ret (results_ct rfl _ _ w.heap.size 75 #[.int .i64 7, .int .i64 11, .int .i64 6, .int .i64 15] (0, 0) _ rfl (blk_new w _) Tryd.underlying75 rfl (by kernel_rfl)) rfl ?_
  exact ⟨rfl, below_alloc (Below.refl _ _) _⟩
 ·
  have c0 := hn 28 (.int .i64 7) ((ht.cell 28).trans rfl)
  have c1 := hn 29 (.int .i64 10) ((ht.cell 29).trans rfl)
  have c2 := hn 30 (.int .i64 3) ((ht.cell 30).trans rfl)
  have c3 := hn 31 (.int .i64 12) ((ht.cell 31).trans rfl)
  clear hn
  go_enter Tryd.func61, Tryd.ntmps61
  go_wp2
  (try simp only [Exit.inBlock, Exit.then])
  refine bodyPost_ret (results_ct rfl _ _ w.heap.size 75 #[.int .i64 7, .int .i64 10, .int .i64 3, .int .i64 12] (0, 0) _ rfl (blk_new w _) Tryd.underlying75 rfl (by kernel_rfl)) rfl ?_
  exact ⟨rfl, below_alloc (Below.refl _ _) _⟩

end Go.Proofs.YthhnaplmjpacnaaDoor.Pure
namespace Go.Proofs.YthhnaplmjpacnaaDoor.Pure
set_option linter.unusedVariables false
set_option linter.unusedSimpArgs false
open Go Go.RowKit Go.Proofs.YthhnaplmjpacnaaDoor.PFnExactModeMoves Go.Proofs.YthhnaplmjpacnaaDoorW.PrintWords Go.Proofs.YthhnaplmjpacnaaDoorW.PrintLast Go.Proofs.YthhnaplmjpacnaaDoorW.PrintMore

theorem mlo_step {a v : Int} {x : S29} {xs : List S29} {r : Int} (h : mlo a (x :: xs) = r) (hv : (v = a ∧ a ≤ x.f0) ∨ (v = x.f0 ∧ x.f0 ≤ a)) : mlo v xs = r := by
 have := mn_le a x.f0
 have e : v = mn a x.f0 := by omega
 rw [e]; exact h
theorem mhi_step {a v : Int} {x : S29} {xs : List S29} {r : Int} (h : mhi a (x :: xs) = r) (hv : (v = a ∧ x.f0 ≤ a) ∨ (v = x.f0 ∧ a ≤ x.f0)) : mhi v xs = r := by
 have := mx_le a x.f0
 have e : v = mx a x.f0 := by omega
 rw [e]; exact h
attribute [local go_sem] max2_int min2_int max_two min_two max_three min_three max_four min_four
set_option maxHeartbeats 4000000 in
set_option maxRecDepth 100000 in
theorem impl_MelodyRange_calls (m : List S29) (A0 : Option Addr) (c0 : Nat) (w : World) (hr0 : Kd.C k29 w A0 m.length m) (hc0 : m.length ≤ c0) (hm : m.length ≤ 1000000000000) :
 Calls Tryd.prog 62 #[.slice A0 m.length c0] w fun e w' => e = .returned (.tuple #[.int .i64 (mrange m).1, .int .i64 (mrange m).2.1, .bool (mrange m).2.2]) ∧ Below w.heap.size w w' := by
 obtain ⟨kk, hv⟩ := Ev.rounds (impl_MelodyValid_ev m)
 have HR0 := Aside0.mk hr0
 have HC0 := Aside0.mk hc0
 have HV := Aside0.mk hv
 clear hr0 hc0 hv
 cases hok : melOk m
 ·
  have e : mrange m = (0, 0, false) := by unfold mrange mSome; rw [hok]; rfl
  rw [e]
  rw [hok] at HV
  clear hok e
  go_enter Tryd.func62, Tryd.ntmps62
  go_wp2_with (go_at_call 71; refine (impl_MelodyValid.calls kk _ _ m false _ HR0.out HC0.out HV.out).mono ?_; rintro e w1 ⟨rfl, hb1⟩)
  go_ret3
  exact ⟨rfl, hb1⟩
 rw [hok] at HV
 by_cases h0 : 0 < m.length
 ·
  have e : mrange m = (mlo (rd_T29 m 0).f0 m, mhi (rd_T29 m 0).f0 m, true) := by unfold mrange mSome; rw [hok, decide_eq_true h0]; rfl
  rw [e]
  have hne : ((m.length : Int) == 0) = false := by rw [beq_eq_false_iff_ne]; omega
  have hne' : (m.length == 0) = false := by rw [beq_eq_false_iff_ne]; omega
  obtain ⟨LO, hLO⟩ : ∃ x, x = mlo (rd_T29 m 0).f0 m := ⟨_, rfl⟩
  obtain ⟨HI, hHI⟩ : ∃ x, x = mhi (rd_T29 m 0).f0 m := ⟨_, rfl⟩
  rw [← hLO, ← hHI]
  have HX := Aside0.mk (And.intro hLO hHI)
  obtain ⟨ad, e1, ux0, ux1⟩ := at_T29 HR0.out 0 (by omega) (by omega)
  subst e1
  obtain ⟨X, hX⟩ : ∃ X, X = (rd_T29 m 0).f0 := ⟨_, rfl⟩
  have HXX := Aside0.mk hX
  rw [← hX] at ux0
  have UX := Aside0.mk ux0
  have i1 := eq_true (show 0 < (m.length : Int) by omega)
  have i2 := eq_true h0
  clear hok e hLO hHI h0 ux0 ux1 hX
  go_enter Tryd.func62, Tryd.ntmps62
  have UY : Aside0 (w.cell? ad = some (.int .i64 X)) := ⟨UX.out⟩
  go_upto_region 3 with (go_at_call 71; refine (impl_MelodyValid.calls kk _ _ m true _ HR0.out HC0.out HV.out).mono ?_; rintro e w1 ⟨rfl, hb1⟩; have hx0 := pw_cell_below hb1 UY.out)
  go_region
  go_wp2_with (go_at_call 96; refine (impl_linked_calls m _ _ w1.drew (Kd.C_below HR0.out (below_drew1 hb1)) HC0.out hm).mono ?_; rintro e w2 ⟨v, rfl, hl2, hb2⟩; have HL := Aside0.mk hl2; have HB := Aside0.mk (below_step (below_drew1 hb1) hb2); clear hl2)
  go_loopg [5, 6, 7] m.length (fun kq v5 v6 v7 w' => ∃ (a b : Int) (l : List S29), v5 = .int .i64 a ∧ v6 = .int .i64 b ∧ Aside0 (kq = l.length ∧ mlo a l = LO ∧ mhi b l = HI) ∧ Aside0 (Lk w' w1.drew.heap.size v7 l) ∧ Aside0 (Below w.heap.size w w'))
  case atStart => exact ⟨X, X, m, rfl, rfl, ⟨rfl, by rw [HX.out.1, HXX.out], by rw [HX.out.2, HXX.out]⟩, ⟨HL.out⟩, ⟨HB.out⟩⟩
  case round =>
   obtain ⟨a, b, l, rfl, rfl, HY, HL1, HB1⟩ := hrel
   obtain ⟨hk, hlo, hhi⟩ := HY.out
   cases l with
   | nil =>
    obtain rfl := HL1.out
    simp only [mlo] at hlo
    simp only [mhi] at hhi
    subst hlo; subst hhi
    go_wp2
    go_ret3
    exact ⟨rfl, HB1.out⟩
   | cons x xs =>
    obtain ⟨g, nx, e1, _, hbx, hnx⟩ := HL1.out
    subst e1
    have hx1 : wr.cell? ⟨g, 0, none⟩ = some (.int .i64 x.f0) := (blk_cell hbx 0).trans rfl
    have hx2 : wr.cell? ⟨g, 2, none⟩ = some nx := (blk_cell hbx 2).trans rfl
    obtain ⟨p, rfl⟩ := hnx.ptr
    have HN := Aside0.mk hnx
    have HK := Aside0.mk hk
    have HZ := Aside0.mk (And.intro hlo hhi)
    clear hk hlo hhi hbx hnx
    go_wp2
    all_goals
     go_roundg xs.length
     case measure => rw [HK.out]; simp
     case rel => exact ⟨_, _, xs, rfl, rfl, ⟨rfl, mlo_step HZ.out.1 (by omega), mhi_step HZ.out.2 (by omega)⟩, HN, HB1⟩
 ·
  have e : mrange m = (0, 0, false) := by unfold mrange mSome; rw [hok, decide_eq_false h0]; rfl
  rw [e]
  have e2 : m = [] := List.eq_nil_of_length_eq_zero (by omega)
  subst e2
  clear hok e h0
  go_enter Tryd.func62, Tryd.ntmps62
  go_wp2_with (go_at_call 71; refine (impl_MelodyValid.calls kk _ _ [] true _ HR0.out HC0.out HV.out).mono ?_; rintro e w1 ⟨rfl, hb1⟩)
  go_ret3
  exact ⟨rfl, hb1⟩

end Go.Proofs.YthhnaplmjpacnaaDoor.Pure
namespace Go.Proofs.YthhnaplmjpacnaaDoor.Pure
set_option linter.unusedVariables false
set_option linter.unusedSimpArgs false
open Go Go.RowKit Go.Proofs.YthhnaplmjpacnaaDoor.PFnExactModeMoves Go.Proofs.YthhnaplmjpacnaaDoorW.PrintWords Go.Proofs.YthhnaplmjpacnaaDoorW.PrintLast Go.Proofs.YthhnaplmjpacnaaDoorW.PrintMore

set_option maxHeartbeats 8000000 in
set_option maxRecDepth 100000 in
theorem impl_ModeIn_calls (m : List S29) (mode : Int) (A0 : Option Addr) (c0 : Nat) (w : World) (ht : MTab w) (hr0 : Kd.C k29 w A0 m.length m) (hc0 : m.length ≤ c0) (hm : m.length ≤ 1000000000000) :
 Calls Tryd.prog 15 #[.slice A0 m.length c0, .int .i64 mode] w fun e w' => e = .returned (.bool (mIn m mode)) ∧ Below w.heap.size w w' := by
 have HT := Aside0.mk ht
 have HR0 := Aside0.mk hr0
 have HC0 := Aside0.mk hc0
 clear ht hr0 hc0
 have hu := Tryd.underlying75
 have hu1 := Tryd.underlying29
 have hout : mIn m mode = (mSome m && (mOk mode && ((rd_T29 m ((m.length : Int) - 1)).f0 == (mRz mode).1 && (!(rd_T29 m ((m.length : Int) - 1)).f1 && (decide ((mRz mode).2.2.1 ≤ mlo (rd_T29 m 0).f0 m) && decide (mhi (rd_T29 m 0).f0 m ≤ (mRz mode).2.2.2)))))) := by
  unfold mIn mRz
  cases mOk mode <;> simp
 have hrange : mrange m = if mSome m = true then (mlo (rd_T29 m 0).f0 m, mhi (rd_T29 m 0).f0 m, true) else (0, 0, false) := rfl
 obtain ⟨a, b, c, d, hz⟩ : ∃ a b c d, mRz mode = (a, b, c, d) := ⟨_, _, _, _, rfl⟩
 rw [hz] at hout
 simp only [] at hout
 obtain ⟨lo, hi, so, hg⟩ : ∃ lo hi so, mrange m = (lo, hi, so) := ⟨_, _, _, rfl⟩
 have HA := Aside0.mk (show ∀ w, MTab w → Calls Tryd.prog 61 #[.int .i64 mode] w fun e w' => e = .returned (.tuple #[.agg #[.int .i64 a, .int .i64 b, .int .i64 c, .int .i64 d], .bool (mOk mode)]) ∧ Below w.heap.size w w' from fun w h => by have := impl_modeAt_calls mode w h; rw [hz] at this; exact this)
 have HM := Aside0.mk (show ∀ w, Kd.C k29 w A0 m.length m → Calls Tryd.prog 62 #[.slice A0 m.length c0] w fun e w' => e = .returned (.tuple #[.int .i64 lo, .int .i64 hi, .bool so]) ∧ Below w.heap.size w w' from fun w h => by have := impl_MelodyRange_calls m A0 c0 w h HC0.out hm; rw [hg] at this; exact this)
 obtain ⟨ok, hok⟩ : ∃ ok, ok = mOk mode := ⟨_, rfl⟩
 rw [← hok] at hout HA
 clear hok hz
 cases hs : mSome m
 ·
  rw [hs] at hout hrange
  rw [hout]
  rw [hg] at hrange
  simp only [Bool.false_eq_true, if_false, Prod.mk.injEq] at hrange
  obtain ⟨rfl, rfl, rfl⟩ := hrange
  clear hout hs hg
  cases ok
  ·
   go_enter Tryd.func15, Tryd.ntmps15
   go_wp2_with (first
    | (go_at_call 61; refine (HA.out _ HT.out).mono ?_; rintro e w1 ⟨rfl, hb1⟩)
    | (go_at_call 62; refine (HM.out _ (Kd.C_below HR0.out (below_alloc hb1 _))).mono ?_; rintro e w2 ⟨rfl, hb2⟩))
   go_ret
   exact ⟨rfl, below_step (below_alloc hb1 _) hb2⟩
  ·
   go_enter Tryd.func15, Tryd.ntmps15
   go_wp2_with (first
    | (go_at_call 61; refine (HA.out _ HT.out).mono ?_; rintro e w1 ⟨rfl, hb1⟩)
    | (go_at_call 62; refine (HM.out _ (Kd.C_below HR0.out (below_alloc hb1 _))).mono ?_; rintro e w2 ⟨rfl, hb2⟩))
   go_ret
   exact ⟨rfl, below_step (below_alloc hb1 _) hb2⟩
 rw [hs] at hout hrange
 rw [hg] at hrange
 simp only [if_true, Prod.mk.injEq] at hrange
 obtain ⟨h1, h2, rfl⟩ := hrange
 rw [← h1, ← h2] at hout
 have h0 : 0 < m.length := by unfold mSome at hs; simp at hs; exact hs.2
 clear hs hg h1 h2
 cases ok
 ·
  rw [hout]
  clear hout
  go_enter Tryd.func15, Tryd.ntmps15
  go_wp2_with (first
   | (go_at_call 61; refine (HA.out _ HT.out).mono ?_; rintro e w1 ⟨rfl, hb1⟩)
   | (go_at_call 62; refine (HM.out _ (Kd.C_below HR0.out (below_alloc hb1 _))).mono ?_; rintro e w2 ⟨rfl, hb2⟩))
  go_ret
  exact ⟨rfl, below_step (below_alloc hb1 _) hb2⟩
 obtain ⟨ad, e1, ux0, ux1⟩ := at_T29 HR0.out ((m.length : Int) - 1) (by omega) (by omega)
 subst e1
 obtain ⟨X, hX⟩ : ∃ X, X = rd_T29 m ((m.length : Int) - 1) := ⟨_, rfl⟩
 rw [← hX] at ux0 ux1 hout
 have en : ((m.length : Int) - 1).toNat = m.length - 1 := by omega
 rw [en] at ux0 ux1
 have U0 := Aside0.mk ux0
 have U1 := Aside0.mk ux1
 simp only [Bool.true_and] at hout
 have i1 := eq_true (show (m.length : Int) - 1 < (m.length : Int) by omega)
 have i2 := eq_true (show 0 ≤ (m.length : Int) - 1 by omega)
 clear hX ux0 ux1
 cases h1 : (X.f0 == a)
 ·
  rw [hout, h1]
  clear hout
  simp only [Bool.false_and]
  go_enter Tryd.func15, Tryd.ntmps15
  go_wp2_with (first
   | (go_at_call 61; refine (HA.out _ HT.out).mono ?_; rintro e w1 ⟨rfl, hb1⟩)
   | (go_at_call 62; refine (HM.out _ (Kd.C_below HR0.out (below_alloc hb1 _))).mono ?_; rintro e w2 ⟨rfl, hb2⟩; have hq0 : (w2.alloc (Obj.cells #[.int .i64 X.f0, .bool X.f1] 29)).cell? ⟨w1.heap.size, 0, none⟩ = some (.int .i64 a) := pw_cell_below (below_alloc (Below.refl _ _) _) (pw_cell_below hb2 ((blk_cell (blk_new w1 _) 0).trans rfl)); have hq2 : (w2.alloc (Obj.cells #[.int .i64 X.f0, .bool X.f1] 29)).cell? ⟨w1.heap.size, 2, none⟩ = some (.int .i64 c) := pw_cell_below (below_alloc (Below.refl _ _) _) (pw_cell_below hb2 ((blk_cell (blk_new w1 _) 2).trans rfl)); have hq3 : (w2.alloc (Obj.cells #[.int .i64 X.f0, .bool X.f1] 29)).cell? ⟨w1.heap.size, 3, none⟩ = some (.int .i64 d) := pw_cell_below (below_alloc (Below.refl _ _) _) (pw_cell_below hb2 ((blk_cell (blk_new w1 _) 3).trans rfl)); have HB := Aside0.mk (below_step (below_alloc hb1 _) hb2); have hx0 := pw_cell_below (below_step (below_alloc hb1 _) hb2) U0.out; have hx1 := pw_cell_below (below_step (below_alloc hb1 _) hb2) U1.out))
  go_ret
  exact ⟨rfl, below_alloc HB.out _⟩
 cases h2 : X.f1
 ·
  rw [h2] at U1
  by_cases h3 : c ≤ lo
  ·
   have d3 : decide (c ≤ lo) = true := decide_eq_true h3
   by_cases h4 : hi ≤ d
   ·
    have d4 : decide (hi ≤ d) = true := decide_eq_true h4
    have e : mIn m mode = true := by rw [hout, h1, h2, d3, d4]; rfl
    rw [e]
    clear hout h3 h4 e
    go_enter Tryd.func15, Tryd.ntmps15
    go_wp2_with (first
     | (go_at_call 61; refine (HA.out _ HT.out).mono ?_; rintro e w1 ⟨rfl, hb1⟩)
     | (go_at_call 62; refine (HM.out _ (Kd.C_below HR0.out (below_alloc hb1 _))).mono ?_; rintro e w2 ⟨rfl, hb2⟩; have hq0 : (w2.alloc (Obj.cells #[.int .i64 X.f0, .bool false] 29)).cell? ⟨w1.heap.size, 0, none⟩ = some (.int .i64 a) := pw_cell_below (below_alloc (Below.refl _ _) _) (pw_cell_below hb2 ((blk_cell (blk_new w1 _) 0).trans rfl)); have hq2 : (w2.alloc (Obj.cells #[.int .i64 X.f0, .bool false] 29)).cell? ⟨w1.heap.size, 2, none⟩ = some (.int .i64 c) := pw_cell_below (below_alloc (Below.refl _ _) _) (pw_cell_below hb2 ((blk_cell (blk_new w1 _) 2).trans rfl)); have hq3 : (w2.alloc (Obj.cells #[.int .i64 X.f0, .bool false] 29)).cell? ⟨w1.heap.size, 3, none⟩ = some (.int .i64 d) := pw_cell_below (below_alloc (Below.refl _ _) _) (pw_cell_below hb2 ((blk_cell (blk_new w1 _) 3).trans rfl)); have HB := Aside0.mk (below_step (below_alloc hb1 _) hb2); have hx0 := pw_cell_below (below_step (below_alloc hb1 _) hb2) U0.out; have hx1 := pw_cell_below (below_step (below_alloc hb1 _) hb2) U1.out))
    go_ret
    exact ⟨rfl, below_alloc HB.out _⟩
   ·
    have d4 : decide (hi ≤ d) = false := decide_eq_false h4
    have e : mIn m mode = false := by rw [hout, h1, h2, d3, d4]; rfl
    rw [e]
    clear hout h3 h4 e
    go_enter Tryd.func15, Tryd.ntmps15
    go_wp2_with (first
     | (go_at_call 61; refine (HA.out _ HT.out).mono ?_; rintro e w1 ⟨rfl, hb1⟩)
     | (go_at_call 62; refine (HM.out _ (Kd.C_below HR0.out (below_alloc hb1 _))).mono ?_; rintro e w2 ⟨rfl, hb2⟩; have hq0 : (w2.alloc (Obj.cells #[.int .i64 X.f0, .bool false] 29)).cell? ⟨w1.heap.size, 0, none⟩ = some (.int .i64 a) := pw_cell_below (below_alloc (Below.refl _ _) _) (pw_cell_below hb2 ((blk_cell (blk_new w1 _) 0).trans rfl)); have hq2 : (w2.alloc (Obj.cells #[.int .i64 X.f0, .bool false] 29)).cell? ⟨w1.heap.size, 2, none⟩ = some (.int .i64 c) := pw_cell_below (below_alloc (Below.refl _ _) _) (pw_cell_below hb2 ((blk_cell (blk_new w1 _) 2).trans rfl)); have hq3 : (w2.alloc (Obj.cells #[.int .i64 X.f0, .bool false] 29)).cell? ⟨w1.heap.size, 3, none⟩ = some (.int .i64 d) := pw_cell_below (below_alloc (Below.refl _ _) _) (pw_cell_below hb2 ((blk_cell (blk_new w1 _) 3).trans rfl)); have HB := Aside0.mk (below_step (below_alloc hb1 _) hb2); have hx0 := pw_cell_below (below_step (below_alloc hb1 _) hb2) U0.out; have hx1 := pw_cell_below (below_step (below_alloc hb1 _) hb2) U1.out))
    go_ret
    exact ⟨rfl, below_alloc HB.out _⟩
  ·
   have d3 : decide (c ≤ lo) = false := decide_eq_false h3
   have e : mIn m mode = false := by rw [hout, h1, h2, d3]; rfl
   rw [e]
   clear hout h3 e
   go_enter Tryd.func15, Tryd.ntmps15
   go_wp2_with (first
    | (go_at_call 61; refine (HA.out _ HT.out).mono ?_; rintro e w1 ⟨rfl, hb1⟩)
    | (go_at_call 62; refine (HM.out _ (Kd.C_below HR0.out (below_alloc hb1 _))).mono ?_; rintro e w2 ⟨rfl, hb2⟩; have hq0 : (w2.alloc (Obj.cells #[.int .i64 X.f0, .bool false] 29)).cell? ⟨w1.heap.size, 0, none⟩ = some (.int .i64 a) := pw_cell_below (below_alloc (Below.refl _ _) _) (pw_cell_below hb2 ((blk_cell (blk_new w1 _) 0).trans rfl)); have hq2 : (w2.alloc (Obj.cells #[.int .i64 X.f0, .bool false] 29)).cell? ⟨w1.heap.size, 2, none⟩ = some (.int .i64 c) := pw_cell_below (below_alloc (Below.refl _ _) _) (pw_cell_below hb2 ((blk_cell (blk_new w1 _) 2).trans rfl)); have hq3 : (w2.alloc (Obj.cells #[.int .i64 X.f0, .bool false] 29)).cell? ⟨w1.heap.size, 3, none⟩ = some (.int .i64 d) := pw_cell_below (below_alloc (Below.refl _ _) _) (pw_cell_below hb2 ((blk_cell (blk_new w1 _) 3).trans rfl)); have HB := Aside0.mk (below_step (below_alloc hb1 _) hb2); have hx0 := pw_cell_below (below_step (below_alloc hb1 _) hb2) U0.out; have hx1 := pw_cell_below (below_step (below_alloc hb1 _) hb2) U1.out))
   go_ret
   exact ⟨rfl, below_alloc HB.out _⟩
 ·
  rw [h2] at U1
  have e : mIn m mode = false := by rw [hout, h1, h2]; rfl
  rw [e]
  clear hout e
  go_enter Tryd.func15, Tryd.ntmps15
  go_wp2_with (first
   | (go_at_call 61; refine (HA.out _ HT.out).mono ?_; rintro e w1 ⟨rfl, hb1⟩)
   | (go_at_call 62; refine (HM.out _ (Kd.C_below HR0.out (below_alloc hb1 _))).mono ?_; rintro e w2 ⟨rfl, hb2⟩; have hq0 : (w2.alloc (Obj.cells #[.int .i64 X.f0, .bool true] 29)).cell? ⟨w1.heap.size, 0, none⟩ = some (.int .i64 a) := pw_cell_below (below_alloc (Below.refl _ _) _) (pw_cell_below hb2 ((blk_cell (blk_new w1 _) 0).trans rfl)); have hq2 : (w2.alloc (Obj.cells #[.int .i64 X.f0, .bool true] 29)).cell? ⟨w1.heap.size, 2, none⟩ = some (.int .i64 c) := pw_cell_below (below_alloc (Below.refl _ _) _) (pw_cell_below hb2 ((blk_cell (blk_new w1 _) 2).trans rfl)); have hq3 : (w2.alloc (Obj.cells #[.int .i64 X.f0, .bool true] 29)).cell? ⟨w1.heap.size, 3, none⟩ = some (.int .i64 d) := pw_cell_below (below_alloc (Below.refl _ _) _) (pw_cell_below hb2 ((blk_cell (blk_new w1 _) 3).trans rfl)); have HB := Aside0.mk (below_step (below_alloc hb1 _) hb2); have hx0 := pw_cell_below (below_step (below_alloc hb1 _) hb2) U0.out; have hx1 := pw_cell_below (below_step (below_alloc hb1 _) hb2) U1.out))
  go_ret
  exact ⟨rfl, below_alloc HB.out _⟩

end Go.Proofs.YthhnaplmjpacnaaDoor.Pure
namespace Go.Proofs.YthhnaplmjpacnaaDoor.Pure
set_option linter.unusedVariables false
set_option linter.unusedSimpArgs false
open Go Go.RowKit Go.Proofs.YthhnaplmjpacnaaDoor.PFnExactModeMoves Go.Proofs.YthhnaplmjpacnaaDoorW.PrintWords Go.Proofs.YthhnaplmjpacnaaDoorW.PrintLast Go.Proofs.YthhnaplmjpacnaaDoorW.PrintMore

set_option maxHeartbeats 4000000 in
set_option maxRecDepth 100000 in
theorem impl_ModeAll_calls (m : List S29) (A0 : Option Addr) (c0 : Nat) (w : World) (ht : MTab w) (hr0 : Kd.C k29 w A0 m.length m) (hc0 : m.length ≤ c0) (hm : m.length ≤ 1000000000000) :
 Calls Tryd.prog 28 #[.slice A0 m.length c0] w fun e w' => ∃ v, e = .returned v ∧ Kd.R (Kd.int .i64) 3 w' w.heap.size (fun _ => True) v (mUp m 8) ∧ Below w.heap.size w w' := by
 have HT := Aside0.mk ht
 have HR0 := Aside0.mk hr0
 have HC0 := Aside0.mk hc0
 clear ht hr0 hc0
 have hinf : (Tryd.prog.info? 3).map (fun i => (i.zero, i.size, i.bytes)) = some (some (.int .i64 0), 1, 8) := by kernel_rfl
 have HI := Aside0.mk hinf
 clear hinf
 go_enter Tryd.func28, Tryd.ntmps28
 go_wp2_with ((with_reducible refine gate_dst (N := 5) rfl ?_); refine Kd.R_lit (Kd.int .i64) _ 3 ?hg (N := 5) ?hd (xs := ([] : List Int)) (inner := []) (ok := fun _ => True) (okp := fun _ => True) ?hr (Reps.none _ _) (fun _ hk => hk) trivial (Below.refl _ _) (Nat.le_refl _) (by simp) ?_; (case hd => rfl); (case hg => rfl); (case hr => first | (go_simp; done) | (go_simp; rfl)); intro v2 w2 ho2 hb2 _ _; have HO := Aside0.mk ho2; have HB := Aside0.mk hb2; clear ho2 hb2)
 go_loopg [3, 4] 8 (fun kq v3 v4 w' => ∃ (i : Int), v4 = .int .i64 i ∧ Aside0 (kq = (9 - i).toNat ∧ 1 ≤ i ∧ i ≤ 9) ∧ Aside0 (Kd.R (Kd.int .i64) 3 w' w.heap.size (fun _ => True) v3 (mUp m (i - 1).toNat)) ∧ Aside0 (Below w.heap.size w w'))
 case atStart => exact ⟨1, rfl, ⟨by decide⟩, ⟨HO.out⟩, ⟨HB.out⟩⟩
 case round =>
  clear HO HB
  obtain ⟨i, rfl, HX, HO, HB⟩ := hrel
  obtain ⟨hk, h1, h9⟩ := HX.out
  by_cases h : i ≤ 8
  ·
   have d1 : decide (i ≤ 8) = true := decide_eq_true h
   have NX : Aside0 ((9 - (i + 1)).toNat < gk ∧ 1 ≤ i + 1 ∧ i + 1 ≤ 9) := ⟨by omega, by omega, by omega⟩
   have hu : mUp m (i + 1 - 1).toNat = if mIn m i = true then mUp m (i - 1).toNat ++ [i] else mUp m (i - 1).toNat := by
    have e1 : (i + 1 - 1).toNat = (i - 1).toNat + 1 := by omega
    have e2 : (((i - 1).toNat : Nat) : Int) + 1 = i := by omega
    rw [e1]
    simp only [mUp]
    rw [e2]
   have hl := mUp_len m (i - 1).toNat
   obtain ⟨J, hJ⟩ : ∃ J, J = mUp m (i - 1).toNat := ⟨_, rfl⟩
   rw [← hJ] at hu hl HO
   have hl2 : J.length ≤ 8 := by omega
   clear hJ hl hk
   cases hin : mIn m i
   ·
    rw [hin] at hu
    have HU := Aside0.mk hu
    clear hu
    go_wp2_with (go_at_call 15; refine (impl_ModeIn_calls m i _ _ wr (HT.out.below HB.out) (Kd.C_below HR0.out HB.out) HC0.out hm).mono ?_; rw [hin]; rintro e w3 ⟨rfl, hb3⟩)
    go_roundg ((9 - (i + 1)).toNat)
    case measure => exact NX.out.1
    case rel => exact ⟨i + 1, rfl, ⟨rfl, NX.out.2⟩, ⟨by rw [HU.out]; exact Kd.R_below HO.out hb3⟩, ⟨below_step HB.out hb3⟩⟩
   ·
    rw [hin] at hu
    have HU := Aside0.mk hu
    clear hu
    go_wp2_with (first
     | (go_at_call 15; refine (impl_ModeIn_calls m i _ _ wr (HT.out.below HB.out) (Kd.C_below HR0.out HB.out) HC0.out hm).mono ?_; rw [hin]; rintro e w3 ⟨rfl, hb3⟩; have HO3 := Aside0.mk (Kd.R_below HO.out hb3); have HB3 := Aside0.mk (below_step HB.out hb3))
     | ((with_reducible refine gate_builtin (b := .append) (xs := #[.tmp 13, .tmp 15]) rfl ?_); at_builtin; refine Kd.R_append (Kd.int .i64) (w0 := w) w.heap.size rfl (.tmp 13) (.tmp 15) 42 3 (.int .i64 0) 8 rfl Tryd.underlying42 HI.out rfl (by decide) (by omega) _ J i [.int .i64 i] (fun _ => True) (fun _ => False) rfl rfl ?aP (fun _ hk => hk.elim) (fun _ _ => trivial) HO3.out HB3.out HB3.out.size (by omega) ?_; (case aP => exact rfl); intro v4 w4 ho4 hb4 hg4 hat4))
    go_roundg ((9 - (i + 1)).toNat)
    case measure => exact NX.out.1
    case rel => exact ⟨i + 1, rfl, ⟨rfl, NX.out.2⟩, ⟨by rw [HU.out]; exact ho4⟩, ⟨hb4⟩⟩
  ·
   have d1 : decide (i ≤ 8) = false := decide_eq_false h
   obtain rfl : i = 9 := by omega
   go_wp2
   go_ret
   exact ⟨_, rfl, HO.out, HB.out⟩

end Go.Proofs.YthhnaplmjpacnaaDoor.Pure
namespace Go.Proofs.YthhnaplmjpacnaaDoor.Pure
set_option linter.unusedVariables false
set_option linter.unusedSimpArgs false
open Go Go.RowKit Go.Proofs.YthhnaplmjpacnaaDoor.PFnExactModeMoves Go.Proofs.YthhnaplmjpacnaaDoorW.PrintWords Go.Proofs.YthhnaplmjpacnaaDoorW.PrintLast Go.Proofs.YthhnaplmjpacnaaDoorW.PrintMore

def DTab (w : World) : Prop := HTab w ∧ MTab w
theorem DTab.below {w w' : World} (h : DTab w) (hb : Below w.heap.size w w') : DTab w' := ⟨h.1.below hb, h.2.below hb⟩
def mmGood (m : List S29) (k : Int) : Bool := (mmove m k).2 && decide (0 < (mUp (mmove m k).1 8).length)
def mmRest (m : List S29) : Nat → List Int
 | 0 => []
 | n + 1 => if mmGood m (20 - (n : Int)) = true then (20 - (n : Int)) :: mmRest m n else mmRest m n
theorem mmRest_len (m : List S29) : ∀ n, (mmRest m n).length ≤ n
 | 0 => Nat.le_refl _
 | n + 1 => by
  have := mmRest_len m n
  simp only [mmRest]
  split
  ·
   rw [List.length_cons]; omega
  ·
   omega
theorem mmRest_yes {m : List S29} {k : Int} (hk : k ≤ 20) (h : mmGood m k = true) : mmRest m (21 - k).toNat = k :: mmRest m (21 - (k + 1)).toNat := by
 obtain ⟨n, hn⟩ : ∃ n : Nat, (20 - k) = (n : Int) := ⟨(20 - k).toNat, by omega⟩
 rw [show (21 - k).toNat = n + 1 by omega, show (21 - (k + 1)).toNat = n by omega]
 simp only [mmRest]
 rw [show (20 - (n : Int)) = k by omega, if_pos h]
theorem mmRest_no {m : List S29} {k : Int} (hk : k ≤ 20) (h : mmGood m k = false) : mmRest m (21 - k).toNat = mmRest m (21 - (k + 1)).toNat := by
 obtain ⟨n, hn⟩ : ∃ n : Nat, (20 - k) = (n : Int) := ⟨(20 - k).toNat, by omega⟩
 rw [show (21 - k).toNat = n + 1 by omega, show (21 - (k + 1)).toNat = n by omega]
 simp only [mmRest]
 rw [show (20 - (n : Int)) = k by omega, if_neg (by rw [h]; decide)]
set_option maxHeartbeats 8000000 in
set_option maxRecDepth 100000 in
theorem impl_ModeMoves_calls (m : List S29) (A0 : Option Addr) (c0 : Nat) (w : World) (ht : DTab w) (hr0 : Kd.C k29 w A0 m.length m) (hc0 : m.length ≤ c0) (hm : m.length ≤ 1000000000000) :
 Calls Tryd.prog 40 #[.slice A0 m.length c0] w fun e w' => ∃ v, e = .returned v ∧ Kd.R (Kd.int .i64) 3 w' w.heap.size (fun _ => True) v (mmRest m 41) ∧ Below w.heap.size w w' := by
 have HI := Aside0.mk info3
 have HT := Aside0.mk ht
 have HR0 := Aside0.mk hr0
 have HC0 := Aside0.mk hc0
 clear hr0 hc0 ht
 obtain ⟨R, hR⟩ : ∃ R, R = mmRest m 41 := ⟨_, rfl⟩
 rw [← hR]
 have HRR := Aside0.mk hR.symm
 clear hR
 go_enter Tryd.func40, Tryd.ntmps40
 go_wp2_with ((with_reducible refine gate_dst (N := 7) rfl ?_); refine Kd.R_lit (Kd.int .i64) _ 3 ?hg (N := 7) ?hd (xs := ([] : List Int)) (inner := []) (ok := fun _ => True) (okp := fun _ => True) ?hr (Reps.none _ _) (fun _ hk => hk) trivial (Below.refl _ _) (Nat.le_refl _) (by simp) ?_; (case hd => rfl); (case hg => rfl); (case hr => first | (go_simp; done) | (go_simp; rfl)); intro v1 w1 ho1 hb1 _ _; have HO1 := Aside0.mk ho1; have HB1 := Aside0.mk hb1; clear ho1 hb1)
 go_loopg [3, 4] 41 (fun kq v3 v4 w' => ∃ (X : List Int) (k : Int), v4 = .int .i64 k ∧ Aside0 (kq = (21 - k).toNat ∧ -20 ≤ k ∧ k ≤ 21 ∧ X ++ mmRest m (21 - k).toNat = R ∧ X.length ≤ (k + 20).toNat) ∧ Aside0 (Kd.R (Kd.int .i64) 3 w' w.heap.size (fun _ => True) v3 X) ∧ Aside0 (Below w.heap.size w w'))
 case atStart => exact ⟨[], -20, rfl, ⟨rfl, by decide, by decide, HRR.out, Nat.le_refl _⟩, HO1, HB1⟩
 case round =>
  clear HO1 HB1
  obtain ⟨X, k, rfl, HX, HO, HB⟩ := hrel
  obtain ⟨hk, k0, k1, hXR, hXl⟩ := HX.out
  by_cases h2 : k ≤ 20
  ·
   have d1 : decide (k ≤ 20) = true := decide_eq_true h2
   have HW := Aside0.mk (w64 (x := k + 1) (by omega) (by omega))
   have NX : Aside0 ((21 - (k + 1)).toNat < gk ∧ -20 ≤ k + 1 ∧ k + 1 ≤ 21 ∧ X.length ≤ (k + 20).toNat ∧ X.length ≤ (k + 1 + 20).toNat) := ⟨by omega, by omega, by omega, by omega, by omega⟩
   have HK2 := Aside0.mk h2
   have bx : X.length ≤ 41 := by omega
   obtain ⟨⟨M, ok⟩, hM⟩ : ∃ R, R = mmove m k := ⟨_, rfl⟩
   have HM := Aside0.mk hM.symm
   have hML : M.length ≤ 24 := by have := mmove_len m k; rw [← hM] at this; exact this
   clear hM hk k0 k1 hXl hXR
   cases ok
   ·
    have hg : mmGood m k = false := by unfold mmGood; rw [HM.out]; rfl
    have HG := Aside0.mk (mmRest_no h2 hg)
    clear h2 hg
    go_wp2_with (go_at_call 21; refine (impl_MelodyMove_calls m k _ _ wr (HT.out.1.below HB.out) (Kd.C_below HR0.out HB.out) HC0.out hm).mono ?_; rintro e w2 ⟨v2, rfl, ho2, hb2⟩; rw [HM.out] at ho2; rw [HM.out]; obtain ⟨A2, c2, rfl⟩ := Kd.R_slice ho2; have HO2 := Aside0.mk (Kd.R_below HO.out hb2); have HB2 := Aside0.mk (below_step HB.out hb2); clear ho2 hb2)
    go_roundg (21 - (k + 1)).toNat
    case measure => exact NX.out.1
    case rel => exact ⟨X, k + 1, by rw [HW.out], ⟨rfl, NX.out.2.1, NX.out.2.2.1, by rw [← HG.out]; exact HX.out.2.2.2.1, NX.out.2.2.2.2⟩, HO2, HB2⟩
   ·
    by_cases h0 : 0 < (mUp M 8).length
    ·
     have d2 : decide (0 < ((mUp M 8).length : Int)) = true := decide_eq_true (by omega)
     have d3 : decide (0 < (mUp M 8).length) = true := decide_eq_true h0
     have hg : mmGood m k = true := by unfold mmGood; rw [HM.out, d3]; rfl
     have HG := Aside0.mk (mmRest_yes h2 hg)
     clear h2 hg h0
     go_wp2_with (first
      | (go_at_call 21; refine (impl_MelodyMove_calls m k _ _ wr (HT.out.1.below HB.out) (Kd.C_below HR0.out HB.out) HC0.out hm).mono ?_; rintro e w2 ⟨v2, rfl, ho2, hb2⟩; rw [HM.out] at ho2; rw [HM.out]; obtain ⟨A2, c2, rfl⟩ := Kd.R_slice ho2; have HO2 := Aside0.mk (Kd.R_below HO.out hb2); have HB2 := Aside0.mk (below_step HB.out hb2); have HS2 := Aside0.mk (Kd.R_reads' ho2).2; clear ho2 hb2)
      | (go_at_call 28; refine (impl_ModeAll_calls M _ _ w2 (HT.out.2.below HB2.out) HS2.out.2 HS2.out.1 (by omega)).mono ?_; rintro e w3 ⟨v3, rfl, ho3, hb3⟩; obtain ⟨A3, c3, rfl⟩ := Kd.R_slice ho3; have HO3 := Aside0.mk (Kd.R_below HO2.out hb3); have HB3 := Aside0.mk (below_step HB2.out hb3); clear ho3 hb3)
      | ((with_reducible refine gate_builtin (b := .append) (xs := #[.tmp 25, .tmp 27]) rfl ?_); at_builtin; go_loud (refine Kd.R_append (Kd.int .i64) (w0 := w) w.heap.size rfl (.tmp 25) (.tmp 27) 42 3 (.int .i64 0) 8 rfl Tryd.underlying42 HI.out rfl (by decide) (by omega) _ X k [.int .i64 k] (fun _ => True) (fun _ => False) rfl rfl ?aP (fun _ hk => hk.elim) (fun _ _ => trivial) HO3.out HB3.out HB3.out.size (by omega) ?_); (case aP => exact rfl); intro v9 w9 ho9 hb9 hg9 hat9; have HO9 := Aside0.mk ho9; have HB9 := Aside0.mk hb9; clear ho9 hb9 hg9 hat9))
     go_roundg (21 - (k + 1)).toNat
     case measure => exact NX.out.1
     case rel => exact ⟨X ++ [k], k + 1, by rw [HW.out], ⟨rfl, NX.out.2.1, NX.out.2.2.1, by rw [List.append_assoc, List.singleton_append, ← HG.out]; exact HX.out.2.2.2.1, by have h1 := NX.out.2.2.2.1; have h2 := HX.out.2.1; rw [List.length_append, List.length_singleton]; omega⟩, HO9, HB9⟩
    ·
     have d2 : decide (0 < ((mUp M 8).length : Int)) = false := decide_eq_false (by omega)
     have d3 : decide (0 < (mUp M 8).length) = false := decide_eq_false h0
     have hg : mmGood m k = false := by unfold mmGood; rw [HM.out, d3]; rfl
     have HG := Aside0.mk (mmRest_no h2 hg)
     clear h2 hg h0
     go_wp2_with (first
      | (go_at_call 21; refine (impl_MelodyMove_calls m k _ _ wr (HT.out.1.below HB.out) (Kd.C_below HR0.out HB.out) HC0.out hm).mono ?_; rintro e w2 ⟨v2, rfl, ho2, hb2⟩; rw [HM.out] at ho2; rw [HM.out]; obtain ⟨A2, c2, rfl⟩ := Kd.R_slice ho2; have HO2 := Aside0.mk (Kd.R_below HO.out hb2); have HB2 := Aside0.mk (below_step HB.out hb2); have HS2 := Aside0.mk (Kd.R_reads' ho2).2; clear ho2 hb2)
      | (go_at_call 28; refine (impl_ModeAll_calls M _ _ w2 (HT.out.2.below HB2.out) HS2.out.2 HS2.out.1 (by omega)).mono ?_; rintro e w3 ⟨v3, rfl, ho3, hb3⟩; obtain ⟨A3, c3, rfl⟩ := Kd.R_slice ho3; have HO3 := Aside0.mk (Kd.R_below HO2.out hb3); have HB3 := Aside0.mk (below_step HB2.out hb3); clear ho3 hb3))
     go_roundg (21 - (k + 1)).toNat
     case measure => exact NX.out.1
     case rel => exact ⟨X, k + 1, by rw [HW.out], ⟨rfl, NX.out.2.1, NX.out.2.2.1, by rw [← HG.out]; exact HX.out.2.2.2.1, NX.out.2.2.2.2⟩, HO3, HB3⟩
  ·
   have d1 : decide (k ≤ 20) = false := decide_eq_false h2
   obtain rfl : k = 21 := by omega
   have hX : X = R := by simpa [mmRest] using hXR
   subst hX
   obtain ⟨A5, c5, e5⟩ := Kd.R_slice HO.out
   subst e5
   go_wp2
   go_ret
   exact ⟨_, rfl, HO.out, HB.out⟩

theorem spec_ModeMoves_ev (m : List S29) (hm : m.length ≤ 1000000000000) : Ev (fun n => spec_ModeMoves.f n m) (mmRest m 41) := by
 have go : ∀ (n : Nat) (X : List Int), n ≤ 41 → X.length + n ≤ 41 → Ev (fun t => spec_ModeMoves.l0 t m X (21 - (n : Int))) (X ++ mmRest m n) := by
  intro n
  induction n with
  | zero =>
   intro X _ _
   refine Ev.succ ?_
   simp only [spec_ModeMoves.l0]
   exact Ev.neg (by omega) (Ev.eqr (Ev.now _) (by simp [mmRest]))
  | succ n ih =>
   intro X h1 h2
   obtain ⟨k, hk⟩ : ∃ k : Int, k = 20 - (n : Int) := ⟨_, rfl⟩
   rw [show (21 - ((n + 1 : Nat) : Int)) = k by omega]
   have e : k + 1 = 21 - (n : Int) := by omega
   simp only [mmRest]
   rw [← hk]
   have hml := mmove_len m k
   have no : Ev (fun t => spec_ModeMoves.l0 t m X (wrap64 (k + 1))) (X ++ mmRest m n) := by
    rw [w64 (x := k + 1) (by omega) (by omega), e]
    exact ih X (by omega) (by omega)
   refine Ev.succ ?_
   simp only [spec_ModeMoves.l0]
   refine Ev.pos (by omega) (Ev.bind (spec_MelodyMove_ev m k hm) ?_)
   cases ho : (mmove m k).2
   ·
    refine Ev.neg (by simp) ?_
    rw [if_neg (by unfold mmGood; rw [ho]; simp)]
    exact no
   ·
    refine Ev.pos rfl (Ev.bind (spec_ModeAll_ev _ (by omega)) ?_)
    by_cases h0 : 0 < (mUp (mmove m k).1 8).length
    ·
     refine Ev.pos (by omega) (Ev.pos (by omega) ?_)
     rw [if_pos (by unfold mmGood; rw [ho, decide_eq_true h0]; rfl), w64 (x := k + 1) (by omega) (by omega), e]
     refine Ev.eqr (ih (X ++ [k]) (by omega) (by rw [List.length_append, List.length_singleton]; omega)) (by simp)
    ·
     refine Ev.neg (by omega) ?_
     rw [if_neg (by unfold mmGood; rw [ho, decide_eq_false h0]; simp)]
     exact no
 have := go 41 [] (Nat.le_refl _) (by simp)
 show Ev (fun t => spec_ModeMoves.l0 t m [] (-20)) (mmRest m 41)
 simpa using this
theorem spec_ModeMoves_x (m : List S29) (A0 : Option Addr) (c0 : Nat) (w : World) (hr0 : Kd.C k29 w A0 m.length m) (hc0 : m.length ≤ c0) (hm : m.length ≤ 1000000000000) :
 Calls Tryd.prog 41 #[.slice A0 m.length c0] w fun e w' => ∃ v, e = .returned v ∧ Kd.R (Kd.int .i64) 3 w' w.heap.size (fun _ => True) v (mmRest m 41) ∧ Below w.heap.size w w' := by
 obtain ⟨kk, h⟩ := Ev.rounds (spec_ModeMoves_ev m hm)
 exact spec_ModeMoves.calls kk _ _ m _ w hr0 hc0 h

end Go.Proofs.YthhnaplmjpacnaaDoor.Pure
namespace Go.Proofs.YthhnaplmjpacnaaDoor.PFnExactModeMoves
open Go.RowKit Go.Proofs.YthhnaplmjpacnaaDoorW.PrintWords Go.Proofs.YthhnaplmjpacnaaDoorW.PrintLast Go.Proofs.YthhnaplmjpacnaaDoorW.PrintMore
attribute [local go_sem] max2_int min2_int max_two min_two max_three min_three max_four min_four   -- for this text's walks alone
set_option linter.unusedVariables false
set_option linter.unusedSimpArgs false

def laws_szToneS.f (l0 : List (S47)) (a1 : Int) : Option (Int) := if (wrap64 (a1 - (l0.length : Int))) < 0 then (some (-1)) else (some (wrap64 (a1 - (l0.length : Int))))
set_option maxHeartbeats 8000000 in
set_option maxRecDepth 100000 in
theorem laws_szToneS.calls (A0 : Option Addr) (c0 : Nat) (l0 : List (S47)) (a1 : Int) (r : Int) (w : World) (hr0 : Kd.C k47 w A0 l0.length l0) (hc0 : l0.length ≤ c0) (h : laws_szToneS.f l0 a1 = some r) :
 Calls Tryd.prog 18 #[.slice A0 l0.length c0, .int .i64 a1] w fun e w' => e = .returned (.int .i64 r) ∧ Drawn0 w w' := by
 have HR0 := Aside0.mk hr0; have HC0 := Aside0.mk hc0; clear hr0 hc0; have H : (if (wrap64 (a1 - (l0.length : Int))) < 0 then (some (-1)) else (some (wrap64 (a1 - (l0.length : Int))))) = some r := h; clear h; by_cases c3 : (wrap64 (a1 - (l0.length : Int))) < 0
 ·
  rw [if_pos c3] at H; have c3b0 : decide ((wrap64 (a1 - (l0.length : Int))) < 0) = true := decide_eq_true c3; clear c3; obtain rfl := Option.some.inj H; go_enter Tryd.func18, Tryd.ntmps18
  go_wp2; go_ret
  exact ⟨by first | rfl | (simp; done) | (simp [*]; done), by repeat (first | exact Drawn0.refl _ | apply Drawn0.step)⟩
 ·
  rw [if_neg c3] at H; have c3b0 : decide ((wrap64 (a1 - (l0.length : Int))) < 0) = false := decide_eq_false c3; clear c3; obtain rfl := Option.some.inj H; go_enter Tryd.func18, Tryd.ntmps18
  go_wp2; go_ret
  exact ⟨by first | rfl | (simp; done) | (simp [*]; done), by repeat (first | exact Drawn0.refl _ | apply Drawn0.step)⟩

end Go.Proofs.YthhnaplmjpacnaaDoor.PFnExactModeMoves
namespace Go.Proofs.YthhnaplmjpacnaaDoor.PFnExactModeMoves
open Go.RowKit Go.Proofs.YthhnaplmjpacnaaDoorW.PrintWords Go.Proofs.YthhnaplmjpacnaaDoorW.PrintLast Go.Proofs.YthhnaplmjpacnaaDoorW.PrintMore
attribute [local go_sem] max2_int min2_int max_two min_two max_three min_three max_four min_four   -- for this text's walks alone
set_option linter.unusedVariables false
set_option linter.unusedSimpArgs false

def laws_toTone.f (a0_0 : Int) (a0_1 : Bool) : Option (Int × Bool) := some (a0_0, a0_1)
set_option maxHeartbeats 8000000 in
set_option maxRecDepth 100000 in
theorem laws_toTone.calls (a0_0 : Int) (a0_1 : Bool) (r1 : Int) (r2 : Bool) (w : World) (h : laws_toTone.f a0_0 a0_1 = some (r1, r2)) :
 Calls Tryd.prog 37 #[.agg #[.int .i64 a0_0, .bool a0_1]] w fun e w' => e = .returned (.agg #[.int .i64 r1, .bool r2]) ∧ Below w.heap.size w w' := by
 have hu47 := Tryd.underlying47; have hu29 := Tryd.underlying29; have HB := Aside0.mk (Below.refl w.heap.size w); have H : (some (a0_0, a0_1)) = some (r1, r2) := h; clear h; simp only [Option.some.injEq, Prod.mk.injEq] at H; obtain ⟨rfl, rfl⟩ := H; go_enter Tryd.func37, Tryd.ntmps37
 go_wp2_with (first | ((with_reducible refine gate_dst (N := 1) rfl ?_); refine box_event ?hg (N := 1) ?hd (cs := #[.int .i64 a0_0, .bool a0_1]) (t := 47) ?hr ?_; (case hd => rfl); (case hg => rfl); (case hr => first | (go_simp; done) | (go_simp; rfl)); intro gb101 hg w2 hbox hb; have n0_ := Aside0.mk (below_step (by repeat (first | (with_reducible first | exact HB.out | apply below_alloc | apply pw_below_drewN | apply below_drew1) | exact HB.out)) hb); have n1_ := Aside0.mk (hbox); have n2_ := Aside0.mk ((by rw [hg]; exact (below_size (by repeat (first | (with_reducible first | exact HB.out | apply below_alloc | apply pw_below_drewN | apply below_drew1) | exact HB.out))) : w.heap.size ≤ gb101)); have n3_ := Aside0.mk ((by rw [hg]; exact (below_size (by repeat (first | (with_reducible first | exact HB.out | apply below_alloc | apply pw_below_drewN | apply below_drew1) | exact HB.out))) : w.heap.size ≤ gb101)); clear HB; have HB := n0_; have BK101 := n1_; have GW101 := n2_; have GE101 := n3_; clear n0_ n1_ n2_ n3_; clear hb hbox hg) | ((with_reducible refine gate_dst (N := 2) rfl ?_); refine box_event ?hg (N := 2) ?hd (cs := #[.int .i64 0, .bool false]) (t := 29) ?hr ?_; (case hd => rfl); (case hg => rfl); (case hr => first | (go_simp; done) | (go_simp; rfl)); intro gb102 hg w3 hbox hb; have n0_ := Aside0.mk (blk_below (g := gb101) (o := .cells #[.int .i64 a0_0, .bool a0_1] 47 (0, 0)) (by (with_reducible repeat (first | refine blk_drewN ?_ _ | refine blk_drew ?_ | refine blk_alloc ?_ _)); exact BK101.out) hb); have n1_ := Aside0.mk (below_step (by repeat (first | (with_reducible first | exact HB.out | apply below_alloc | apply pw_below_drewN | apply below_drew1 | refine below_set ?_ GE101.out) | exact HB.out)) hb); have n2_ := Aside0.mk (hbox); have n3_ := Aside0.mk ((by rw [hg]; exact (below_size (by repeat (first | (with_reducible first | exact HB.out | apply below_alloc | apply pw_below_drewN | apply below_drew1 | refine below_set ?_ GE101.out) | exact HB.out))) : w.heap.size ≤ gb102)); have n4_ := Aside0.mk ((by rw [hg]; exact (below_size (by repeat (first | (with_reducible first | exact HB.out | apply below_alloc | apply pw_below_drewN | apply below_drew1 | refine below_set ?_ GE101.out) | exact HB.out))) : w.heap.size ≤ gb102)); have n5_ := Aside0.mk ((by rw [hg]; exact Nat.ne_of_lt (blk_lt (g := gb101) (o := .cells #[.int .i64 a0_0, .bool a0_1] 47 (0, 0)) (by (with_reducible repeat (first | refine blk_drewN ?_ _ | refine blk_drew ?_ | refine blk_alloc ?_ _)); exact BK101.out)) : gb101 ≠ gb102)); have n6_ := Aside0.mk ((by rw [hg]; exact Nat.ne_of_gt (blk_lt (g := gb101) (o := .cells #[.int .i64 a0_0, .bool a0_1] 47 (0, 0)) (by (with_reducible repeat (first | refine blk_drewN ?_ _ | refine blk_drew ?_ | refine blk_alloc ?_ _)); exact BK101.out)) : gb102 ≠ gb101)); clear BK101; clear HB; have BK101 := n0_; have HB := n1_; have BK102 := n2_; have GW102 := n3_; have GE102 := n4_; have NB101_102 := n5_; have NB102_101 := n6_; clear n0_ n1_ n2_ n3_ n4_ n5_ n6_; clear hb hbox hg) | ((with_reducible refine gate_dst (N := 3) rfl ?_); refine box_event ?hg (N := 3) ?hd (cs := #[.int .i64 0, .bool false]) (t := 29) ?hr ?_; (case hd => rfl); (case hg => rfl); (case hr => first | (go_simp; done) | (go_simp; rfl)); intro gb103 hg w4 hbox hb; have n0_ := Aside0.mk (blk_below (g := gb101) (o := .cells #[.int .i64 a0_0, .bool a0_1] 47 (0, 0)) (by (with_reducible repeat (first | refine blk_drewN ?_ _ | refine blk_drew ?_ | refine blk_alloc ?_ _)); exact BK101.out) hb); have n1_ := Aside0.mk (blk_below (g := gb102) (o := .cells #[.int .i64 0, .bool false] 29 (0, 0)) (by (with_reducible repeat (first | refine blk_drewN ?_ _ | refine blk_drew ?_ | refine blk_alloc ?_ _)); exact BK102.out) hb); have n2_ := Aside0.mk (below_step (by repeat (first | (with_reducible first | exact HB.out | apply below_alloc | apply pw_below_drewN | apply below_drew1 | refine below_set ?_ GE101.out | refine below_set ?_ GE102.out) | exact HB.out)) hb); have n3_ := Aside0.mk (hbox); have n4_ := Aside0.mk ((by rw [hg]; exact (below_size (by repeat (first | (with_reducible first | exact HB.out | apply below_alloc | apply pw_below_drewN | apply below_drew1 | refine below_set ?_ GE101.out | refine below_set ?_ GE102.out) | exact HB.out))) : w.heap.size ≤ gb103)); have n5_ := Aside0.mk ((by rw [hg]; exact (below_size (by repeat (first | (with_reducible first | exact HB.out | apply below_alloc | apply pw_below_drewN | apply below_drew1 | refine below_set ?_ GE101.out | refine below_set ?_ GE102.out) | exact HB.out))) : w.heap.size ≤ gb103)); have n6_ := Aside0.mk ((by rw [hg]; exact Nat.ne_of_lt (blk_lt (g := gb101) (o := .cells #[.int .i64 a0_0, .bool a0_1] 47 (0, 0)) (by (with_reducible repeat (first | refine blk_drewN ?_ _ | refine blk_drew ?_ | refine blk_alloc ?_ _)); exact BK101.out)) : gb101 ≠ gb103)); have n7_ := Aside0.mk ((by rw [hg]; exact Nat.ne_of_gt (blk_lt (g := gb101) (o := .cells #[.int .i64 a0_0, .bool a0_1] 47 (0, 0)) (by (with_reducible repeat (first | refine blk_drewN ?_ _ | refine blk_drew ?_ | refine blk_alloc ?_ _)); exact BK101.out)) : gb103 ≠ gb101)); have n8_ := Aside0.mk ((by rw [hg]; exact Nat.ne_of_lt (blk_lt (g := gb102) (o := .cells #[.int .i64 0, .bool false] 29 (0, 0)) (by (with_reducible repeat (first | refine blk_drewN ?_ _ | refine blk_drew ?_ | refine blk_alloc ?_ _)); exact BK102.out)) : gb102 ≠ gb103)); have n9_ := Aside0.mk ((by rw [hg]; exact Nat.ne_of_gt (blk_lt (g := gb102) (o := .cells #[.int .i64 0, .bool false] 29 (0, 0)) (by (with_reducible repeat (first | refine blk_drewN ?_ _ | refine blk_drew ?_ | refine blk_alloc ?_ _)); exact BK102.out)) : gb103 ≠ gb102)); clear BK101; clear BK102; clear HB; have BK101 := n0_; have BK102 := n1_; have HB := n2_; have BK103 := n3_; have GW103 := n4_; have GE103 := n5_; have NB101_103 := n6_; have NB103_101 := n7_; have NB102_103 := n8_; have NB103_102 := n9_; clear n0_ n1_ n2_ n3_ n4_ n5_ n6_ n7_ n8_ n9_; clear hb hbox hg; have hnb5 := NB101_102.out; have hnc5 := NB102_101.out; have hnb6 := NB101_103.out; have hnc6 := NB103_101.out; have hcz7_0 : w4.cell? ⟨gb101, 0, none⟩ = some (.int .i64 a0_0) := (blk_cell BK101.out 0).trans rfl; have hcz7_1 : w4.cell? ⟨gb101, 1, none⟩ = some (.bool a0_1) := (blk_cell BK101.out 1).trans rfl; have hfz7_0 := blk_frozen BK101.out 0; have hfz7_1 := blk_frozen BK101.out 1; have hnb8 := NB103_102.out; have hnc8 := NB102_103.out; have hcz9_0 : w4.cell? ⟨gb103, 0, none⟩ = some (.int .i64 0) := (blk_cell BK103.out 0).trans rfl; have hcz9_1 : w4.cell? ⟨gb103, 1, none⟩ = some (.bool false) := (blk_cell BK103.out 1).trans rfl; have hfz9_0 := blk_frozen BK103.out 0; have hfz9_1 := blk_frozen BK103.out 1; have hcz10_0 : w4.cell? ⟨gb102, 0, none⟩ = some (.int .i64 0) := (blk_cell BK102.out 0).trans rfl; have hcz10_1 : w4.cell? ⟨gb102, 1, none⟩ = some (.bool false) := (blk_cell BK102.out 1).trans rfl; have hfz10_0 := blk_frozen BK102.out 0; have hfz10_1 := blk_frozen BK102.out 1))
 refine bodyPost_ret (results_cell_row rfl _ _ gb102 29 #[.int .i64 a0_0, .bool a0_1] (0, 0) _ rfl (by (with_reducible repeat (first | refine blk_drewN ?_ _ | refine blk_drew ?_ | refine blk_alloc ?_ _)); refine blk_put (cs := #[.int .i64 a0_0, .bool false]) ?_ 1 _ rfl; (with_reducible repeat (first | refine blk_drewN ?_ _ | refine blk_drew ?_ | refine blk_alloc ?_ _)); refine blk_put (cs := #[.int .i64 0, .bool false]) ?_ 0 _ rfl; (with_reducible repeat (first | refine blk_drewN ?_ _ | refine blk_drew ?_ | refine blk_alloc ?_ _)); refine blk_far ?_ NB102_103.out _; (with_reducible repeat (first | refine blk_drewN ?_ _ | refine blk_drew ?_ | refine blk_alloc ?_ _)); refine blk_far ?_ NB102_103.out _; (with_reducible repeat (first | refine blk_drewN ?_ _ | refine blk_drew ?_ | refine blk_alloc ?_ _)); exact BK102.out) Tryd.underlying29 rfl (by kernel_rfl)) rfl ?_; exact ⟨by first | rfl | (simp [errW_none, errW_some] <;> rfl) | (simp [*, errW_none, errW_some] <;> rfl), by repeat (first | (with_reducible first | exact HB.out | apply below_alloc | apply pw_below_drewN | apply below_drew1 | refine below_set ?_ GE101.out | refine below_set ?_ GE102.out | refine below_set ?_ GE103.out) | exact HB.out)⟩

end Go.Proofs.YthhnaplmjpacnaaDoor.PFnExactModeMoves
namespace Go.Proofs.YthhnaplmjpacnaaDoor.PFnExactModeMoves
open Go.RowKit Go.Proofs.YthhnaplmjpacnaaDoorW.PrintWords Go.Proofs.YthhnaplmjpacnaaDoorW.PrintLast Go.Proofs.YthhnaplmjpacnaaDoorW.PrintMore
attribute [local go_sem] max2_int min2_int max_two min_two max_three min_three max_four min_four   -- for this text's walks alone
set_option linter.unusedVariables false
set_option linter.unusedSimpArgs false

def laws_toToneS.l0 : Nat → List (S47) → List (S29) → Int → Option ((List (S29)))
 | 0, _, _, _ => none
 | k + 1, x0, x3, x4 => if x4 < (x0.length : Int) then (if 0 ≤ x4 then ((laws_toTone.f ((rd_T47 x0 x4).f0) ((rd_T47 x0 x4).f1)).bind fun bt108 => (if x4 < (x3.length : Int) then (laws_toToneS.l0 k x0 (x3.set (x4 : Int).toNat (⟨bt108.1, bt108.2⟩ : S29)) (wrap64 (x4 + 1))) else (none))) else (none)) else (some x3)
def laws_toToneS.f (k : Nat) (l0 : List (S47)) : Option ((List (S29))) := if 0 ≤ (l0.length : Int) then (if ((l0.length : Int) : Int).toNat ≤ 17592186044416 then (laws_toToneS.l0 k l0 (List.replicate ((l0.length : Int) : Int).toNat z29) 0) else (none)) else (none)
set_option maxHeartbeats 8000000 in
set_option maxRecDepth 100000 in
theorem laws_toToneS.calls (k : Nat) (A0 : Option Addr) (c0 : Nat) (l0 : List (S47)) (r : List (S29)) (w : World) (hr0 : Kd.C k47 w A0 l0.length l0) (hc0 : l0.length ≤ c0) (h : laws_toToneS.f k l0 = some r) :
 Calls Tryd.prog 20 #[.slice A0 l0.length c0] w fun e w' => ∃ v0_ : Value, e = .returned (v0_) ∧ Kd.R k29 29 w' w.heap.size (fun _ => True) v0_ r ∧ Below w.heap.size w w' := by
 have hu47 := Tryd.underlying47; have hu29 := Tryd.underlying29; have HR0 := Aside0.mk hr0; have HC0 := Aside0.mk hc0; clear hr0 hc0; have HB := Aside0.mk (Below.refl w.heap.size w); have H : (if 0 ≤ (l0.length : Int) then (if ((l0.length : Int) : Int).toNat ≤ 17592186044416 then (laws_toToneS.l0 k l0 (List.replicate ((l0.length : Int) : Int).toNat z29) 0) else (none)) else (none)) = some r := h; clear h; by_cases c2 : 0 ≤ (l0.length : Int)
 ·
  rw [if_pos c2] at H; have c2b0 := eq_true c2; have c2b1 : decide (0 ≤ (l0.length : Int)) = true := decide_eq_true c2; clear c2; by_cases c3 : ((l0.length : Int) : Int).toNat ≤ 17592186044416
  ·
   rw [if_pos c3] at H; have c3b0 := eq_true c3; have c3b1 : decide (((l0.length : Int) : Int).toNat ≤ 17592186044416) = true := decide_eq_true c3; clear c3; obtain ⟨y104, hy104⟩ : ∃ y_ : List (S29), y_ = (List.replicate ((l0.length : Int) : Int).toNat z29) := ⟨_, rfl⟩
   replace H : (laws_toToneS.l0 k l0 y104 0) = some r := by first | (rw [hy104]; with_reducible exact H) | (have H2_ := (Option.bind_some _ _).symm.trans H; rw [hy104]; with_reducible exact H2_) | (have H2_ := (Option.bind_some _ _).symm.trans H; with_reducible exact H2_) | with_reducible exact H | (rw [hy104]; exact H) | exact H
   have Ny104 := Aside0.mk hy104; clear hy104; have H' := Aside0.mk H; clear H; go_enter Tryd.func20, Tryd.ntmps20
   go_wp2_with (first | ((with_reducible refine gate_dst (N := 7) rfl ?_); refine Kd.R_make k29 _ 29 rfl (N := 7) rfl 23 _ _ rfl (l0.length : Int) rfl rfl Tryd.underlying23 (.agg #[(.int .i64 0), (.bool false)]) 16 info29 rfl (by decide) (by omega) z29 (ok := fun _ => True) (okp := fun _ => True) (k29_mkM _ _ _ z29 ) (fun _ hk => hk) trivial (of_decide_eq_true (by first | (with_reducible assumption) | assumption)) (Nat.le_trans (Nat.mul_le_mul_right _ (of_decide_eq_true (by first | (with_reducible assumption) | assumption) : (l0.length : Int).toNat ≤ 17592186044416)) (by omega)) (Below.refl _ _) (Nat.le_refl _) ?_; intro v105 w4 ho5 hb hg_ hnew_; clear hg_ hnew_; (first | rw [← Ny104.out] at ho5 | (simp only [Int.reduceToNat] at ho5; rw [← Ny104.out] at ho5)); have n0_ := Aside0.mk (Kd.R_lower ho5 (below_size (by repeat (first | (with_reducible first | exact HB.out | apply below_alloc | apply pw_below_drewN | apply below_drew1) | exact HB.out)))); have n1_ := Aside0.mk (below_step (by repeat (first | (with_reducible first | exact HB.out | apply below_alloc | apply pw_below_drewN | apply below_drew1) | exact HB.out)) hb); clear HB; have HO106 := n0_; have HB := n1_; clear n0_ n1_; clear hb ho5))
   go_loopg [4] k (fun kq v4 w' => ∃ (x3_1 : List (S29)) (x4_1 : Int), v4 = .int .i64 x4_1 ∧ Aside0 (laws_toToneS.l0 kq l0 x3_1 x4_1 = some r) ∧ Aside0 (kq ≤ k) ∧ Aside0 (Kd.R k29 29 w' w.heap.size (fun _ => True) v105 x3_1) ∧ Aside0 (Below w.heap.size w w'))
   case atStart => exact ⟨(y104), (0), (by first | rfl | (simp; done) | (simp [*]; done)), H', ⟨Nat.le_refl _⟩, ⟨by (with_reducible repeat (first | apply Kd.R_alloc | apply Kd.R_drewN | apply Kd.R_drew)); exact HO106.out⟩, ⟨by repeat (first | (with_reducible first | exact HB.out | apply below_alloc | apply pw_below_drewN | apply below_drew1) | exact HB.out)⟩⟩
   case round =>
    clear H'; try clear c2
    try clear c2b0
    try clear c2b1
    try clear p2
    try clear c3
    try clear c3b0
    try clear c3b1
    obtain ⟨x3_1, x4_1, rfl, HA, HK1, HO_3, HB⟩ := hrel; cases gk with
    | zero => exact absurd HA.out (by simp [laws_toToneS.l0])
    | succ k1 =>
     have H := HA.out; clear HA; simp only [laws_toToneS.l0] at H; by_cases c6 : x4_1 < (l0.length : Int)
     ·
      rw [if_pos c6] at H; have c6b0 : decide (x4_1 < (l0.length : Int)) = true := decide_eq_true c6; clear c6; by_cases c7 : 0 ≤ x4_1
      ·
       rw [if_pos c7] at H; have c7b0 : decide (0 ≤ x4_1) = true := decide_eq_true c7; clear c7; replace H := Option.bind_eq_some_iff.mp H; obtain ⟨⟨t108, t109⟩, A80, H⟩ := H; replace H : (if x4_1 < (x3_1.length : Int) then (laws_toToneS.l0 k1 l0 (x3_1.set (x4_1 : Int).toNat (⟨t108, t109⟩ : S29)) (wrap64 (x4_1 + 1))) else (none)) = some r := H; have A8 := Aside0.mk A80; clear A80; by_cases c9 : x4_1 < (x3_1.length : Int)
       ·
        rw [if_pos c9] at H; have c9b0 : decide (x4_1 < (x3_1.length : Int)) = true := decide_eq_true c9; clear c9; obtain ⟨y110, hy110⟩ : ∃ y_ : List (S29), y_ = (x3_1.set (x4_1 : Int).toNat (⟨t108, t109⟩ : S29)) := ⟨_, rfl⟩
        replace H : (laws_toToneS.l0 k1 l0 y110 (wrap64 (x4_1 + 1))) = some r := by first | (rw [hy110]; with_reducible exact H) | (have H2_ := (Option.bind_some _ _).symm.trans H; rw [hy110]; with_reducible exact H2_) | (have H2_ := (Option.bind_some _ _).symm.trans H; with_reducible exact H2_) | with_reducible exact H | (rw [hy110]; exact H) | exact H
        have Ny110 := Aside0.mk hy110; clear hy110; have H' := Aside0.mk H; clear H; have p107 : 0 ≤ (x4_1 : Int) := of_decide_eq_true (by first | (with_reducible assumption) | assumption); have q107 : x4_1 < (l0.length : Int) := of_decide_eq_true (by first | (with_reducible assumption) | assumption); obtain ⟨ad107, e107, hx107_0, hx107_1⟩ := at_T47 HR0.out x4_1 p107 q107; cases e107; replace hx107_0 := (HB.out.cell (World.block_lt_of_cell? w _ hx107_0)).trans hx107_0; replace hx107_1 := (HB.out.cell (World.block_lt_of_cell? w _ hx107_1)).trans hx107_1; replace p107 := eq_true p107; replace q107 := eq_true q107; go_wp2_with (first | ((with_reducible refine gate_callee (f := 37) rfl ?_); refine goesL_ (some 20) rfl rfl Tryd.func37 (by kernel_rfl) rfl #[.agg #[.int .i64 ((rd_T47 l0 x4_1).f0), .bool ((rd_T47 l0 x4_1).f1)]] rfl (by (try simp only [List.map_toArray, List.map_cons, List.map_nil]); first | done | rfl | (simp only [List.length_drop, List.length_take]; rfl)) ?_; (with_reducible refine (laws_toTone.calls ((rd_T47 l0 x4_1).f0) ((rd_T47 l0 x4_1).f1) t108 t109 _ A8.out).mono ?_); rintro e w11 ⟨rfl, hb⟩; refine ⟨_, rfl, ?_⟩; have n0_ := Aside0.mk (Kd.R_below (by (with_reducible repeat (first | apply Kd.R_alloc | apply Kd.R_drewN | apply Kd.R_drew)); exact HO_3.out) hb); have n1_ := Aside0.mk (below_step (by repeat (first | (with_reducible first | exact HB.out | apply below_alloc | apply pw_below_drewN | apply below_drew1) | exact HB.out)) hb); clear HO_3; clear HB; have HO_3 := n0_; have HB := n1_; clear n0_ n1_; (try clear hb); (try clear hb2); (try clear hk); (try clear hi); have p10 : 0 ≤ (x4_1 : Int) := of_decide_eq_true (by first | (with_reducible assumption) | assumption); have q10 : (x4_1 : Int) < ((x3_1.length : Int) : Int) := of_decide_eq_true (by first | (with_reducible assumption) | assumption); obtain ⟨go10, co10, eo10, gb10, gl10, cl10, HG10⟩ := Kd.R_form HO_3.out (by omega); (first | cases eo10 | (injection eo10 with ea_ en_ ec_; (first | subst ea_ | (injection ea_ with ea_; subst ea_)); subst ec_; clear en_)); have GB10 := Aside0.mk gb10; have GG10 := Aside0.mk HG10; clear gb10 gl10 HG10; obtain ⟨ce10, hcl10, hM10, hcc10, hfr10⟩ := Kd.R_elem HO_3.out z29 (x4_1 : Int) p10 q10; obtain rfl := k29_openM hM10; have hx10_0 : w11.cell? ⟨go10, (x4_1 : Int).toNat * 2, none⟩ = some (.int .i64 ((rd_T29 x3_1 x4_1).f0)) := hcc10 0 _ rfl; have hx10_1 : w11.cell? ⟨go10, (x4_1 : Int).toNat * 2 + 1, none⟩ = some (.bool ((rd_T29 x3_1 x4_1).f1)) := hcc10 1 _ rfl; have hf10_0 : w11.frozen? ⟨go10, (x4_1 : Int).toNat * 2, none⟩ = false := hfr10 0; have hf10_1 : w11.frozen? ⟨go10, (x4_1 : Int).toNat * 2 + 1, none⟩ = false := hfr10 1; clear hcl10 hcc10 hfr10 hM10; replace p10 := eq_true p10; replace q10 := eq_true q10; have HX12 := Aside0.mk (show Kd.R k29 29 w11 w.heap.size (fun _ => True) (.slice (some ⟨go10, 0, none⟩) x3_1.length co10) x3_1 from (by (with_reducible repeat (first | apply Kd.R_alloc | apply Kd.R_drewN | apply Kd.R_drew)); exact HO_3.out)); obtain ⟨ce12, hcl12, hM12, hcc12, hfr12⟩ := Kd.R_elem HX12.out z29 (x4_1 : Int) (of_decide_eq_true (by first | (with_reducible assumption) | assumption)) (by have h_ : (x4_1 : Int) < ((x3_1.length : Int) : Int) := of_decide_eq_true (by first | (with_reducible assumption) | assumption); first | exact h_ | (have e_ := (Kd.R_reads' HO_3.out).1; omega) | simpa using h_); obtain rfl := k29_openM hM12; have HP12 := Kd.R_seg HX12.out (x4_1 : Int) (of_decide_eq_true (by first | (with_reducible assumption) | assumption)) (by have h_ : (x4_1 : Int) < ((x3_1.length : Int) : Int) := of_decide_eq_true (by first | (with_reducible assumption) | assumption); first | exact h_ | (have e_ := (Kd.R_reads' HO_3.out).1; omega) | simpa using h_) (seg := [.int .i64 t108, .bool t109]) (j := 0) hcl12 hcc12 (show 2 ≤ 2 from by decide) (x' := (⟨t108, t109⟩ : S29)) (k29_mkM _ _ _ (⟨t108, t109⟩ : S29) ) (fun _ hk => hk); have hx12_0 := hcc12 0 _ rfl; (try simp only [show (k29).sz = 2 from rfl, Nat.mul_one, Nat.add_zero] at hx12_0); have hf12_0 := hfr12 0; (try simp only [show (k29).sz = 2 from rfl, Nat.mul_one, Nat.add_zero] at hf12_0); have hx12_1 := hcc12 1 _ rfl; (try simp only [show (k29).sz = 2 from rfl, Nat.mul_one, Nat.add_zero] at hx12_1); have hf12_1 := hfr12 1; (try simp only [show (k29).sz = 2 from rfl, Nat.mul_one, Nat.add_zero] at hf12_1); clear hcl12 hcc12 hfr12 hM12) | ((with_reducible refine gate_store (t := 29) (p := 21) rfl ?_); refine store_event (t := 29) (p := 21) (v := ?vo_w13) (w1 := ((w11.setCell ⟨go10, (x4_1 : Int).toNat * 2, none⟩ (.int .i64 t108)).setCell ⟨go10, (x4_1 : Int).toNat * 2 + 1, none⟩ (.bool t109))) ?hg ?ho ?hn ?hr ?_; (case ho => rfl); (case hg => rfl); (case hn => rfl); (case hr => first | (go_simp; done) | (go_simp; rfl)); intro w13 hw; have hg : w11.grownBy w13 (some go10) := (by rw [hw]; exact HP12.2); have hp_ : Kd.R k29 29 w13 w.heap.size (fun _ => True) (.slice (some ⟨go10, 0, none⟩) x3_1.length co10) y110 := (by rw [hw, Ny110.out]; exact HP12.1); clear HP12; have n0_ := Aside0.mk (hp_); have n1_ := Aside0.mk ((by rw [hw]; exact below_set (below_set (HB.out) GB10.out) GB10.out : Below w.heap.size w w13)); clear HO_3; clear HB; have HO_3 := n0_; have HB := n1_; clear n0_ n1_; clear hg hw hp_))
        go_roundg k1
        case measure => have := HK1.out; omega
        case rel => exact ⟨(y110), (wrap64 (x4_1 + 1)), (by first | rfl | (simp; done) | (simp [*]; done)), H', ⟨by have := HK1.out; omega⟩, ⟨by (with_reducible repeat (first | apply Kd.R_alloc | apply Kd.R_drewN | apply Kd.R_drew)); exact HO_3.out⟩, ⟨by repeat (first | (with_reducible first | exact HB.out | apply below_alloc | apply pw_below_drewN | apply below_drew1) | exact HB.out)⟩⟩
       ·
        rw [if_neg c9] at H; exact absurd H (by simp)
      ·
       rw [if_neg c7] at H; exact absurd H (by simp)
     ·
      rw [if_neg c6] at H; have c6b0 : decide (x4_1 < (l0.length : Int)) = false := decide_eq_false c6; clear c6; obtain rfl := Option.some.inj H; go_wp2; go_ret
      exact ⟨_, by first | rfl | (simp [errW_none, errW_some] <;> rfl) | (simp [*, errW_none, errW_some] <;> rfl), by (with_reducible repeat (first | apply Kd.R_alloc | apply Kd.R_drewN | apply Kd.R_drew)); exact HO_3.out, by repeat (first | (with_reducible first | exact HB.out | apply below_alloc | apply pw_below_drewN | apply below_drew1) | exact HB.out)⟩
  ·
   rw [if_neg c3] at H; exact absurd H (by simp)
 ·
  rw [if_neg c2] at H; exact absurd H (by simp)

end Go.Proofs.YthhnaplmjpacnaaDoor.PFnExactModeMoves
namespace Go.Proofs.YthhnaplmjpacnaaDoor.PFnExactModeMoves
open Go.RowKit Go.Proofs.YthhnaplmjpacnaaDoorW.PrintWords Go.Proofs.YthhnaplmjpacnaaDoorW.PrintLast Go.Proofs.YthhnaplmjpacnaaDoorW.PrintMore
attribute [local go_sem] max2_int min2_int max_two min_two max_three min_three max_four min_four   -- for this text's walks alone
set_option linter.unusedVariables false
set_option linter.unusedSimpArgs false

def laws_eqTone.f (a0_0 : Int) (a0_1 : Bool) (a1_0 : Int) (a1_1 : Bool) : Option (Bool) := if a0_0 = a1_0 then (if (a0_1 != a1_1) = true then (some false) else (some true)) else (some false)
set_option maxHeartbeats 8000000 in
set_option maxRecDepth 100000 in
theorem laws_eqTone.calls (a0_0 : Int) (a0_1 : Bool) (a1_0 : Int) (a1_1 : Bool) (r : Bool) (w : World) (h : laws_eqTone.f a0_0 a0_1 a1_0 a1_1 = some r) :
 Calls Tryd.prog 74 #[.agg #[.int .i64 a0_0, .bool a0_1], .agg #[.int .i64 a1_0, .bool a1_1]] w fun e w' => e = .returned (.bool r) ∧ Below w.heap.size w w' := by
 have hu29 := Tryd.underlying29; have HB := Aside0.mk (Below.refl w.heap.size w); have H : (if a0_0 = a1_0 then (if (a0_1 != a1_1) = true then (some false) else (some true)) else (some false)) = some r := h; clear h; by_cases c3 : a0_0 = a1_0
 ·
  rw [if_pos c3] at H; have c3b0 : (a0_0 == a1_0) = true := beq_iff_eq.mpr c3; have c3b1 : (a0_0 != a1_0) = false := bne_eq_false_iff_eq.mpr c3; clear c3; by_cases c4 : (a0_1 != a1_1) = true
  ·
   rw [if_pos c4] at H; have c4b0 : (a0_1 != a1_1) = true := c4; (try (have c4b1 : decide (a0_1 = a1_1) = false := by simpa using c4))
   (try (have c4b2 : (a0_1 == a1_1) = false := by simpa using c4))
   (try (have c4b3 : ¬ (a0_1 = a1_1) := by simpa using c4))
   clear c4; obtain rfl := Option.some.inj H; go_enter Tryd.func74, Tryd.ntmps74
   go_wp2_with (first | ((with_reducible refine gate_dst (N := 2) rfl ?_); refine box_event ?hg (N := 2) ?hd (cs := #[.int .i64 a0_0, .bool a0_1]) (t := 29) ?hr ?_; (case hd => rfl); (case hg => rfl); (case hr => first | (go_simp; done) | (go_simp; rfl)); intro gb111 hg w5 hbox hb; have n0_ := Aside0.mk (below_step (by repeat (first | (with_reducible first | exact HB.out | apply below_alloc | apply pw_below_drewN | apply below_drew1) | exact HB.out)) hb); have n1_ := Aside0.mk (hbox); have n2_ := Aside0.mk ((by rw [hg]; exact (below_size (by repeat (first | (with_reducible first | exact HB.out | apply below_alloc | apply pw_below_drewN | apply below_drew1) | exact HB.out))) : w.heap.size ≤ gb111)); have n3_ := Aside0.mk ((by rw [hg]; exact (below_size (by repeat (first | (with_reducible first | exact HB.out | apply below_alloc | apply pw_below_drewN | apply below_drew1) | exact HB.out))) : w.heap.size ≤ gb111)); clear HB; have HB := n0_; have BK111 := n1_; have GW111 := n2_; have GE111 := n3_; clear n0_ n1_ n2_ n3_; clear hb hbox hg) | ((with_reducible refine gate_dst (N := 3) rfl ?_); refine box_event ?hg (N := 3) ?hd (cs := #[.int .i64 a1_0, .bool a1_1]) (t := 29) ?hr ?_; (case hd => rfl); (case hg => rfl); (case hr => first | (go_simp; done) | (go_simp; rfl)); intro gb112 hg w6 hbox hb; have n0_ := Aside0.mk (blk_below (g := gb111) (o := .cells #[.int .i64 a0_0, .bool a0_1] 29 (0, 0)) (by (with_reducible repeat (first | refine blk_drewN ?_ _ | refine blk_drew ?_ | refine blk_alloc ?_ _)); exact BK111.out) hb); have n1_ := Aside0.mk (below_step (by repeat (first | (with_reducible first | exact HB.out | apply below_alloc | apply pw_below_drewN | apply below_drew1 | refine below_set ?_ GE111.out) | exact HB.out)) hb); have n2_ := Aside0.mk (hbox); have n3_ := Aside0.mk ((by rw [hg]; exact (below_size (by repeat (first | (with_reducible first | exact HB.out | apply below_alloc | apply pw_below_drewN | apply below_drew1 | refine below_set ?_ GE111.out) | exact HB.out))) : w.heap.size ≤ gb112)); have n4_ := Aside0.mk ((by rw [hg]; exact (below_size (by repeat (first | (with_reducible first | exact HB.out | apply below_alloc | apply pw_below_drewN | apply below_drew1 | refine below_set ?_ GE111.out) | exact HB.out))) : w.heap.size ≤ gb112)); have n5_ := Aside0.mk ((by rw [hg]; exact Nat.ne_of_lt (blk_lt (g := gb111) (o := .cells #[.int .i64 a0_0, .bool a0_1] 29 (0, 0)) (by (with_reducible repeat (first | refine blk_drewN ?_ _ | refine blk_drew ?_ | refine blk_alloc ?_ _)); exact BK111.out)) : gb111 ≠ gb112)); have n6_ := Aside0.mk ((by rw [hg]; exact Nat.ne_of_gt (blk_lt (g := gb111) (o := .cells #[.int .i64 a0_0, .bool a0_1] 29 (0, 0)) (by (with_reducible repeat (first | refine blk_drewN ?_ _ | refine blk_drew ?_ | refine blk_alloc ?_ _)); exact BK111.out)) : gb112 ≠ gb111)); clear BK111; clear HB; have BK111 := n0_; have HB := n1_; have BK112 := n2_; have GW112 := n3_; have GE112 := n4_; have NB111_112 := n5_; have NB112_111 := n6_; clear n0_ n1_ n2_ n3_ n4_ n5_ n6_; clear hb hbox hg; have hnb7 := NB111_112.out; have hnc7 := NB112_111.out; have hcz8_0 : w6.cell? ⟨gb111, 0, none⟩ = some (.int .i64 a0_0) := (blk_cell BK111.out 0).trans rfl; have hcz8_1 : w6.cell? ⟨gb111, 1, none⟩ = some (.bool a0_1) := (blk_cell BK111.out 1).trans rfl; have hfz8_0 := blk_frozen BK111.out 0; have hfz8_1 := blk_frozen BK111.out 1; have hcz9_0 : w6.cell? ⟨gb112, 0, none⟩ = some (.int .i64 a1_0) := (blk_cell BK112.out 0).trans rfl; have hcz9_1 : w6.cell? ⟨gb112, 1, none⟩ = some (.bool a1_1) := (blk_cell BK112.out 1).trans rfl; have hfz9_0 := blk_frozen BK112.out 0; have hfz9_1 := blk_frozen BK112.out 1))
   go_ret
   exact ⟨by first | rfl | (simp [errW_none, errW_some] <;> rfl) | (simp [*, errW_none, errW_some] <;> rfl), by repeat (first | (with_reducible first | exact HB.out | apply below_alloc | apply pw_below_drewN | apply below_drew1 | refine below_set ?_ GE111.out | refine below_set ?_ GE112.out) | exact HB.out)⟩
  ·
   rw [if_neg c4] at H; have c4b0 : (a0_1 != a1_1) = false := by simpa using c4
   (try (have c4b1 : decide (a0_1 = a1_1) = true := by simpa using c4))
   (try (have c4b2 : (a0_1 == a1_1) = true := by simpa using c4))
   clear c4; obtain rfl := Option.some.inj H; go_enter Tryd.func74, Tryd.ntmps74
   go_wp2_with (first | ((with_reducible refine gate_dst (N := 2) rfl ?_); refine box_event ?hg (N := 2) ?hd (cs := #[.int .i64 a0_0, .bool a0_1]) (t := 29) ?hr ?_; (case hd => rfl); (case hg => rfl); (case hr => first | (go_simp; done) | (go_simp; rfl)); intro gb111 hg w10 hbox hb; have n0_ := Aside0.mk (below_step (by repeat (first | (with_reducible first | exact HB.out | apply below_alloc | apply pw_below_drewN | apply below_drew1) | exact HB.out)) hb); have n1_ := Aside0.mk (hbox); have n2_ := Aside0.mk ((by rw [hg]; exact (below_size (by repeat (first | (with_reducible first | exact HB.out | apply below_alloc | apply pw_below_drewN | apply below_drew1) | exact HB.out))) : w.heap.size ≤ gb111)); have n3_ := Aside0.mk ((by rw [hg]; exact (below_size (by repeat (first | (with_reducible first | exact HB.out | apply below_alloc | apply pw_below_drewN | apply below_drew1) | exact HB.out))) : w.heap.size ≤ gb111)); clear HB; have HB := n0_; have BK111 := n1_; have GW111 := n2_; have GE111 := n3_; clear n0_ n1_ n2_ n3_; clear hb hbox hg) | ((with_reducible refine gate_dst (N := 3) rfl ?_); refine box_event ?hg (N := 3) ?hd (cs := #[.int .i64 a1_0, .bool a1_1]) (t := 29) ?hr ?_; (case hd => rfl); (case hg => rfl); (case hr => first | (go_simp; done) | (go_simp; rfl)); intro gb112 hg w11 hbox hb; have n0_ := Aside0.mk (blk_below (g := gb111) (o := .cells #[.int .i64 a0_0, .bool a0_1] 29 (0, 0)) (by (with_reducible repeat (first | refine blk_drewN ?_ _ | refine blk_drew ?_ | refine blk_alloc ?_ _)); exact BK111.out) hb); have n1_ := Aside0.mk (below_step (by repeat (first | (with_reducible first | exact HB.out | apply below_alloc | apply pw_below_drewN | apply below_drew1 | refine below_set ?_ GE111.out) | exact HB.out)) hb); have n2_ := Aside0.mk (hbox); have n3_ := Aside0.mk ((by rw [hg]; exact (below_size (by repeat (first | (with_reducible first | exact HB.out | apply below_alloc | apply pw_below_drewN | apply below_drew1 | refine below_set ?_ GE111.out) | exact HB.out))) : w.heap.size ≤ gb112)); have n4_ := Aside0.mk ((by rw [hg]; exact (below_size (by repeat (first | (with_reducible first | exact HB.out | apply below_alloc | apply pw_below_drewN | apply below_drew1 | refine below_set ?_ GE111.out) | exact HB.out))) : w.heap.size ≤ gb112)); have n5_ := Aside0.mk ((by rw [hg]; exact Nat.ne_of_lt (blk_lt (g := gb111) (o := .cells #[.int .i64 a0_0, .bool a0_1] 29 (0, 0)) (by (with_reducible repeat (first | refine blk_drewN ?_ _ | refine blk_drew ?_ | refine blk_alloc ?_ _)); exact BK111.out)) : gb111 ≠ gb112)); have n6_ := Aside0.mk ((by rw [hg]; exact Nat.ne_of_gt (blk_lt (g := gb111) (o := .cells #[.int .i64 a0_0, .bool a0_1] 29 (0, 0)) (by (with_reducible repeat (first | refine blk_drewN ?_ _ | refine blk_drew ?_ | refine blk_alloc ?_ _)); exact BK111.out)) : gb112 ≠ gb111)); clear BK111; clear HB; have BK111 := n0_; have HB := n1_; have BK112 := n2_; have GW112 := n3_; have GE112 := n4_; have NB111_112 := n5_; have NB112_111 := n6_; clear n0_ n1_ n2_ n3_ n4_ n5_ n6_; clear hb hbox hg; have hnb12 := NB111_112.out; have hnc12 := NB112_111.out; have hcz13_0 : w11.cell? ⟨gb111, 0, none⟩ = some (.int .i64 a0_0) := (blk_cell BK111.out 0).trans rfl; have hcz13_1 : w11.cell? ⟨gb111, 1, none⟩ = some (.bool a0_1) := (blk_cell BK111.out 1).trans rfl; have hfz13_0 := blk_frozen BK111.out 0; have hfz13_1 := blk_frozen BK111.out 1; have hcz14_0 : w11.cell? ⟨gb112, 0, none⟩ = some (.int .i64 a1_0) := (blk_cell BK112.out 0).trans rfl; have hcz14_1 : w11.cell? ⟨gb112, 1, none⟩ = some (.bool a1_1) := (blk_cell BK112.out 1).trans rfl; have hfz14_0 := blk_frozen BK112.out 0; have hfz14_1 := blk_frozen BK112.out 1))
   go_ret
   exact ⟨by first | rfl | (simp [errW_none, errW_some] <;> rfl) | (simp [*, errW_none, errW_some] <;> rfl), by repeat (first | (with_reducible first | exact HB.out | apply below_alloc | apply pw_below_drewN | apply below_drew1 | refine below_set ?_ GE111.out | refine below_set ?_ GE112.out) | exact HB.out)⟩
 ·
  rw [if_neg c3] at H; have c3b0 : (a0_0 == a1_0) = false := beq_eq_false_iff_ne.mpr c3; have c3b1 : (a0_0 != a1_0) = true := bne_iff_ne.mpr c3; obtain rfl := Option.some.inj H; go_enter Tryd.func74, Tryd.ntmps74
  go_wp2_with (first | ((with_reducible refine gate_dst (N := 2) rfl ?_); refine box_event ?hg (N := 2) ?hd (cs := #[.int .i64 a0_0, .bool a0_1]) (t := 29) ?hr ?_; (case hd => rfl); (case hg => rfl); (case hr => first | (go_simp; done) | (go_simp; rfl)); intro gb111 hg w15 hbox hb; have n0_ := Aside0.mk (below_step (by repeat (first | (with_reducible first | exact HB.out | apply below_alloc | apply pw_below_drewN | apply below_drew1) | exact HB.out)) hb); have n1_ := Aside0.mk (hbox); have n2_ := Aside0.mk ((by rw [hg]; exact (below_size (by repeat (first | (with_reducible first | exact HB.out | apply below_alloc | apply pw_below_drewN | apply below_drew1) | exact HB.out))) : w.heap.size ≤ gb111)); have n3_ := Aside0.mk ((by rw [hg]; exact (below_size (by repeat (first | (with_reducible first | exact HB.out | apply below_alloc | apply pw_below_drewN | apply below_drew1) | exact HB.out))) : w.heap.size ≤ gb111)); clear HB; have HB := n0_; have BK111 := n1_; have GW111 := n2_; have GE111 := n3_; clear n0_ n1_ n2_ n3_; clear hb hbox hg) | ((with_reducible refine gate_dst (N := 3) rfl ?_); refine box_event ?hg (N := 3) ?hd (cs := #[.int .i64 a1_0, .bool a1_1]) (t := 29) ?hr ?_; (case hd => rfl); (case hg => rfl); (case hr => first | (go_simp; done) | (go_simp; rfl)); intro gb112 hg w16 hbox hb; have n0_ := Aside0.mk (blk_below (g := gb111) (o := .cells #[.int .i64 a0_0, .bool a0_1] 29 (0, 0)) (by (with_reducible repeat (first | refine blk_drewN ?_ _ | refine blk_drew ?_ | refine blk_alloc ?_ _)); exact BK111.out) hb); have n1_ := Aside0.mk (below_step (by repeat (first | (with_reducible first | exact HB.out | apply below_alloc | apply pw_below_drewN | apply below_drew1 | refine below_set ?_ GE111.out) | exact HB.out)) hb); have n2_ := Aside0.mk (hbox); have n3_ := Aside0.mk ((by rw [hg]; exact (below_size (by repeat (first | (with_reducible first | exact HB.out | apply below_alloc | apply pw_below_drewN | apply below_drew1 | refine below_set ?_ GE111.out) | exact HB.out))) : w.heap.size ≤ gb112)); have n4_ := Aside0.mk ((by rw [hg]; exact (below_size (by repeat (first | (with_reducible first | exact HB.out | apply below_alloc | apply pw_below_drewN | apply below_drew1 | refine below_set ?_ GE111.out) | exact HB.out))) : w.heap.size ≤ gb112)); have n5_ := Aside0.mk ((by rw [hg]; exact Nat.ne_of_lt (blk_lt (g := gb111) (o := .cells #[.int .i64 a0_0, .bool a0_1] 29 (0, 0)) (by (with_reducible repeat (first | refine blk_drewN ?_ _ | refine blk_drew ?_ | refine blk_alloc ?_ _)); exact BK111.out)) : gb111 ≠ gb112)); have n6_ := Aside0.mk ((by rw [hg]; exact Nat.ne_of_gt (blk_lt (g := gb111) (o := .cells #[.int .i64 a0_0, .bool a0_1] 29 (0, 0)) (by (with_reducible repeat (first | refine blk_drewN ?_ _ | refine blk_drew ?_ | refine blk_alloc ?_ _)); exact BK111.out)) : gb112 ≠ gb111)); clear BK111; clear HB; have BK111 := n0_; have HB := n1_; have BK112 := n2_; have GW112 := n3_; have GE112 := n4_; have NB111_112 := n5_; have NB112_111 := n6_; clear n0_ n1_ n2_ n3_ n4_ n5_ n6_; clear hb hbox hg; have hnb17 := NB111_112.out; have hnc17 := NB112_111.out; have hcz18_0 : w16.cell? ⟨gb111, 0, none⟩ = some (.int .i64 a0_0) := (blk_cell BK111.out 0).trans rfl; have hcz18_1 : w16.cell? ⟨gb111, 1, none⟩ = some (.bool a0_1) := (blk_cell BK111.out 1).trans rfl; have hfz18_0 := blk_frozen BK111.out 0; have hfz18_1 := blk_frozen BK111.out 1; have hcz19_0 : w16.cell? ⟨gb112, 0, none⟩ = some (.int .i64 a1_0) := (blk_cell BK112.out 0).trans rfl; have hcz19_1 : w16.cell? ⟨gb112, 1, none⟩ = some (.bool a1_1) := (blk_cell BK112.out 1).trans rfl; have hfz19_0 := blk_frozen BK112.out 0; have hfz19_1 := blk_frozen BK112.out 1))
  go_ret
  exact ⟨by first | rfl | (simp [errW_none, errW_some] <;> rfl) | (simp [*, errW_none, errW_some] <;> rfl), by repeat (first | (with_reducible first | exact HB.out | apply below_alloc | apply pw_below_drewN | apply below_drew1 | refine below_set ?_ GE111.out | refine below_set ?_ GE112.out) | exact HB.out)⟩

end Go.Proofs.YthhnaplmjpacnaaDoor.PFnExactModeMoves
namespace Go.Proofs.YthhnaplmjpacnaaDoor.PFnExactModeMoves
open Go.RowKit Go.Proofs.YthhnaplmjpacnaaDoorW.PrintWords Go.Proofs.YthhnaplmjpacnaaDoorW.PrintLast Go.Proofs.YthhnaplmjpacnaaDoorW.PrintMore
attribute [local go_sem] max2_int min2_int max_two min_two max_three min_three max_four min_four   -- for this text's walks alone
set_option linter.unusedVariables false
set_option linter.unusedSimpArgs false

def laws_eqToneS.l0 : Nat → List (S29) → List (S29) → Int → Option (Bool)
 | 0, _, _, _ => none
 | k + 1, x0, x1, x5 => if x5 < (x0.length : Int) then (if 0 ≤ x5 then (if x5 < (x1.length : Int) then ((laws_eqTone.f ((rd_T29 x0 x5).f0) ((rd_T29 x0 x5).f1) ((rd_T29 x1 x5).f0) ((rd_T29 x1 x5).f1)).bind fun t115 => (if t115 = true then (laws_eqToneS.l0 k x0 x1 (wrap64 (x5 + 1))) else (some false))) else (none)) else (none)) else (some true)
def laws_eqToneS.f (k : Nat) (l0 : List (S29)) (l1 : List (S29)) : Option (Bool) := if (l0.length : Int) = (l1.length : Int) then (laws_eqToneS.l0 k l0 l1 0) else (some false)
def laws_eqToneS.T6 : Bool × List (List Nat × List Nat) := (true, [([], []), ([], []), ([0, 1], [0, 1]), ([2], [2]), ([], []), ([], []), ([4, 5], [4, 5]), ([6], [6]), ([3, 7], [3, 7]), ([8], [8])])
def laws_eqToneS.B6 : List Nat := [0, 0, 3, 7, 0, 0, 48, 112, 255, 511]
theorem laws_eqToneS.tab6 : rtab .any (opsOf Tryd.f22 6) = laws_eqToneS.T6 := by kernel_rfl
theorem laws_eqToneS.bits6 : waitsOk laws_eqToneS.T6.2 laws_eqToneS.B6 = true := by kernel_rfl
set_option maxHeartbeats 8000000 in
set_option maxRecDepth 100000 in
theorem laws_eqToneS.calls (k : Nat) (A0 : Option Addr) (c0 : Nat) (l0 : List (S29)) (A1 : Option Addr) (c1 : Nat) (l1 : List (S29)) (r : Bool) (w : World) (hr0 : Kd.C k29 w A0 l0.length l0) (hc0 : l0.length ≤ c0) (hr1 : Kd.C k29 w A1 l1.length l1) (hc1 : l1.length ≤ c1) (h : laws_eqToneS.f k l0 l1 = some r) :
 Calls Tryd.prog 22 #[.slice A0 l0.length c0, .slice A1 l1.length c1] w fun e w' => e = .returned (.bool r) ∧ Below w.heap.size w w' := by
 have hu29 := Tryd.underlying29; have HR0 := Aside0.mk hr0; have HC0 := Aside0.mk hc0; clear hr0 hc0; have HR1 := Aside0.mk hr1; have HC1 := Aside0.mk hc1; clear hr1 hc1; have HB := Aside0.mk (Below.refl w.heap.size w); have H : (if (l0.length : Int) = (l1.length : Int) then (laws_eqToneS.l0 k l0 l1 0) else (some false)) = some r := h; clear h; by_cases c3 : (l0.length : Int) = (l1.length : Int)
 ·
  rw [if_pos c3] at H; have c3b0 : ((l0.length : Int) == (l1.length : Int)) = true := beq_iff_eq.mpr c3; have c3b1 : ((l0.length : Int) != (l1.length : Int)) = false := bne_eq_false_iff_eq.mpr c3; have c3b2 : (l0.length == l1.length) = true := by first | simpa using c3 | (simp at c3 ⊢; omega)
  clear c3; have H' := Aside0.mk H; clear H; go_enter Tryd.func22, Tryd.ntmps22
  go_wp2; go_loopg [5] k (fun kq v5 w' => ∃ (x5_1 : Int), v5 = .int .i64 x5_1 ∧ Aside0 (laws_eqToneS.l0 kq l0 l1 x5_1 = some r) ∧ Aside0 (kq ≤ k) ∧ Aside0 (Below w.heap.size w w'))
  case atStart => exact ⟨(0), (by first | rfl | (simp; done) | (simp [*]; done)), H', ⟨Nat.le_refl _⟩, ⟨by repeat (first | (with_reducible first | exact HB.out | apply below_alloc | apply pw_below_drewN | apply below_drew1) | exact HB.out)⟩⟩
  case round =>
   clear H'; try clear c1
   try clear c2
   try clear p2
   try clear c3
   try clear c3b0
   try clear c3b1
   try clear c3b2
   obtain ⟨x5_1, rfl, HA, HK1, HB⟩ := hrel; cases gk with
   | zero => exact absurd HA.out (by simp [laws_eqToneS.l0])
   | succ k1 =>
    have H := HA.out; clear HA; simp only [laws_eqToneS.l0] at H; by_cases c4 : x5_1 < (l0.length : Int)
    ·
     rw [if_pos c4] at H; have c4b0 : decide (x5_1 < (l0.length : Int)) = true := decide_eq_true c4; clear c4; by_cases c5 : 0 ≤ x5_1
     ·
      rw [if_pos c5] at H; have c5b0 : decide (0 ≤ x5_1) = true := decide_eq_true c5; clear c5; by_cases c6 : x5_1 < (l1.length : Int)
      ·
       rw [if_pos c6] at H; have c6b0 : decide (x5_1 < (l1.length : Int)) = true := decide_eq_true c6; clear c6; replace H := Option.bind_eq_some_iff.mp H; obtain ⟨t115, A70, H⟩ := H; replace H : (if t115 = true then (laws_eqToneS.l0 k1 l0 l1 (wrap64 (x5_1 + 1))) else (some false)) = some r := H; have A7 := Aside0.mk A70; clear A70; by_cases c8 : t115 = true
       ·
        subst c8; have H1 : (laws_eqToneS.l0 k1 l0 l1 (wrap64 (x5_1 + 1))) = some r := by rw [if_pos rfl] at H; exact H
        clear H; have H := H1; clear H1; have H' := Aside0.mk H; clear H; try go_wp2
        have n0_ := Aside0.mk (below_drew1 HB.out); clear HB; have HB := n0_; clear n0_; have p113 : 0 ≤ (x5_1 : Int) := of_decide_eq_true (by first | (with_reducible assumption) | assumption); have q113 : x5_1 < (l0.length : Int) := of_decide_eq_true (by first | (with_reducible assumption) | assumption); obtain ⟨ad113, e113, hx113_0, hx113_1⟩ := at_T29 HR0.out x5_1 p113 q113; have hw113_1 := hx113_1; have hw113_0 := hx113_0; cases e113; replace hx113_0 := (HB.out.cell (World.block_lt_of_cell? w _ hx113_0)).trans hx113_0; replace hx113_1 := (HB.out.cell (World.block_lt_of_cell? w _ hx113_1)).trans hx113_1; replace p113 := eq_true p113; replace q113 := eq_true q113; have p114 : 0 ≤ (x5_1 : Int) := of_decide_eq_true (by first | (with_reducible assumption) | assumption); have q114 : x5_1 < (l1.length : Int) := of_decide_eq_true (by first | (with_reducible assumption) | assumption); obtain ⟨ad114, e114, hx114_0, hx114_1⟩ := at_T29 HR1.out x5_1 p114 q114; have hw114_1 := hx114_1; have hw114_0 := hx114_0; cases e114; replace hx114_0 := (HB.out.cell (World.block_lt_of_cell? w _ hx114_0)).trans hx114_0; replace hx114_1 := (HB.out.cell (World.block_lt_of_cell? w _ hx114_1)).trans hx114_1; replace p114 := eq_true p114; replace q114 := eq_true q114; refine start_ (n := 10) (S := fun w' => w'.cell? (ad113.add ((x5_1).toNat * 2)) = some (.int .i64 ((rd_T29 l0 x5_1).f0)) ∧ w'.cell? ⟨(ad113.add ((x5_1).toNat * 2)).block, (ad113.add ((x5_1).toNat * 2)).off + 1, none⟩ = some (.bool ((rd_T29 l0 x5_1).f1)) ∧ w'.cell? (ad114.add ((x5_1).toNat * 2)) = some (.int .i64 ((rd_T29 l1 x5_1).f0)) ∧ w'.cell? ⟨(ad114.add ((x5_1).toNat * 2)).block, (ad114.add ((x5_1).toNat * 2)).off + 1, none⟩ = some (.bool ((rd_T29 l1 x5_1).f1))) (ds := []) (rowB 10 0) (by kernel_rfl) rfl rfl ⟨((HB.out.cell (World.block_lt_of_cell? w _ hw113_0)).trans hw113_0), ((HB.out.cell (World.block_lt_of_cell? w _ hw113_1)).trans hw113_1), ((HB.out.cell (World.block_lt_of_cell? w _ hw114_0)).trans hw114_0), ((HB.out.cell (World.block_lt_of_cell? w _ hw114_1)).trans hw114_1)⟩ (fun hHeld => ?_); refine with_tabW laws_eqToneS.tab6 laws_eqToneS.bits6 (fun HT_ HW_ => ?_); generalize wr.drew = w9 at HB hx113_0 hx113_1 hx114_0 hx114_1 hHeld ⊢; refine pure_ (i := 0) (N := some 17) (v := ?_) (a' := ?_) (rowB 10 1) rfl rfl (any_of HT_.out (by kernel_rfl)) (fun _ _ _ h => h) (Or.inl ⟨by rfl, ?_⟩) ?_ ?_; rotate_left; (· intro w'; go_simp; with_reducible rfl); rotate_left; (· simp only [Act.put, List.setIfInBounds_toArray, List.set_cons_zero, List.set_cons_succ, i64_w, i32_w]; rfl); refine pure_ (i := 1) (N := some 18) (v := ?_) (a' := ?_) (rowB 10 3) rfl rfl (any_of HT_.out (by kernel_rfl)) (fun _ _ _ h => h) (Or.inl ⟨by rfl, ?_⟩) ?_ ?_; rotate_left; (· intro w'; go_simp; with_reducible rfl); rotate_left; (· simp only [Act.put, List.setIfInBounds_toArray, List.set_cons_zero, List.set_cons_succ, i64_w, i32_w]; rfl); refine pure_ (i := 2) (N := some 19) (v := ?_) (a' := ?_) (rowB 10 7) rfl rfl (any_of HT_.out (by kernel_rfl)) (fun _ _ _ h => h) (Or.inl ⟨by rfl, ?_⟩) ?_ ?_; rotate_left; (· intro w'; go_simp; with_reducible rfl); rotate_left; (· simp only [Act.put, List.setIfInBounds_toArray, List.set_cons_zero, List.set_cons_succ, i64_w, i32_w]; rfl); refine pure_ (i := 4) (N := some 21) (v := ?_) (a' := ?_) (rowB 10 23) rfl rfl (any_of HT_.out (by kernel_rfl)) (fun _ _ _ h => h) (Or.inl ⟨by rfl, ?_⟩) ?_ ?_; rotate_left; (· intro w'; go_simp; with_reducible rfl); rotate_left; (· simp only [Act.put, List.setIfInBounds_toArray, List.set_cons_zero, List.set_cons_succ, i64_w, i32_w]; rfl); refine pure_ (i := 5) (N := some 22) (v := ?_) (a' := ?_) (rowB 10 55) rfl rfl (any_of HT_.out (by kernel_rfl)) (fun _ _ _ h => h) (Or.inl ⟨by rfl, ?_⟩) ?_ ?_; rotate_left; (· intro w'; go_simp; with_reducible rfl); rotate_left; (· simp only [Act.put, List.setIfInBounds_toArray, List.set_cons_zero, List.set_cons_succ, i64_w, i32_w]; rfl); refine pure_ (i := 6) (N := some 23) (v := ?_) (a' := ?_) (rowB 10 119) rfl rfl (any_of HT_.out (by kernel_rfl)) (fun _ _ _ h => h) (Or.inl ⟨by rfl, ?_⟩) ?_ ?_; rotate_left; (· intro w'; go_simp; with_reducible rfl); rotate_left; (· simp only [Act.put, List.setIfInBounds_toArray, List.set_cons_zero, List.set_cons_succ, i64_w, i32_w]; rfl); refine take_ (i := 3) (N := some 20) (v := ?_) (a' := ?_) (rowB 10 127) rfl rfl (take_ofW HT_.out HW_.out (by kernel_rfl)) (fun _ _ _ h => h) (Or.inl ⟨by rfl, ?_⟩) hHeld ?_ ?_; rotate_left; (· rintro w' ⟨s0, s1, s2, s3⟩; go_simp; with_reducible rfl); rotate_left; (· simp only [Act.put, List.setIfInBounds_toArray, List.set_cons_zero, List.set_cons_succ, i64_w, i32_w]; rfl); refine take_ (i := 7) (N := some 24) (v := ?_) (a' := ?_) (rowB 10 255) rfl rfl (take_ofW HT_.out HW_.out (by kernel_rfl)) (fun _ _ _ h => h) (Or.inl ⟨by rfl, ?_⟩) hHeld ?_ ?_; rotate_left; (· rintro w' ⟨s0, s1, s2, s3⟩; go_simp; with_reducible rfl); rotate_left; (· simp only [Act.put, List.setIfInBounds_toArray, List.set_cons_zero, List.set_cons_succ, i64_w, i32_w]; rfl); refine one_ (i := 8) (N := some 25) (rowB 10 511) rfl rfl (one_of HT_.out (by kernel_rfl)) (by decide) (fun K hK => ?_); refine goes_ Tryd.func74 (by kernel_rfl) rfl #[.agg #[.int .i64 ((rd_T29 l0 x5_1).f0), .bool ((rd_T29 l0 x5_1).f1)], .agg #[.int .i64 ((rd_T29 l1 x5_1).f0), .bool ((rd_T29 l1 x5_1).f1)]] (by rfl) rfl rfl (by (try simp only [List.map_toArray, List.map_cons, List.map_nil]); first | done | rfl | (simp only [List.length_drop, List.length_take]; rfl)) ?_; with_reducible refine (laws_eqTone.calls ((rd_T29 l0 x5_1).f0) ((rd_T29 l0 x5_1).f1) ((rd_T29 l1 x5_1).f0) ((rd_T29 l1 x5_1).f1) true _ A7.out).mono ?_
        rintro e w10 ⟨rfl, hb⟩; refine ⟨_, rfl, ?_⟩; have n0_ := Aside0.mk (below_step (by repeat (first | (with_reducible first | exact HB.out | apply below_alloc | apply pw_below_drewN | apply below_drew1) | exact HB.out)) hb); clear HB; have HB := n0_; clear n0_; (try clear hb)
        (try clear hb2)
        (try clear hk)
        (try clear hi)
        refine hK.out _ _ ⟨((HB.out.cell (World.block_lt_of_cell? w _ hw113_0)).trans hw113_0), ((HB.out.cell (World.block_lt_of_cell? w _ hw113_1)).trans hw113_1), ((HB.out.cell (World.block_lt_of_cell? w _ hw114_0)).trans hw114_0), ((HB.out.cell (World.block_lt_of_cell? w _ hw114_1)).trans hw114_1)⟩ (fun hHeld => ?_); clear hK K; refine norm_ (a' := ?_) ?_ ?_; rotate_left; (· show Act.put _ (some 25) _ = _; simp only [Act.put, List.setIfInBounds_toArray, List.set_cons_zero, List.set_cons_succ, i64_w, i32_w]; rfl); refine pure_ (i := 9) (N := some 26) (v := ?_) (a' := ?_) (rowB 10 1023) rfl rfl (any_of HT_.out (by kernel_rfl)) (fun _ _ _ h => h) (Or.inl ⟨by rfl, ?_⟩) ?_ ?_; rotate_left; (· intro w'; go_simp; with_reducible rfl); rotate_left; (· simp only [Act.put, List.setIfInBounds_toArray, List.set_cons_zero, List.set_cons_succ, i64_w, i32_w]; rfl); refine done_ (done_of HT_.out (by kernel_rfl)) ?_; try go_wp2
        go_roundg k1
        case measure => have := HK1.out; omega
        case rel => exact ⟨(wrap64 (x5_1 + 1)), (by first | rfl | (simp; done) | (simp [*]; done)), H', ⟨by have := HK1.out; omega⟩, ⟨by repeat (first | (with_reducible first | exact HB.out | apply below_alloc | apply pw_below_drewN | apply below_drew1) | exact HB.out)⟩⟩
       ·
        replace c8 := Bool.eq_false_iff.mpr c8; subst c8; have H1 : (some false) = some r := by rw [if_neg (show ¬ (false = true) by decide)] at H; exact H
        clear H; have H := H1; clear H1; obtain rfl := Option.some.inj H; try go_wp2
        have n0_ := Aside0.mk (below_drew1 HB.out); clear HB; have HB := n0_; clear n0_; have p113 : 0 ≤ (x5_1 : Int) := of_decide_eq_true (by first | (with_reducible assumption) | assumption); have q113 : x5_1 < (l0.length : Int) := of_decide_eq_true (by first | (with_reducible assumption) | assumption); obtain ⟨ad113, e113, hx113_0, hx113_1⟩ := at_T29 HR0.out x5_1 p113 q113; have hw113_1 := hx113_1; have hw113_0 := hx113_0; cases e113; replace hx113_0 := (HB.out.cell (World.block_lt_of_cell? w _ hx113_0)).trans hx113_0; replace hx113_1 := (HB.out.cell (World.block_lt_of_cell? w _ hx113_1)).trans hx113_1; replace p113 := eq_true p113; replace q113 := eq_true q113; have p114 : 0 ≤ (x5_1 : Int) := of_decide_eq_true (by first | (with_reducible assumption) | assumption); have q114 : x5_1 < (l1.length : Int) := of_decide_eq_true (by first | (with_reducible assumption) | assumption); obtain ⟨ad114, e114, hx114_0, hx114_1⟩ := at_T29 HR1.out x5_1 p114 q114; have hw114_1 := hx114_1; have hw114_0 := hx114_0; cases e114; replace hx114_0 := (HB.out.cell (World.block_lt_of_cell? w _ hx114_0)).trans hx114_0; replace hx114_1 := (HB.out.cell (World.block_lt_of_cell? w _ hx114_1)).trans hx114_1; replace p114 := eq_true p114; replace q114 := eq_true q114; refine start_ (n := 10) (S := fun w' => w'.cell? (ad113.add ((x5_1).toNat * 2)) = some (.int .i64 ((rd_T29 l0 x5_1).f0)) ∧ w'.cell? ⟨(ad113.add ((x5_1).toNat * 2)).block, (ad113.add ((x5_1).toNat * 2)).off + 1, none⟩ = some (.bool ((rd_T29 l0 x5_1).f1)) ∧ w'.cell? (ad114.add ((x5_1).toNat * 2)) = some (.int .i64 ((rd_T29 l1 x5_1).f0)) ∧ w'.cell? ⟨(ad114.add ((x5_1).toNat * 2)).block, (ad114.add ((x5_1).toNat * 2)).off + 1, none⟩ = some (.bool ((rd_T29 l1 x5_1).f1))) (ds := []) (rowB 10 0) (by kernel_rfl) rfl rfl ⟨((HB.out.cell (World.block_lt_of_cell? w _ hw113_0)).trans hw113_0), ((HB.out.cell (World.block_lt_of_cell? w _ hw113_1)).trans hw113_1), ((HB.out.cell (World.block_lt_of_cell? w _ hw114_0)).trans hw114_0), ((HB.out.cell (World.block_lt_of_cell? w _ hw114_1)).trans hw114_1)⟩ (fun hHeld => ?_); refine with_tabW laws_eqToneS.tab6 laws_eqToneS.bits6 (fun HT_ HW_ => ?_); generalize wr.drew = w11 at HB hx113_0 hx113_1 hx114_0 hx114_1 hHeld ⊢; refine pure_ (i := 0) (N := some 17) (v := ?_) (a' := ?_) (rowB 10 1) rfl rfl (any_of HT_.out (by kernel_rfl)) (fun _ _ _ h => h) (Or.inl ⟨by rfl, ?_⟩) ?_ ?_; rotate_left; (· intro w'; go_simp; with_reducible rfl); rotate_left; (· simp only [Act.put, List.setIfInBounds_toArray, List.set_cons_zero, List.set_cons_succ, i64_w, i32_w]; rfl); refine pure_ (i := 1) (N := some 18) (v := ?_) (a' := ?_) (rowB 10 3) rfl rfl (any_of HT_.out (by kernel_rfl)) (fun _ _ _ h => h) (Or.inl ⟨by rfl, ?_⟩) ?_ ?_; rotate_left; (· intro w'; go_simp; with_reducible rfl); rotate_left; (· simp only [Act.put, List.setIfInBounds_toArray, List.set_cons_zero, List.set_cons_succ, i64_w, i32_w]; rfl); refine pure_ (i := 2) (N := some 19) (v := ?_) (a' := ?_) (rowB 10 7) rfl rfl (any_of HT_.out (by kernel_rfl)) (fun _ _ _ h => h) (Or.inl ⟨by rfl, ?_⟩) ?_ ?_; rotate_left; (· intro w'; go_simp; with_reducible rfl); rotate_left; (· simp only [Act.put, List.setIfInBounds_toArray, List.set_cons_zero, List.set_cons_succ, i64_w, i32_w]; rfl); refine pure_ (i := 4) (N := some 21) (v := ?_) (a' := ?_) (rowB 10 23) rfl rfl (any_of HT_.out (by kernel_rfl)) (fun _ _ _ h => h) (Or.inl ⟨by rfl, ?_⟩) ?_ ?_; rotate_left; (· intro w'; go_simp; with_reducible rfl); rotate_left; (· simp only [Act.put, List.setIfInBounds_toArray, List.set_cons_zero, List.set_cons_succ, i64_w, i32_w]; rfl); refine pure_ (i := 5) (N := some 22) (v := ?_) (a' := ?_) (rowB 10 55) rfl rfl (any_of HT_.out (by kernel_rfl)) (fun _ _ _ h => h) (Or.inl ⟨by rfl, ?_⟩) ?_ ?_; rotate_left; (· intro w'; go_simp; with_reducible rfl); rotate_left; (· simp only [Act.put, List.setIfInBounds_toArray, List.set_cons_zero, List.set_cons_succ, i64_w, i32_w]; rfl); refine pure_ (i := 6) (N := some 23) (v := ?_) (a' := ?_) (rowB 10 119) rfl rfl (any_of HT_.out (by kernel_rfl)) (fun _ _ _ h => h) (Or.inl ⟨by rfl, ?_⟩) ?_ ?_; rotate_left; (· intro w'; go_simp; with_reducible rfl); rotate_left; (· simp only [Act.put, List.setIfInBounds_toArray, List.set_cons_zero, List.set_cons_succ, i64_w, i32_w]; rfl); refine take_ (i := 3) (N := some 20) (v := ?_) (a' := ?_) (rowB 10 127) rfl rfl (take_ofW HT_.out HW_.out (by kernel_rfl)) (fun _ _ _ h => h) (Or.inl ⟨by rfl, ?_⟩) hHeld ?_ ?_; rotate_left; (· rintro w' ⟨s0, s1, s2, s3⟩; go_simp; with_reducible rfl); rotate_left; (· simp only [Act.put, List.setIfInBounds_toArray, List.set_cons_zero, List.set_cons_succ, i64_w, i32_w]; rfl); refine take_ (i := 7) (N := some 24) (v := ?_) (a' := ?_) (rowB 10 255) rfl rfl (take_ofW HT_.out HW_.out (by kernel_rfl)) (fun _ _ _ h => h) (Or.inl ⟨by rfl, ?_⟩) hHeld ?_ ?_; rotate_left; (· rintro w' ⟨s0, s1, s2, s3⟩; go_simp; with_reducible rfl); rotate_left; (· simp only [Act.put, List.setIfInBounds_toArray, List.set_cons_zero, List.set_cons_succ, i64_w, i32_w]; rfl); refine one_ (i := 8) (N := some 25) (rowB 10 511) rfl rfl (one_of HT_.out (by kernel_rfl)) (by decide) (fun K hK => ?_); refine goes_ Tryd.func74 (by kernel_rfl) rfl #[.agg #[.int .i64 ((rd_T29 l0 x5_1).f0), .bool ((rd_T29 l0 x5_1).f1)], .agg #[.int .i64 ((rd_T29 l1 x5_1).f0), .bool ((rd_T29 l1 x5_1).f1)]] (by rfl) rfl rfl (by (try simp only [List.map_toArray, List.map_cons, List.map_nil]); first | done | rfl | (simp only [List.length_drop, List.length_take]; rfl)) ?_; with_reducible refine (laws_eqTone.calls ((rd_T29 l0 x5_1).f0) ((rd_T29 l0 x5_1).f1) ((rd_T29 l1 x5_1).f0) ((rd_T29 l1 x5_1).f1) false _ A7.out).mono ?_
        rintro e w12 ⟨rfl, hb⟩; refine ⟨_, rfl, ?_⟩; have n0_ := Aside0.mk (below_step (by repeat (first | (with_reducible first | exact HB.out | apply below_alloc | apply pw_below_drewN | apply below_drew1) | exact HB.out)) hb); clear HB; have HB := n0_; clear n0_; (try clear hb)
        (try clear hb2)
        (try clear hk)
        (try clear hi)
        refine hK.out _ _ ⟨((HB.out.cell (World.block_lt_of_cell? w _ hw113_0)).trans hw113_0), ((HB.out.cell (World.block_lt_of_cell? w _ hw113_1)).trans hw113_1), ((HB.out.cell (World.block_lt_of_cell? w _ hw114_0)).trans hw114_0), ((HB.out.cell (World.block_lt_of_cell? w _ hw114_1)).trans hw114_1)⟩ (fun hHeld => ?_); clear hK K; refine norm_ (a' := ?_) ?_ ?_; rotate_left; (· show Act.put _ (some 25) _ = _; simp only [Act.put, List.setIfInBounds_toArray, List.set_cons_zero, List.set_cons_succ, i64_w, i32_w]; rfl); refine pure_ (i := 9) (N := some 26) (v := ?_) (a' := ?_) (rowB 10 1023) rfl rfl (any_of HT_.out (by kernel_rfl)) (fun _ _ _ h => h) (Or.inl ⟨by rfl, ?_⟩) ?_ ?_; rotate_left; (· intro w'; go_simp; with_reducible rfl); rotate_left; (· simp only [Act.put, List.setIfInBounds_toArray, List.set_cons_zero, List.set_cons_succ, i64_w, i32_w]; rfl); refine done_ (done_of HT_.out (by kernel_rfl)) ?_; try go_wp2
        go_ret
        exact ⟨by first | rfl | (simp [errW_none, errW_some] <;> rfl) | (simp [*, errW_none, errW_some] <;> rfl), by repeat (first | (with_reducible first | exact HB.out | apply below_alloc | apply pw_below_drewN | apply below_drew1) | exact HB.out)⟩
      ·
       rw [if_neg c6] at H; exact absurd H (by simp)
     ·
      rw [if_neg c5] at H; exact absurd H (by simp)
    ·
     rw [if_neg c4] at H; have c4b0 : decide (x5_1 < (l0.length : Int)) = false := decide_eq_false c4; clear c4; obtain rfl := Option.some.inj H; go_wp2; go_ret
     exact ⟨by first | rfl | (simp [errW_none, errW_some] <;> rfl) | (simp [*, errW_none, errW_some] <;> rfl), by repeat (first | (with_reducible first | exact HB.out | apply below_alloc | apply pw_below_drewN | apply below_drew1) | exact HB.out)⟩
 ·
  rw [if_neg c3] at H; have c3b0 : ((l0.length : Int) == (l1.length : Int)) = false := beq_eq_false_iff_ne.mpr c3; have c3b1 : ((l0.length : Int) != (l1.length : Int)) = true := bne_iff_ne.mpr c3; have c3b2 : (l0.length == l1.length) = false := by first | simpa using c3 | (simp at c3 ⊢; omega)
  obtain rfl := Option.some.inj H; go_enter Tryd.func22, Tryd.ntmps22
  go_wp2; go_ret
  exact ⟨by first | rfl | (simp [errW_none, errW_some] <;> rfl) | (simp [*, errW_none, errW_some] <;> rfl), by repeat (first | (with_reducible first | exact HB.out | apply below_alloc | apply pw_below_drewN | apply below_drew1) | exact HB.out)⟩

end Go.Proofs.YthhnaplmjpacnaaDoor.PFnExactModeMoves
namespace Go.Proofs.YthhnaplmjpacnaaDoor.PFnExactModeMoves
open Go.RowKit Go.Proofs.YthhnaplmjpacnaaDoorW.PrintWords Go.Proofs.YthhnaplmjpacnaaDoorW.PrintLast Go.Proofs.YthhnaplmjpacnaaDoorW.PrintMore
attribute [local go_sem] max2_int min2_int max_two min_two max_three min_three max_four min_four   -- for this text's walks alone
set_option linter.unusedVariables false
set_option linter.unusedSimpArgs false

def laws_markToneS.l0 : Nat → List (S29) → Int → Int → Option (Int × (List (S29)))
 | 0, _, _, _ => none
 | k + 1, x0, x1, x5 => if x5 < (x0.length : Int) then (if 0 ≤ x5 then ((some (x0.set (x5 : Int).toNat (⟨x1, (rd_T29 x0 x5).f1⟩ : S29) : List (S29))).bind fun y116 => (laws_markToneS.l0 k (y116.set (x5 : Int).toNat (⟨(rd_T29 y116 x5).f0, ((Int.tmod (wrap64 (x1 + 1)) 3) == 0)⟩ : S29)) (wrap64 ((wrap64 (x1 + 1)) + 1)) (wrap64 (x5 + 1)))) else (none)) else (some (x1, x0))
def laws_markToneS.f (k : Nat) (l0 : List (S29)) (a1 : Int) : Option (Int × (List (S29))) := laws_markToneS.l0 k l0 a1 0
set_option maxHeartbeats 8000000 in
set_option maxRecDepth 100000 in
theorem laws_markToneS.calls (k : Nat) (P0_ : Nat → Prop) (u9000_ : Value) (l0 : List (S29)) (a1 : Int) (r1 : Int) (r2 : List (S29)) (w0 w : World) (hB : Below w0.heap.size w0 w) (ho0 : Kd.R k29 29 w w0.heap.size P0_ u9000_ l0) (h : laws_markToneS.f k l0 a1 = some (r1, r2)) :
 Calls Tryd.prog 23 #[u9000_, .int .i64 a1] w fun e w' => e = .returned (.int .i64 r1) ∧ Kd.R k29 29 w' w0.heap.size (fun k_ => (P0_ k_ ∨ w.heap.size ≤ k_)) u9000_ r2 ∧ Below w0.heap.size w0 w' ∧ Kept w w' (fun k_ => P0_ k_) := by
 have HO0 := Aside0.mk (show Kd.R k29 29 w w0.heap.size (fun k_ => (P0_ k_ ∨ w.heap.size ≤ k_)) u9000_ l0 from Kd.R_mono ho0 (fun k_ hk => (.inl hk))); have HK := Aside0.mk (Kept.refl w (fun k_ => P0_ k_)); have HW0 := Aside0.mk hB.size; have HB := Aside0.mk hB; clear hB; have H : (laws_markToneS.l0 k l0 a1 0) = some (r1, r2) := h; clear h; have H' := Aside0.mk H; clear H; go_enter Tryd.func23, Tryd.ntmps23
 go_wp2; go_loopg [1, 5] k (fun kq v1 v5 w' => ∃ (x0_1 : List (S29)) (x1_1 : Int) (x5_1 : Int), v1 = .int .i64 x1_1 ∧ v5 = .int .i64 x5_1 ∧ Aside0 (laws_markToneS.l0 kq x0_1 x1_1 x5_1 = some (r1, r2)) ∧ Aside0 (kq ≤ k) ∧ Aside0 (Kd.R k29 29 w' w0.heap.size (fun k_ => (P0_ k_ ∨ w.heap.size ≤ k_)) u9000_ x0_1) ∧ Aside0 (Kept w w' (fun k_ => P0_ k_)) ∧ Aside0 (Below w0.heap.size w0 w'))
 case atStart => exact ⟨(l0), (a1), (0), (by first | rfl | (simp; done) | (simp [*]; done)), (by first | rfl | (simp; done) | (simp [*]; done)), H', ⟨Nat.le_refl _⟩, ⟨by (with_reducible repeat (first | apply Kd.R_alloc | apply Kd.R_drewN | apply Kd.R_drew)); exact HO0.out⟩, ⟨by repeat (first | (with_reducible first | exact HK.out | apply Kept.alloc | apply Kept.drewN | apply Kept.drew) | exact HK.out)⟩, ⟨by repeat (first | (with_reducible first | exact HB.out | apply below_alloc | apply pw_below_drewN | apply below_drew1) | exact HB.out)⟩⟩
 case round =>
  clear H'; try clear c2
  try clear p2
  obtain ⟨x0_1, x1_1, x5_1, rfl, rfl, HA, HK1, HO_0, HK, HB⟩ := hrel; cases gk with
  | zero => exact absurd HA.out (by simp [laws_markToneS.l0])
  | succ k1 =>
   have H := HA.out; clear HA; simp only [laws_markToneS.l0] at H; by_cases c3 : x5_1 < (x0_1.length : Int)
   ·
    rw [if_pos c3] at H; have c3b0 : decide (x5_1 < (x0_1.length : Int)) = true := decide_eq_true c3; clear c3; by_cases c4 : 0 ≤ x5_1
    ·
     rw [if_pos c4] at H; have c4b0 : decide (0 ≤ x5_1) = true := decide_eq_true c4; clear c4; obtain ⟨y116, hy116⟩ : ∃ y_ : List (S29), y_ = (x0_1.set (x5_1 : Int).toNat (⟨x1_1, (rd_T29 x0_1 x5_1).f1⟩ : S29)) := ⟨_, rfl⟩
     replace H : (laws_markToneS.l0 k1 (y116.set (x5_1 : Int).toNat (⟨(rd_T29 y116 x5_1).f0, ((Int.tmod (wrap64 (x1_1 + 1)) 3) == 0)⟩ : S29)) (wrap64 ((wrap64 (x1_1 + 1)) + 1)) (wrap64 (x5_1 + 1))) = some (r1, r2) := by first | (rw [hy116]; with_reducible exact H) | (have H2_ := (Option.bind_some _ _).symm.trans H; rw [hy116]; with_reducible exact H2_) | (have H2_ := (Option.bind_some _ _).symm.trans H; with_reducible exact H2_) | with_reducible exact H | (rw [hy116]; exact H) | exact H
     have Ny116 := Aside0.mk hy116; clear hy116; obtain ⟨y117, hy117⟩ : ∃ y_ : List (S29), y_ = (y116.set (x5_1 : Int).toNat (⟨(rd_T29 y116 x5_1).f0, ((Int.tmod (wrap64 (x1_1 + 1)) 3) == 0)⟩ : S29)) := ⟨_, rfl⟩
     replace H : (laws_markToneS.l0 k1 y117 (wrap64 ((wrap64 (x1_1 + 1)) + 1)) (wrap64 (x5_1 + 1))) = some (r1, r2) := by first | (rw [hy117]; with_reducible exact H) | (have H2_ := (Option.bind_some _ _).symm.trans H; rw [hy117]; with_reducible exact H2_) | (have H2_ := (Option.bind_some _ _).symm.trans H; with_reducible exact H2_) | with_reducible exact H | (rw [hy117]; exact H) | exact H
     have Ny117 := Aside0.mk hy117; clear hy117; have H' := Aside0.mk H; clear H; obtain ⟨Ao7, co7, eo7⟩ := Kd.R_slice HO_0.out; subst eo7; have p5 : 0 ≤ (x5_1 : Int) := of_decide_eq_true (by first | (with_reducible assumption) | assumption); have q5 : (x5_1 : Int) < ((x0_1.length : Int) : Int) := of_decide_eq_true (by first | (with_reducible assumption) | assumption); obtain ⟨go5, co5, eo5, gb5, gl5, cl5, HG5⟩ := Kd.R_form HO_0.out (by omega); (first | cases eo5 | (injection eo5 with ea_ en_ ec_; (first | subst ea_ | (injection ea_ with ea_; subst ea_)); subst ec_; clear en_))
     have GB5 := Aside0.mk gb5; have GG5 := Aside0.mk HG5; clear gb5 gl5 HG5; have HMgo5 := Aside0.mk (show (P0_ go5 ∨ w.heap.size ≤ go5) from (HO_0.out.1 _ rfl)); obtain ⟨ce5, hcl5, hM5, hcc5, hfr5⟩ := Kd.R_elem HO_0.out z29 (x5_1 : Int) p5 q5; obtain rfl := k29_openM hM5; have hx5_0 : wr.cell? ⟨go5, (x5_1 : Int).toNat * 2, none⟩ = some (.int .i64 ((rd_T29 x0_1 x5_1).f0)) := hcc5 0 _ rfl; have hx5_1 : wr.cell? ⟨go5, (x5_1 : Int).toNat * 2 + 1, none⟩ = some (.bool ((rd_T29 x0_1 x5_1).f1)) := hcc5 1 _ rfl; have hf5_0 : wr.frozen? ⟨go5, (x5_1 : Int).toNat * 2, none⟩ = false := hfr5 0; have hf5_1 : wr.frozen? ⟨go5, (x5_1 : Int).toNat * 2 + 1, none⟩ = false := hfr5 1; clear hcl5 hcc5 hfr5 hM5; replace p5 := eq_true p5; replace q5 := eq_true q5; have HX8 := Aside0.mk (show Kd.R k29 29 wr w0.heap.size (fun k_ => (P0_ k_ ∨ w.heap.size ≤ k_)) (.slice (some ⟨go5, 0, none⟩) x0_1.length co7) x0_1 from (by (with_reducible repeat (first | apply Kd.R_alloc | apply Kd.R_drewN | apply Kd.R_drew)); exact HO_0.out)); obtain ⟨ce8, hcl8, hM8, hcc8, hfr8⟩ := Kd.R_elem HX8.out z29 (x5_1 : Int) (of_decide_eq_true (by first | (with_reducible assumption) | assumption)) (by have h_ : (x5_1 : Int) < ((x0_1.length : Int) : Int) := of_decide_eq_true (by first | (with_reducible assumption) | assumption); first | exact h_ | (have e_ := (Kd.R_reads' HO_0.out).1; omega) | simpa using h_); obtain rfl := k29_openM hM8; have HP8 := Kd.R_seg HX8.out (x5_1 : Int) (of_decide_eq_true (by first | (with_reducible assumption) | assumption)) (by have h_ : (x5_1 : Int) < ((x0_1.length : Int) : Int) := of_decide_eq_true (by first | (with_reducible assumption) | assumption); first | exact h_ | (have e_ := (Kd.R_reads' HO_0.out).1; omega) | simpa using h_) (seg := [.int .i64 x1_1]) (j := 0) hcl8 hcc8 (show 1 ≤ 2 from by decide) (x' := (⟨x1_1, (rd_T29 x0_1 x5_1).f1⟩ : S29)) (k29_mkM _ _ _ (⟨x1_1, (rd_T29 x0_1 x5_1).f1⟩ : S29) ) (fun _ hk => hk); have hx8_0 := hcc8 0 _ rfl; (try simp only [show (k29).sz = 2 from rfl, Nat.mul_one, Nat.add_zero] at hx8_0)
     have hf8_0 := hfr8 0; (try simp only [show (k29).sz = 2 from rfl, Nat.mul_one, Nat.add_zero] at hf8_0)
     clear hcl8 hcc8 hfr8 hM8; go_wp2_with (first | ((with_reducible refine gate_store (t := 3) (p := 16) rfl ?_); refine store_event (t := 3) (p := 16) (v := ?vo_w9) (w1 := (wr.setCell ⟨go5, (x5_1 : Int).toNat * 2, none⟩ (.int .i64 x1_1))) ?hg ?ho ?hn ?hr ?_; (case ho => rfl); (case hg => rfl); (case hn => rfl); (case hr => first | (go_simp; done) | (go_simp; rfl)); intro w9 hw; have hg : wr.grownBy w9 (some go5) := (by rw [hw]; exact HP8.2); have hp_ : Kd.R k29 29 w9 w0.heap.size (fun k_ => (P0_ k_ ∨ w.heap.size ≤ k_)) (.slice (some ⟨go5, 0, none⟩) x0_1.length co7) y116 := (by rw [hw, Ny116.out]; exact HP8.1); clear HP8; have n0_ := Aside0.mk (hp_); have n1_ := Aside0.mk ((by rw [hw]; exact below_set (HB.out) GB5.out : Below w0.heap.size w0 w9)); have n2_ := Aside0.mk (Kept.of_grown (S := (fun k_ => P0_ k_)) hg (by repeat (first | (with_reducible first | exact HK.out | apply Kept.alloc | apply Kept.drewN | apply Kept.drew) | exact HK.out)) (fun k_ e_ => (HO_0.out.1 k_ e_))); clear HO_0; clear HB; clear HK; have HO_0 := n0_; have HB := n1_; have HK := n2_; clear n0_ n1_ n2_; clear hg hw hp_; have p6 : 0 ≤ (x5_1 : Int) := of_decide_eq_true (by first | (with_reducible assumption) | assumption); have q6 : (x5_1 : Int) < ((x0_1.length : Int) : Int) := of_decide_eq_true (by first | (with_reducible assumption) | assumption); obtain ⟨ce6, hcl6, hM6, hcc6, hfr6⟩ := Kd.R_elem HO_0.out z29 (x5_1 : Int) p6 q6; obtain rfl := k29_openM hM6; have hx6_0 : w9.cell? ⟨go5, (x5_1 : Int).toNat * 2, none⟩ = some (.int .i64 ((rd_T29 y116 x5_1).f0)) := hcc6 0 _ rfl; have hx6_1 : w9.cell? ⟨go5, (x5_1 : Int).toNat * 2 + 1, none⟩ = some (.bool ((rd_T29 y116 x5_1).f1)) := hcc6 1 _ rfl; have hf6_0 : w9.frozen? ⟨go5, (x5_1 : Int).toNat * 2, none⟩ = false := hfr6 0; have hf6_1 : w9.frozen? ⟨go5, (x5_1 : Int).toNat * 2 + 1, none⟩ = false := hfr6 1; clear hcl6 hcc6 hfr6 hM6; replace p6 := eq_true p6; replace q6 := eq_true q6; have HX10 := Aside0.mk (show Kd.R k29 29 w9 w0.heap.size (fun k_ => (P0_ k_ ∨ w.heap.size ≤ k_)) (.slice (some ⟨go5, 0, none⟩) x0_1.length co7) y116 from (by (with_reducible repeat (first | apply Kd.R_alloc | apply Kd.R_drewN | apply Kd.R_drew)); exact HO_0.out)); obtain ⟨ce10, hcl10, hM10, hcc10, hfr10⟩ := Kd.R_elem HX10.out z29 (x5_1 : Int) (of_decide_eq_true (by first | (with_reducible assumption) | assumption)) (by have h_ : (x5_1 : Int) < ((x0_1.length : Int) : Int) := of_decide_eq_true (by first | (with_reducible assumption) | assumption); first | exact h_ | (have e_ := (Kd.R_reads' HO_0.out).1; omega) | simpa using h_); obtain rfl := k29_openM hM10; have HP10 := Kd.R_seg HX10.out (x5_1 : Int) (of_decide_eq_true (by first | (with_reducible assumption) | assumption)) (by have h_ : (x5_1 : Int) < ((x0_1.length : Int) : Int) := of_decide_eq_true (by first | (with_reducible assumption) | assumption); first | exact h_ | (have e_ := (Kd.R_reads' HO_0.out).1; omega) | simpa using h_) (seg := [.bool ((Int.tmod (wrap64 (x1_1 + 1)) 3) == 0)]) (j := 1) hcl10 hcc10 (show 2 ≤ 2 from by decide) (x' := (⟨(rd_T29 y116 x5_1).f0, ((Int.tmod (wrap64 (x1_1 + 1)) 3) == 0)⟩ : S29)) (k29_mkM _ _ _ (⟨(rd_T29 y116 x5_1).f0, ((Int.tmod (wrap64 (x1_1 + 1)) 3) == 0)⟩ : S29) ) (fun _ hk => hk); have hx10_1 := hcc10 1 _ rfl; (try simp only [show (k29).sz = 2 from rfl, Nat.mul_one, Nat.add_zero] at hx10_1); have hf10_1 := hfr10 1; (try simp only [show (k29).sz = 2 from rfl, Nat.mul_one, Nat.add_zero] at hf10_1); clear hcl10 hcc10 hfr10 hM10) | ((with_reducible refine gate_store (t := 4) (p := 25) rfl ?_); refine store_event (t := 4) (p := 25) (v := ?vo_w11) (w1 := (w9.setCell ⟨go5, (x5_1 : Int).toNat * 2 + 1, none⟩ (.bool ((Int.tmod (wrap64 (x1_1 + 1)) 3) == 0)))) ?hg ?ho ?hn ?hr ?_; (case ho => rfl); (case hg => rfl); (case hn => rfl); (case hr => first | (go_simp; done) | (go_simp; rfl)); intro w11 hw; have hg : w9.grownBy w11 (some go5) := (by rw [hw]; exact HP10.2); have hp_ : Kd.R k29 29 w11 w0.heap.size (fun k_ => (P0_ k_ ∨ w.heap.size ≤ k_)) (.slice (some ⟨go5, 0, none⟩) x0_1.length co7) y117 := (by rw [hw, Ny117.out]; exact HP10.1); clear HP10; have n0_ := Aside0.mk (hp_); have n1_ := Aside0.mk ((by rw [hw]; exact below_set (HB.out) GB5.out : Below w0.heap.size w0 w11)); have n2_ := Aside0.mk (Kept.of_grown (S := (fun k_ => P0_ k_)) hg (by repeat (first | (with_reducible first | exact HK.out | apply Kept.alloc | apply Kept.drewN | apply Kept.drew) | exact HK.out)) (fun k_ e_ => (HO_0.out.1 k_ e_))); clear HO_0; clear HB; clear HK; have HO_0 := n0_; have HB := n1_; have HK := n2_; clear n0_ n1_ n2_; clear hg hw hp_))
     go_roundg k1
     case measure => have := HK1.out; omega
     case rel => exact ⟨(y117), (wrap64 ((wrap64 (x1_1 + 1)) + 1)), (wrap64 (x5_1 + 1)), (by first | rfl | (simp; done) | (simp [*]; done)), (by first | rfl | (simp; done) | (simp [*]; done)), H', ⟨by have := HK1.out; omega⟩, ⟨by (with_reducible repeat (first | apply Kd.R_alloc | apply Kd.R_drewN | apply Kd.R_drew)); exact HO_0.out⟩, ⟨by repeat (first | (with_reducible first | exact HK.out | apply Kept.alloc | apply Kept.drewN | apply Kept.drew) | exact HK.out)⟩, ⟨by repeat (first | (with_reducible first | exact HB.out | apply below_alloc | apply pw_below_drewN | apply below_drew1) | exact HB.out)⟩⟩
    ·
     rw [if_neg c4] at H; exact absurd H (by simp)
   ·
    rw [if_neg c3] at H; have c3b0 : decide (x5_1 < (x0_1.length : Int)) = false := decide_eq_false c3; clear c3; simp only [Option.some.injEq, Prod.mk.injEq] at H; obtain ⟨rfl, rfl⟩ := H; obtain ⟨Ao12, co12, eo12⟩ := Kd.R_slice HO_0.out; subst eo12; go_wp2; go_ret
    exact ⟨by first | rfl | (simp [errW_none, errW_some] <;> rfl) | (simp [*, errW_none, errW_some] <;> rfl), by (with_reducible repeat (first | apply Kd.R_alloc | apply Kd.R_drewN | apply Kd.R_drew)); exact HO_0.out, by repeat (first | (with_reducible first | exact HB.out | apply below_alloc | apply pw_below_drewN | apply below_drew1) | exact HB.out), by repeat (first | (with_reducible first | exact HK.out | apply Kept.alloc | apply Kept.drewN | apply Kept.drew) | exact HK.out)⟩

end Go.Proofs.YthhnaplmjpacnaaDoor.PFnExactModeMoves
namespace Go.Proofs.YthhnaplmjpacnaaDoor.PFnExactModeMoves
open Go.RowKit Go.Proofs.YthhnaplmjpacnaaDoorW.PrintWords Go.Proofs.YthhnaplmjpacnaaDoorW.PrintLast Go.Proofs.YthhnaplmjpacnaaDoorW.PrintMore
attribute [local go_sem] max2_int min2_int max_two min_two max_three min_three max_four min_four   -- for this text's walks alone
set_option linter.unusedVariables false
set_option linter.unusedSimpArgs false

def laws_eqIntS.l0 : Nat → List Int → List Int → Int → Option (Bool)
 | 0, _, _, _ => none
 | k + 1, x0, x1, x5 => if x5 < (x0.length : Int) then (if 0 ≤ x5 then (if x5 < (x1.length : Int) then (if (rd x0 x5) = (rd x1 x5) then (laws_eqIntS.l0 k x0 x1 (wrap64 (x5 + 1))) else (some false)) else (none)) else (none)) else (some true)
def laws_eqIntS.f (k : Nat) (l0 : List Int) (l1 : List Int) : Option (Bool) := if (l0.length : Int) = (l1.length : Int) then (laws_eqIntS.l0 k l0 l1 0) else (some false)
set_option maxHeartbeats 8000000 in
set_option maxRecDepth 100000 in
theorem laws_eqIntS.calls (k : Nat) (A0 : Option Addr) (c0 : Nat) (l0 : List Int) (A1 : Option Addr) (c1 : Nat) (l1 : List Int) (r : Bool) (w : World) (hr0 : Kd.C (Kd.int .i64) w A0 l0.length l0) (hc0 : l0.length ≤ c0) (hr1 : Kd.C (Kd.int .i64) w A1 l1.length l1) (hc1 : l1.length ≤ c1) (h : laws_eqIntS.f k l0 l1 = some r) :
 Calls Tryd.prog 43 #[.slice A0 l0.length c0, .slice A1 l1.length c1] w fun e w' => e = .returned (.bool r) ∧ Drawn0 w w' := by
 have HR0 := Aside0.mk hr0; have HC0 := Aside0.mk hc0; clear hr0 hc0; have HR1 := Aside0.mk hr1; have HC1 := Aside0.mk hc1; clear hr1 hc1; have H : (if (l0.length : Int) = (l1.length : Int) then (laws_eqIntS.l0 k l0 l1 0) else (some false)) = some r := h; clear h; by_cases c3 : (l0.length : Int) = (l1.length : Int)
 ·
  rw [if_pos c3] at H; have c3b0 : ((l0.length : Int) == (l1.length : Int)) = true := beq_iff_eq.mpr c3; have c3b1 : ((l0.length : Int) != (l1.length : Int)) = false := bne_eq_false_iff_eq.mpr c3; have c3b2 : (l0.length == l1.length) = true := by first | simpa using c3 | (simp at c3 ⊢; omega)
  clear c3; have H' := Aside0.mk H; clear H; go_enter Tryd.func43, Tryd.ntmps43
  go_wp2; repeat (go_quiet (fail); try go_wp2)
  go_loopg [5] k (fun kq v5 w' => ∃ (x5_1 : Int), v5 = .int .i64 x5_1 ∧ Aside0 (laws_eqIntS.l0 kq l0 l1 x5_1 = some r) ∧ Aside0 (kq ≤ k) ∧ Drawn0 w w')
  case atStart => exact ⟨(0), (by first | rfl | (simp; done) | (simp [*]; done)), H', ⟨Nat.le_refl _⟩, by repeat (first | exact Drawn0.refl _ | apply Drawn0.step)⟩
  case round =>
   clear H'; try clear c1
   try clear p2
   try clear c3
   try clear c3b0
   try clear c3b1
   try clear c3b2
   obtain ⟨x5_1, rfl, HA, HK1, ⟨m1, rfl⟩⟩ := hrel; cases gk with
   | zero => exact absurd HA.out (by simp [laws_eqIntS.l0])
   | succ k1 =>
    have H := HA.out; clear HA; simp only [laws_eqIntS.l0] at H; by_cases c4 : x5_1 < (l0.length : Int)
    ·
     rw [if_pos c4] at H; have c4b0 : decide (x5_1 < (l0.length : Int)) = true := decide_eq_true c4; clear c4; by_cases c5 : 0 ≤ x5_1
     ·
      rw [if_pos c5] at H; have c5b0 : decide (0 ≤ x5_1) = true := decide_eq_true c5; clear c5; by_cases c6 : x5_1 < (l1.length : Int)
      ·
       rw [if_pos c6] at H; have c6b0 : decide (x5_1 < (l1.length : Int)) = true := decide_eq_true c6; clear c6; by_cases c7 : (rd l0 x5_1) = (rd l1 x5_1)
       ·
        rw [if_pos c7] at H; have c7b0 : ((rd l0 x5_1) == (rd l1 x5_1)) = true := beq_iff_eq.mpr c7; have c7b1 : ((rd l0 x5_1) != (rd l1 x5_1)) = false := bne_eq_false_iff_eq.mpr c7; clear c7; have H' := Aside0.mk H; clear H; have p229 : 0 ≤ (x5_1 : Int) := of_decide_eq_true (by first | (with_reducible assumption) | assumption); have q229 : x5_1 < (l0.length : Int) := of_decide_eq_true (by first | (with_reducible assumption) | assumption); obtain ⟨ad229, e229, hx229_0⟩ := Kd.at_int HR0.out x5_1 p229 q229; cases e229; replace p229 := eq_true p229; replace q229 := eq_true q229; have p230 : 0 ≤ (x5_1 : Int) := of_decide_eq_true (by first | (with_reducible assumption) | assumption); have q230 : x5_1 < (l1.length : Int) := of_decide_eq_true (by first | (with_reducible assumption) | assumption); obtain ⟨ad230, e230, hx230_0⟩ := Kd.at_int HR1.out x5_1 p230 q230; cases e230; replace p230 := eq_true p230; replace q230 := eq_true q230; go_wp2; repeat (go_quiet (fail); try go_wp2)
        go_roundg k1
        case measure => have := HK1.out; omega
        case rel => exact ⟨(wrap64 (x5_1 + 1)), (by first | rfl | (simp; done) | (simp [*]; done)), H', ⟨by have := HK1.out; omega⟩, by repeat (first | exact Drawn0.refl _ | apply Drawn0.step)⟩
       ·
        rw [if_neg c7] at H; have c7b0 : ((rd l0 x5_1) == (rd l1 x5_1)) = false := beq_eq_false_iff_ne.mpr c7; have c7b1 : ((rd l0 x5_1) != (rd l1 x5_1)) = true := bne_iff_ne.mpr c7; obtain rfl := Option.some.inj H; have p229 : 0 ≤ (x5_1 : Int) := of_decide_eq_true (by first | (with_reducible assumption) | assumption); have q229 : x5_1 < (l0.length : Int) := of_decide_eq_true (by first | (with_reducible assumption) | assumption); obtain ⟨ad229, e229, hx229_0⟩ := Kd.at_int HR0.out x5_1 p229 q229; cases e229; replace p229 := eq_true p229; replace q229 := eq_true q229; have p230 : 0 ≤ (x5_1 : Int) := of_decide_eq_true (by first | (with_reducible assumption) | assumption); have q230 : x5_1 < (l1.length : Int) := of_decide_eq_true (by first | (with_reducible assumption) | assumption); obtain ⟨ad230, e230, hx230_0⟩ := Kd.at_int HR1.out x5_1 p230 q230; cases e230; replace p230 := eq_true p230; replace q230 := eq_true q230; go_wp2; repeat (go_quiet (fail); try go_wp2)
        go_ret
        exact ⟨by first | rfl | (simp; done) | (simp [*]; done), by repeat (first | exact Drawn0.refl _ | apply Drawn0.step)⟩
      ·
       rw [if_neg c6] at H; exact absurd H (by simp)
     ·
      rw [if_neg c5] at H; exact absurd H (by simp)
    ·
     rw [if_neg c4] at H; have c4b0 : decide (x5_1 < (l0.length : Int)) = false := decide_eq_false c4; clear c4; obtain rfl := Option.some.inj H; go_wp2; repeat (go_quiet (fail); try go_wp2)
     go_ret
     exact ⟨by first | rfl | (simp; done) | (simp [*]; done), by repeat (first | exact Drawn0.refl _ | apply Drawn0.step)⟩
 ·
  rw [if_neg c3] at H; have c3b0 : ((l0.length : Int) == (l1.length : Int)) = false := beq_eq_false_iff_ne.mpr c3; have c3b1 : ((l0.length : Int) != (l1.length : Int)) = true := bne_iff_ne.mpr c3; have c3b2 : (l0.length == l1.length) = false := by first | simpa using c3 | (simp at c3 ⊢; omega)
  obtain rfl := Option.some.inj H; go_enter Tryd.func43, Tryd.ntmps43
  go_wp2; repeat (go_quiet (fail); try go_wp2)
  go_ret
  exact ⟨by first | rfl | (simp; done) | (simp [*]; done), by repeat (first | exact Drawn0.refl _ | apply Drawn0.step)⟩

end Go.Proofs.YthhnaplmjpacnaaDoor.PFnExactModeMoves
namespace Go.Proofs.YthhnaplmjpacnaaDoor.PFnExactModeMoves
open Go.RowKit Go.Proofs.YthhnaplmjpacnaaDoorW.PrintWords Go.Proofs.YthhnaplmjpacnaaDoorW.PrintLast Go.Proofs.YthhnaplmjpacnaaDoorW.PrintMore
attribute [local go_sem] max2_int min2_int max_two min_two max_three min_three max_four min_four   -- for this text's walks alone
set_option linter.unusedVariables false
set_option linter.unusedSimpArgs false

def laws_markIntS.l0 : Nat → List Int → Int → Int → Option (Int × List Int)
 | 0, _, _, _ => none
 | k + 1, x0, x1, x5 => if x5 < (x0.length : Int) then (if 0 ≤ x5 then (laws_markIntS.l0 k (x0.set (x5 : Int).toNat x1) (wrap64 (x1 + 1)) (wrap64 (x5 + 1))) else (none)) else (some (x1, x0))
def laws_markIntS.f (k : Nat) (l0 : List Int) (a1 : Int) : Option (Int × List Int) := laws_markIntS.l0 k l0 a1 0
set_option maxHeartbeats 8000000 in
set_option maxRecDepth 100000 in
theorem laws_markIntS.calls (k : Nat) (P0_ : Nat → Prop) (u9000_ : Value) (l0 : List Int) (a1 : Int) (r1 : Int) (r2 : List Int) (w0 w : World) (hB : Below w0.heap.size w0 w) (ho0 : Kd.R (Kd.int .i64) 3 w w0.heap.size P0_ u9000_ l0) (h : laws_markIntS.f k l0 a1 = some (r1, r2)) :
 Calls Tryd.prog 44 #[u9000_, .int .i64 a1] w fun e w' => e = .returned (.int .i64 r1) ∧ Kd.R (Kd.int .i64) 3 w' w0.heap.size (fun k_ => (P0_ k_ ∨ w.heap.size ≤ k_)) u9000_ r2 ∧ Below w0.heap.size w0 w' ∧ Kept w w' (fun k_ => P0_ k_) := by
 have HO0 := Aside0.mk (show Kd.R (Kd.int .i64) 3 w w0.heap.size (fun k_ => (P0_ k_ ∨ w.heap.size ≤ k_)) u9000_ l0 from Kd.R_mono ho0 (fun k_ hk => (.inl hk))); have HK := Aside0.mk (Kept.refl w (fun k_ => P0_ k_)); have HW0 := Aside0.mk hB.size; have HB := Aside0.mk hB; clear hB; have H : (laws_markIntS.l0 k l0 a1 0) = some (r1, r2) := h; clear h; have H' := Aside0.mk H; clear H; go_enter Tryd.func44, Tryd.ntmps44
 go_wp2; go_loopg [1, 5] k (fun kq v1 v5 w' => ∃ (x0_1 : List Int) (x1_1 : Int) (x5_1 : Int), v1 = .int .i64 x1_1 ∧ v5 = .int .i64 x5_1 ∧ Aside0 (laws_markIntS.l0 kq x0_1 x1_1 x5_1 = some (r1, r2)) ∧ Aside0 (kq ≤ k) ∧ Aside0 (Kd.R (Kd.int .i64) 3 w' w0.heap.size (fun k_ => (P0_ k_ ∨ w.heap.size ≤ k_)) u9000_ x0_1) ∧ Aside0 (Kept w w' (fun k_ => P0_ k_)) ∧ Aside0 (Below w0.heap.size w0 w'))
 case atStart => exact ⟨(l0), (a1), (0), (by first | rfl | (simp; done) | (simp [*]; done)), (by first | rfl | (simp; done) | (simp [*]; done)), H', ⟨Nat.le_refl _⟩, ⟨by (with_reducible repeat (first | apply Kd.R_alloc | apply Kd.R_drewN | apply Kd.R_drew)); exact HO0.out⟩, ⟨by repeat (first | (with_reducible first | exact HK.out | apply Kept.alloc | apply Kept.drewN | apply Kept.drew) | exact HK.out)⟩, ⟨by repeat (first | (with_reducible first | exact HB.out | apply below_alloc | apply pw_below_drewN | apply below_drew1) | exact HB.out)⟩⟩
 case round =>
  clear H'; try clear p2
  obtain ⟨x0_1, x1_1, x5_1, rfl, rfl, HA, HK1, HO_0, HK, HB⟩ := hrel; cases gk with
  | zero => exact absurd HA.out (by simp [laws_markIntS.l0])
  | succ k1 =>
   have H := HA.out; clear HA; simp only [laws_markIntS.l0] at H; by_cases c3 : x5_1 < (x0_1.length : Int)
   ·
    rw [if_pos c3] at H; have c3b0 : decide (x5_1 < (x0_1.length : Int)) = true := decide_eq_true c3; clear c3; by_cases c4 : 0 ≤ x5_1
    ·
     rw [if_pos c4] at H; have c4b0 : decide (0 ≤ x5_1) = true := decide_eq_true c4; clear c4; obtain ⟨y231, hy231⟩ : ∃ y_ : List Int, y_ = (x0_1.set (x5_1 : Int).toNat x1_1) := ⟨_, rfl⟩
     replace H : (laws_markIntS.l0 k1 y231 (wrap64 (x1_1 + 1)) (wrap64 (x5_1 + 1))) = some (r1, r2) := by first | (rw [hy231]; with_reducible exact H) | (have H2_ := (Option.bind_some _ _).symm.trans H; rw [hy231]; with_reducible exact H2_) | (have H2_ := (Option.bind_some _ _).symm.trans H; with_reducible exact H2_) | with_reducible exact H | (rw [hy231]; exact H) | exact H
     have Ny231 := Aside0.mk hy231; clear hy231; have H' := Aside0.mk H; clear H; obtain ⟨Ao6, co6, eo6⟩ := Kd.R_slice HO_0.out; subst eo6; have p5 : 0 ≤ (x5_1 : Int) := of_decide_eq_true (by first | (with_reducible assumption) | assumption); have q5 : (x5_1 : Int) < ((x0_1.length : Int) : Int) := of_decide_eq_true (by first | (with_reducible assumption) | assumption); obtain ⟨go5, co5, eo5, gb5, gl5, cl5, HG5⟩ := Kd.R_form HO_0.out (by omega); (first | cases eo5 | (injection eo5 with ea_ en_ ec_; (first | subst ea_ | (injection ea_ with ea_; subst ea_)); subst ec_; clear en_))
     have GB5 := Aside0.mk gb5; have GG5 := Aside0.mk HG5; clear gb5 gl5 HG5; have HMgo5 := Aside0.mk (show (P0_ go5 ∨ w.heap.size ≤ go5) from (HO_0.out.1 _ rfl)); obtain ⟨hx5_0, hf5_0⟩ := Kd.R_celln 0 HO_0.out (x5_1 : Int) p5 q5; replace p5 := eq_true p5; replace q5 := eq_true q5; have HP7 := Kd.R_putg HO_0.out (x5_1 : Int) x1_1; go_wp2_with (first | ((with_reducible refine gate_store (t := 3) (p := 15) rfl ?_); refine store_event (t := 3) (p := 15) (v := ?vo_w8) (w1 := (wr.setCell ⟨go5, (x5_1 : Int).toNat, none⟩ (.int .i64 x1_1))) ?hg ?ho ?hn ?hr ?_; (case ho => rfl); (case hg => rfl); (case hn => rfl); (case hr => first | (go_simp; done) | (go_simp; rfl)); intro w8 hw; have hg : wr.grownBy w8 (some go5) := (by rw [hw]; exact HP7.2); have hp_ : Kd.R (Kd.int .i64) 3 w8 w0.heap.size (fun k_ => (P0_ k_ ∨ w.heap.size ≤ k_)) (.slice (some ⟨go5, 0, none⟩) x0_1.length co6) y231 := (by rw [hw, Ny231.out]; exact HP7.1); clear HP7; have n0_ := Aside0.mk (hp_); have n1_ := Aside0.mk ((by rw [hw]; exact below_set (HB.out) GB5.out : Below w0.heap.size w0 w8)); have n2_ := Aside0.mk (Kept.of_grown (S := (fun k_ => P0_ k_)) hg (by repeat (first | (with_reducible first | exact HK.out | apply Kept.alloc | apply Kept.drewN | apply Kept.drew) | exact HK.out)) (fun k_ e_ => (HO_0.out.1 k_ e_))); clear HO_0; clear HB; clear HK; have HO_0 := n0_; have HB := n1_; have HK := n2_; clear n0_ n1_ n2_; clear hg hw hp_))
     go_roundg k1
     case measure => have := HK1.out; omega
     case rel => exact ⟨(y231), (wrap64 (x1_1 + 1)), (wrap64 (x5_1 + 1)), (by first | rfl | (simp; done) | (simp [*]; done)), (by first | rfl | (simp; done) | (simp [*]; done)), H', ⟨by have := HK1.out; omega⟩, ⟨by (with_reducible repeat (first | apply Kd.R_alloc | apply Kd.R_drewN | apply Kd.R_drew)); exact HO_0.out⟩, ⟨by repeat (first | (with_reducible first | exact HK.out | apply Kept.alloc | apply Kept.drewN | apply Kept.drew) | exact HK.out)⟩, ⟨by repeat (first | (with_reducible first | exact HB.out | apply below_alloc | apply pw_below_drewN | apply below_drew1) | exact HB.out)⟩⟩
    ·
     rw [if_neg c4] at H; exact absurd H (by simp)
   ·
    rw [if_neg c3] at H; have c3b0 : decide (x5_1 < (x0_1.length : Int)) = false := decide_eq_false c3; clear c3; simp only [Option.some.injEq, Prod.mk.injEq] at H; obtain ⟨rfl, rfl⟩ := H; obtain ⟨Ao9, co9, eo9⟩ := Kd.R_slice HO_0.out; subst eo9; go_wp2; go_ret
    exact ⟨by first | rfl | (simp [errW_none, errW_some] <;> rfl) | (simp [*, errW_none, errW_some] <;> rfl), by (with_reducible repeat (first | apply Kd.R_alloc | apply Kd.R_drewN | apply Kd.R_drew)); exact HO_0.out, by repeat (first | (with_reducible first | exact HB.out | apply below_alloc | apply pw_below_drewN | apply below_drew1) | exact HB.out), by repeat (first | (with_reducible first | exact HK.out | apply Kept.alloc | apply Kept.drewN | apply Kept.drew) | exact HK.out)⟩

end Go.Proofs.YthhnaplmjpacnaaDoor.PFnExactModeMoves
namespace Go.Proofs.YthhnaplmjpacnaaDoor.PFnExactModeMoves
open Go.RowKit Go.Proofs.YthhnaplmjpacnaaDoorW.PrintWords Go.Proofs.YthhnaplmjpacnaaDoorW.PrintLast Go.Proofs.YthhnaplmjpacnaaDoorW.PrintMore
attribute [local go_sem] max2_int min2_int max_two min_two max_three min_three max_four min_four   -- for this text's walks alone
set_option linter.unusedVariables false
set_option linter.unusedSimpArgs false

def laws_heldIntS.l0 : Nat → List Int → Int → Int → Option (Int)
 | 0, _, _, _ => none
 | k + 1, x0, x1, x5 => if x5 < (x0.length : Int) then (if 0 ≤ x5 then (if (rd x0 x5) = x1 then (laws_heldIntS.l0 k x0 (wrap64 (x1 + 1)) (wrap64 (x5 + 1))) else (some (-1))) else (none)) else (some x1)
def laws_heldIntS.f (k : Nat) (l0 : List Int) (a1 : Int) : Option (Int) := laws_heldIntS.l0 k l0 a1 0
set_option maxHeartbeats 8000000 in
set_option maxRecDepth 100000 in
theorem laws_heldIntS.calls (k : Nat) (A0 : Option Addr) (c0 : Nat) (l0 : List Int) (a1 : Int) (r : Int) (w : World) (hr0 : Kd.C (Kd.int .i64) w A0 l0.length l0) (hc0 : l0.length ≤ c0) (h : laws_heldIntS.f k l0 a1 = some r) :
 Calls Tryd.prog 45 #[.slice A0 l0.length c0, .int .i64 a1] w fun e w' => e = .returned (.int .i64 r) ∧ Drawn0 w w' := by
 have HR0 := Aside0.mk hr0; have HC0 := Aside0.mk hc0; clear hr0 hc0; have H : (laws_heldIntS.l0 k l0 a1 0) = some r := h; clear h; have H' := Aside0.mk H; clear H; go_enter Tryd.func45, Tryd.ntmps45
 go_wp2; go_loopg [1, 5] k (fun kq v1 v5 w' => ∃ (x1_1 : Int) (x5_1 : Int), v1 = .int .i64 x1_1 ∧ v5 = .int .i64 x5_1 ∧ Aside0 (laws_heldIntS.l0 kq l0 x1_1 x5_1 = some r) ∧ Aside0 (kq ≤ k) ∧ Drawn0 w w')
 case atStart => exact ⟨(a1), (0), (by first | rfl | (simp; done) | (simp [*]; done)), (by first | rfl | (simp; done) | (simp [*]; done)), H', ⟨Nat.le_refl _⟩, by repeat (first | exact Drawn0.refl _ | apply Drawn0.step)⟩
 case round =>
  clear H'; try clear p2
  obtain ⟨x1_1, x5_1, rfl, rfl, HA, HK1, ⟨m1, rfl⟩⟩ := hrel; cases gk with
  | zero => exact absurd HA.out (by simp [laws_heldIntS.l0])
  | succ k1 =>
   have H := HA.out; clear HA; simp only [laws_heldIntS.l0] at H; by_cases c3 : x5_1 < (l0.length : Int)
   ·
    rw [if_pos c3] at H; have c3b0 : decide (x5_1 < (l0.length : Int)) = true := decide_eq_true c3; clear c3; by_cases c4 : 0 ≤ x5_1
    ·
     rw [if_pos c4] at H; have c4b0 : decide (0 ≤ x5_1) = true := decide_eq_true c4; clear c4; by_cases c5 : (rd l0 x5_1) = x1_1
     ·
      rw [if_pos c5] at H; have c5b0 : ((rd l0 x5_1) == x1_1) = true := beq_iff_eq.mpr c5; have c5b1 : ((rd l0 x5_1) != x1_1) = false := bne_eq_false_iff_eq.mpr c5; clear c5; have H' := Aside0.mk H; clear H; have p232 : 0 ≤ (x5_1 : Int) := of_decide_eq_true (by first | (with_reducible assumption) | assumption); have q232 : x5_1 < (l0.length : Int) := of_decide_eq_true (by first | (with_reducible assumption) | assumption); obtain ⟨ad232, e232, hx232_0⟩ := Kd.at_int HR0.out x5_1 p232 q232; cases e232; replace p232 := eq_true p232; replace q232 := eq_true q232; go_wp2; go_roundg k1
      case measure => have := HK1.out; omega
      case rel => exact ⟨(wrap64 (x1_1 + 1)), (wrap64 (x5_1 + 1)), (by first | rfl | (simp; done) | (simp [*]; done)), (by first | rfl | (simp; done) | (simp [*]; done)), H', ⟨by have := HK1.out; omega⟩, by repeat (first | exact Drawn0.refl _ | apply Drawn0.step)⟩
     ·
      rw [if_neg c5] at H; have c5b0 : ((rd l0 x5_1) == x1_1) = false := beq_eq_false_iff_ne.mpr c5; have c5b1 : ((rd l0 x5_1) != x1_1) = true := bne_iff_ne.mpr c5; obtain rfl := Option.some.inj H; have p232 : 0 ≤ (x5_1 : Int) := of_decide_eq_true (by first | (with_reducible assumption) | assumption); have q232 : x5_1 < (l0.length : Int) := of_decide_eq_true (by first | (with_reducible assumption) | assumption); obtain ⟨ad232, e232, hx232_0⟩ := Kd.at_int HR0.out x5_1 p232 q232; cases e232; replace p232 := eq_true p232; replace q232 := eq_true q232; go_wp2; go_ret
      exact ⟨by first | rfl | (simp; done) | (simp [*]; done), by repeat (first | exact Drawn0.refl _ | apply Drawn0.step)⟩
    ·
     rw [if_neg c4] at H; exact absurd H (by simp)
   ·
    rw [if_neg c3] at H; have c3b0 : decide (x5_1 < (l0.length : Int)) = false := decide_eq_false c3; clear c3; obtain rfl := Option.some.inj H; go_wp2; go_ret
    exact ⟨by first | rfl | (simp; done) | (simp [*]; done), by repeat (first | exact Drawn0.refl _ | apply Drawn0.step)⟩

end Go.Proofs.YthhnaplmjpacnaaDoor.PFnExactModeMoves
namespace Go.Proofs.YthhnaplmjpacnaaDoor.Pure
set_option linter.unusedVariables false
set_option linter.unusedSimpArgs false
open Go Go.RowKit Go.Proofs.YthhnaplmjpacnaaDoor.PFnExactModeMoves Go.Proofs.YthhnaplmjpacnaaDoorW.PrintWords Go.Proofs.YthhnaplmjpacnaaDoorW.PrintLast Go.Proofs.YthhnaplmjpacnaaDoorW.PrintMore

def Own {α : Type} (d : Kd α) (e : Nat) (W : World) (B a b : Nat) (v : Value) (xs : List α) : Prop := d.R e W B (fun k => a ≤ k ∧ k < b) v xs
section
variable {α : Type} {d : Kd α} {e : Nat} {W W' w0 : World} {B a b n c : Nat} {v : Value} {A : Option Addr} {xs ys : List α} {S : Nat → Prop}
theorem Own.make (h : d.R e W' W.heap.size (fun _ => True) v xs) (hB : B ≤ W.heap.size) : Own d e W' B W.heap.size W'.heap.size v xs := Kd.R_lower (Kd.R_mono (Kd.R_bound h) (fun k hk => ⟨hk.2.1, hk.2.2.1⟩)) hB
theorem Own.below (h : Own d e W B a b v xs) (hb : Below W.heap.size W W') : Own d e W' B a b v xs := Kd.R_below h hb
theorem Own.kept (h : Own d e W B a b v xs) (hk : Kept W W' S) (hS : ∀ k, a ≤ k → k < b → ¬ S k) : Own d e W' B a b v xs := Kd.R_kept h hk (fun k hk => hS k hk.1 hk.2)
theorem Own.C (h : Own d e W B a b (.slice A xs.length c) xs) : d.C W A xs.length xs := (Kd.R_reads' h).2.2
theorem Own.cap (h : Own d e W B a b (.slice A n c) xs) : n ≤ c := (Kd.R_reads' h).2.1
/-- What is back from a call that wrote the row. -/
theorem Own.back (hs : d.E = []) (h : Own d e W B a b v xs) (hr : d.R e W' B (fun k => (a ≤ k ∧ k < b) ∨ W.heap.size ≤ k) v ys) : Own d e W' B a b v ys := Kd.R_reok hs hr (fun k hk => h.1 k hk)
end
section
variable {α : Type} {d : Kd α} {e : Nat} {W W' w0 : World} {B a b n c : Nat} {v : Value} {A : Option Addr} {xs ys : List α} {S : Nat → Prop}
end

def convTone (x : S47) : S29 := ⟨x.f0, x.f1⟩
theorem szToneS_eq (l : List S47) (left : Int) (h0 : 0 ≤ left) (h1 : left ≤ 1000000000000) (hl : (l.length : Int) ≤ 9223372036854775807) : laws_szToneS.f l left = some (if left - (l.length : Int) < 0 then -1 else left - (l.length : Int)) := by
 unfold laws_szToneS.f
 rw [w64 (by omega) (by omega)]
 split <;> rfl
theorem toToneS_ev (l : List S47) (hl : l.length ≤ 1000000000000) : Ev (fun k => laws_toToneS.f k l) (l.map convTone) := by
 unfold laws_toToneS.f
 refine Ev.pos (by omega) (Ev.pos (by simp; omega) ?_)
 have := Ev.over z47 l (fun k (s : List S29) i => laws_toToneS.l0 k l s i) (fun s rest => s.take (l.length - rest.length) ++ rest.map convTone) (fun _ s => s.length = l.length) (by
  intro s hs
  refine Ev.succ ?_
  simp only [laws_toToneS.l0]
  refine Ev.eqr (Ev.neg (by omega) (Ev.now _)) ?_
  simp [← hs]) (by
  intro s i rest hs hi hdr ih
  have hrl : rest.length + 1 + i = l.length := by
   have := congrArg List.length hdr
   simp at this; omega
  refine Ev.succ ?_
  simp only [laws_toToneS.l0]
  refine Ev.pos (by omega) (Ev.pos (by omega) (Ev.conb (a := ((rd_T47 l i).f0, (rd_T47 l i).f1)) rfl (Ev.pos (by omega) ?_)))
  rw [w64 (by omega) (by omega)]
  refine Ev.eqr (ih _ (by simpa using hs)) ?_
  have e1 : l.length - rest.length = i + 1 := by omega
  have e2 : l.length - (l.getD i z47 :: rest).length = i := by simp; omega
  rw [e1, e2]
  simp only [Int.toNat_natCast, List.map_cons]
  rw [List.take_set, List.take_succ_eq_append_getElem (by omega), List.set_append_right _ _ (by simp; omega)]
  have e3 : i - (s.take i).length = 0 := by simp; omega
  rw [e3]
  simp [convTone, rd_T47]) 0 (List.replicate l.length z29) (Nat.zero_le _) (by simp)
 simpa using this
theorem eqToneS_ev (l : List S29) (hl : l.length ≤ 1000000000000000) : Ev (fun k => laws_eqToneS.f k l l) true := by
 unfold laws_eqToneS.f
 refine Ev.pos rfl ?_
 have := Ev.over z29 l (fun k (_ : Unit) i => laws_eqToneS.l0 k l l i) (fun _ _ => true) (fun _ _ => True) (by
  intro s _
  refine Ev.succ ?_
  simp only [laws_eqToneS.l0]
  exact Ev.neg (by omega) (Ev.now _)) (by
  intro s i rest _ hi _ ih
  refine Ev.succ ?_
  simp only [laws_eqToneS.l0]
  refine Ev.pos (by omega) (Ev.pos (by omega) (Ev.pos (by omega) (Ev.conb (a := true) (by simp [laws_eqTone.f]) (Ev.pos rfl ?_))))
  rw [w64 (by omega) (by omega)]
  exact ih () trivial) 0 () (Nat.zero_le _) trivial
 simpa using this
def markTone : Nat → Int → List S29
 | 0, _ => []
 | n + 1, a => ⟨a, Int.tmod (a + 1) 3 == 0⟩ :: markTone n (a + 2)
theorem markToneS_ev (l : List S29) (a : Int) (ha : 0 ≤ a) (ha' : a ≤ 1000000000000000) (hl : l.length ≤ 1000000000000000) : Ev (fun k => laws_markToneS.f k l a) (a + 2 * l.length, markTone l.length a) := by
 unfold laws_markToneS.f
 have := Ev.over z29 l (fun k (s : List S29 × Int) i => laws_markToneS.l0 k s.1 s.2 i) (fun s rest => (s.2 + 2 * (rest.length : Int), s.1.take (l.length - rest.length) ++ markTone rest.length s.2)) (fun i s => s.1.length = l.length ∧ s.2 = a + 2 * i) (by
  intro s hs
  refine Ev.succ ?_
  simp only [laws_markToneS.l0]
  refine Ev.eqr (Ev.neg (by omega) (Ev.now _)) ?_
  simp [← hs.1, markTone]) (by
  intro s i rest hs hi hdr ih
  have hrl : rest.length + 1 + i = l.length := by
   have := congrArg List.length hdr
   simp at this; omega
  refine Ev.succ ?_
  simp only [laws_markToneS.l0]
  refine Ev.pos (by omega) (Ev.pos (by omega) (Ev.someb ?_))
  have h2 := hs.2
  rw [w64 (x := s.2 + 1) (by omega) (by omega), w64 (x := s.2 + 1 + 1) (by omega) (by omega), w64 (by omega) (by omega)]
  refine Ev.eqr (ih (_, s.2 + 1 + 1) ⟨by simpa using hs.1, by simp only []; omega⟩) ?_
  have e1 : l.length - rest.length = i + 1 := by omega
  have e2 : l.length - (l.getD i z29 :: rest).length = i := by simp; omega
  rw [e1, e2]
  simp only [Int.toNat_natCast, List.length_cons, markTone, List.set_set]
  refine Prod.ext (by simp only []; omega) ?_
  simp only []
  rw [List.take_set, List.take_succ_eq_append_getElem (by omega), List.set_append_right _ _ (by simp; omega)]
  have e3 : i - (s.1.take i).length = 0 := by simp; omega
  have e4 : s.2 + 1 + 1 = s.2 + 2 := by omega
  have e5 : (rd_T29 (s.1.set i ⟨s.2, (rd_T29 s.1 i).f1⟩) i).f0 = s.2 := by
   simp [rd_T29, List.getD_eq_getElem?_getD, List.getElem?_set_self (show i < s.1.length by omega)]
  rw [e3, e4, e5]
  simp) 0 (l, a) (Nat.zero_le _) ⟨rfl, by simp⟩
 simpa using this
theorem ToneS_sz (l : List S47) (left : Int) (A : Option Addr) (c : Nat) (w : World) (h0 : 0 ≤ left) (h1 : left ≤ 1000000000000) (hl : (l.length : Int) ≤ 9223372036854775807) (hr : Kd.C k47 w A l.length l) (hc : l.length ≤ c) :
 Calls Tryd.prog 18 #[.slice A l.length c, .int .i64 left] w fun e w' => ∃ r, e = .returned (.int .i64 r) ∧ (r = if left - (l.length : Int) < 0 then -1 else left - (l.length : Int)) ∧ Below w.heap.size w w' := by
 refine (laws_szToneS.calls A c l left _ w hr hc (szToneS_eq l left h0 h1 hl)).mono ?_
 rintro e w' ⟨rfl, hd⟩
 exact ⟨_, rfl, rfl, hd.below⟩
theorem ToneS_to (l : List S47) (A : Option Addr) (c : Nat) (w : World) (hl : l.length ≤ 1000000000000) (hr : Kd.C k47 w A l.length l) (hc : l.length ≤ c) :
 Calls Tryd.prog 20 #[.slice A l.length c] w fun e w' => ∃ v, e = .returned v ∧ Kd.R k29 29 w' w.heap.size (fun _ => True) v (l.map convTone) ∧ Below w.heap.size w w' := by
 obtain ⟨k, h⟩ := Ev.rounds (toToneS_ev l hl)
 exact (laws_toToneS.calls k A c l _ w hr hc h).mono (fun e w' h => h)
theorem ToneS_eq (l : List S29) (A0 A1 : Option Addr) (c0 c1 : Nat) (w : World) (hl : l.length ≤ 1000000000000) (hr0 : Kd.C k29 w A0 l.length l) (hc0 : l.length ≤ c0) (hr1 : Kd.C k29 w A1 l.length l) (hc1 : l.length ≤ c1) :
 Calls Tryd.prog 22 #[.slice A0 l.length c0, .slice A1 l.length c1] w fun e w' => e = .returned (.bool true) ∧ Below w.heap.size w w' := by
 obtain ⟨k, h⟩ := Ev.rounds (eqToneS_ev l (by omega))
 exact (laws_eqToneS.calls k A0 c0 l A1 c1 l true w hr0 hc0 hr1 hc1 h).mono (fun e w' h => h)
theorem ToneS_mark (l : List S29) (a : Int) (s t : Nat) (v : Value) (w0 w : World) (ha : 0 ≤ a) (ha' : a ≤ 1000000000000) (hl : l.length ≤ 1000000000000) (hB : Below w0.heap.size w0 w) (ho : Own k29 29 w w0.heap.size s t v l) :
 Calls Tryd.prog 23 #[v, .int .i64 a] w fun e w' => ∃ r, e = .returned (.int .i64 r) ∧ r = a + 2 * (l.length : Int) ∧ Own k29 29 w' w0.heap.size s t v (markTone l.length a) ∧ Below w0.heap.size w0 w' ∧ Kept w w' (fun k => s ≤ k ∧ k < t) := by
 obtain ⟨k, h⟩ := Ev.rounds (markToneS_ev l a ha (by omega) (by omega))
 refine (laws_markToneS.calls k (fun k => s ≤ k ∧ k < t) v l a _ _ w0 w hB ho h).mono ?_
 rintro e w' ⟨rfl, hr, hb, hk⟩
 exact ⟨_, rfl, rfl, Own.back rfl ho hr, hb, hk⟩

theorem eqIntS_ev (l : List Int) (hl : l.length ≤ 1000000000000000) : Ev (fun k => laws_eqIntS.f k l l) true := by
 unfold laws_eqIntS.f
 refine Ev.pos rfl ?_
 have := Ev.over (0 : Int) l (fun k (_ : Unit) i => laws_eqIntS.l0 k l l i) (fun _ _ => true) (fun _ _ => True) (by
  intro s _
  refine Ev.succ ?_
  simp only [laws_eqIntS.l0]
  exact Ev.neg (by omega) (Ev.now _)) (by
  intro s i rest _ hi _ ih
  refine Ev.succ ?_
  simp only [laws_eqIntS.l0]
  refine Ev.pos (by omega) (Ev.pos (by omega) (Ev.pos (by omega) (Ev.pos (by simp) ?_)))
  rw [w64 (by omega) (by omega)]
  exact ih () trivial) 0 () (Nat.zero_le _) trivial
 simpa using this
theorem IntS_eq (l : List Int) (A0 A1 : Option Addr) (c0 c1 : Nat) (w : World) (hl : l.length ≤ 1000000000000) (hr0 : Kd.C (Kd.int .i64) w A0 l.length l) (hc0 : l.length ≤ c0) (hr1 : Kd.C (Kd.int .i64) w A1 l.length l) (hc1 : l.length ≤ c1) :
 Calls Tryd.prog 43 #[.slice A0 l.length c0, .slice A1 l.length c1] w fun e w' => e = .returned (.bool true) ∧ Below w.heap.size w w' := by
 obtain ⟨k, h⟩ := Ev.rounds (eqIntS_ev l (by omega))
 refine (laws_eqIntS.calls k A0 c0 l A1 c1 l true w hr0 hc0 hr1 hc1 h).mono ?_
 rintro e w' ⟨rfl, hd⟩
 exact ⟨rfl, hd.below⟩

def markInt : Nat → Int → List Int
 | 0, _ => []
 | n + 1, a => a :: markInt n (a + 1)
theorem markInt_len : ∀ n a, (markInt n a).length = n
 | 0, _ => rfl
 | n + 1, a => by simp [markInt, markInt_len n]
theorem markInt_get : ∀ (n : Nat) (a : Int) (i : Nat), i < n → (markInt n a).getD i 0 = a + i
 | 0, _, _, h => by omega
 | n + 1, a, 0, _ => by simp [markInt]
 | n + 1, a, i + 1, h => by
  have := markInt_get n (a + 1) i (by omega)
  simp only [markInt, List.getD_cons_succ]
  rw [this]; omega
theorem markIntS_ev (l : List Int) (a : Int) (ha : 0 ≤ a) (ha' : a ≤ 1000000000000000) (hl : l.length ≤ 1000000000000000) : Ev (fun k => laws_markIntS.f k l a) (a + l.length, markInt l.length a) := by
 unfold laws_markIntS.f
 have := Ev.over (0 : Int) l (fun k (s : List Int × Int) i => laws_markIntS.l0 k s.1 s.2 i) (fun s rest => (s.2 + (rest.length : Int), s.1.take (l.length - rest.length) ++ markInt rest.length s.2)) (fun i s => s.1.length = l.length ∧ s.2 = a + i) (by
  intro s hs
  refine Ev.succ ?_
  simp only [laws_markIntS.l0]
  refine Ev.eqr (Ev.neg (by omega) (Ev.now _)) ?_
  simp [← hs.1, markInt]) (by
  intro s i rest hs hi hdr ih
  have hrl : rest.length + 1 + i = l.length := by
   have := congrArg List.length hdr
   simp at this; omega
  refine Ev.succ ?_
  simp only [laws_markIntS.l0]
  refine Ev.pos (by omega) (Ev.pos (by omega) ?_)
  have h2 := hs.2
  rw [w64 (x := s.2 + 1) (by omega) (by omega), w64 (by omega) (by omega)]
  refine Ev.eqr (ih (_, s.2 + 1) ⟨by simpa using hs.1, by simp only []; omega⟩) ?_
  have e1 : l.length - rest.length = i + 1 := by omega
  have e2 : l.length - (l.getD i 0 :: rest).length = i := by simp; omega
  rw [e1, e2]
  simp only [Int.toNat_natCast, List.length_cons, markInt]
  refine Prod.ext (by simp only []; omega) ?_
  simp only []
  rw [List.take_set, List.take_succ_eq_append_getElem (by omega), List.set_append_right _ _ (by simp; omega)]
  have e3 : i - (s.1.take i).length = 0 := by simp; omega
  rw [e3]
  simp) 0 (l, a) (Nat.zero_le _) ⟨rfl, by simp⟩
 simpa using this

theorem IntS_mark (l : List Int) (a : Int) (s t : Nat) (v : Value) (w0 w : World) (ha : 0 ≤ a) (ha' : a ≤ 1000000000000) (hl : l.length ≤ 1000000000000) (hB : Below w0.heap.size w0 w) (ho : Own (Kd.int .i64) 3 w w0.heap.size s t v l) :
 Calls Tryd.prog 44 #[v, .int .i64 a] w fun e w' => ∃ r, e = .returned (.int .i64 r) ∧ r = a + (l.length : Int) ∧ Own (Kd.int .i64) 3 w' w0.heap.size s t v (markInt l.length a) ∧ Below w0.heap.size w0 w' ∧ Kept w w' (fun k => s ≤ k ∧ k < t) := by
 obtain ⟨k, h⟩ := Ev.rounds (markIntS_ev l a ha (by omega) (by omega))
 refine (laws_markIntS.calls k (fun k => s ≤ k ∧ k < t) v l a _ _ w0 w hB ho h).mono ?_
 rintro e w' ⟨rfl, hr, hb, hk⟩
 exact ⟨_, rfl, rfl, Own.back rfl ho hr, hb, hk⟩
theorem heldIntS_ev (n : Nat) (a : Int) (ha : 0 ≤ a) (ha' : a ≤ 1000000000000000) (hl : n ≤ 1000000000000000) : Ev (fun k => laws_heldIntS.f k (markInt n a) a) (a + n) := by
 unfold laws_heldIntS.f
 have := Ev.over (0 : Int) (markInt n a) (fun k (s : Int) i => laws_heldIntS.l0 k (markInt n a) s i) (fun s rest => s + (rest.length : Int)) (fun i s => s = a + i) (by
  intro s hs
  refine Ev.succ ?_
  simp only [laws_heldIntS.l0]
  refine Ev.eqr (Ev.neg (by omega) (Ev.now _)) ?_
  simp) (by
  intro s i rest hs hi hdr ih
  rw [markInt_len] at hi
  have hg : rd (markInt n a) i = a + i := markInt_get n a i hi
  refine Ev.succ ?_
  simp only [laws_heldIntS.l0]
  rw [hg, markInt_len]
  subst hs
  rw [w64 (x := a + i + 1) (by omega) (by omega), w64 (by omega) (by omega)]
  refine Ev.pos (by omega) (Ev.pos (by omega) (Ev.pos rfl ?_))
  refine Ev.eqr (ih _ (by omega)) ?_
  simp only [List.length_cons]; omega) 0 a (Nat.zero_le _) (by simp)
 simpa [markInt_len] using this
theorem IntS_held (n : Nat) (a : Int) (A : Option Addr) (c : Nat) (w : World) (ha : 0 ≤ a) (ha' : a ≤ 1000000000000) (hl : n ≤ 1000000000000) (hr : Kd.C (Kd.int .i64) w A n (markInt n a)) (hc : n ≤ c) :
 Calls Tryd.prog 45 #[.slice A n c, .int .i64 a] w fun e w' => ∃ r, e = .returned (.int .i64 r) ∧ r = a + (n : Int) ∧ Below w.heap.size w w' := by
 obtain ⟨k, h⟩ := Ev.rounds (heldIntS_ev n a ha (by omega) (by omega))
 have hm := markInt_len n a
 have hr' : Kd.C (Kd.int .i64) w A (markInt n a).length (markInt n a) := by rw [hm]; exact hr
 have := laws_heldIntS.calls k A c (markInt n a) a _ w hr' (by omega) h
 rw [hm] at this
 refine this.mono ?_
 rintro e w' ⟨rfl, hd⟩
 exact ⟨_, rfl, rfl, hd.below⟩

def Opn {α : Type} (P : Program) (t : TypeId) (d : Kd α) (ok : α → Prop) : Prop :=
 P.cellsOf t = d.sz ∧ ∀ {H : Type} (enc : TypeId × Value → H) (w : World) (base : Nat) (held : Bool) (fuel : Nat) (cs : List Value) (x : DataW H × List MemPlace), DataW.trod enc P w base (fun _ => true) held fuel t cs = some x → ∃ p, d.K w p cs ∧ ok p
theorem opn_int {P : Program} {t : TypeId} (k : IntKind) (ht : P.underlying t = some (.int k)) (hc : P.cellsOf t = 1) : Opn P t (Kd.int k) (fun n => (Lit.int k n).wf = true) :=
 ⟨hc, fun enc w base held fuel cs x h => by obtain ⟨n, rfl, _, hw⟩ := DataW.trod_int ht h; exact ⟨n, rfl, hw⟩⟩
theorem opn_bool {P : Program} {t : TypeId} (ht : P.underlying t = some .bool) (hc : P.cellsOf t = 1) : Opn P t Kd.bool (fun _ => True) :=
 ⟨hc, fun enc w base held fuel cs x h => by obtain ⟨n, rfl, _⟩ := DataW.trod_bool ht h; exact ⟨n, rfl, trivial⟩⟩
theorem opn_slice {α : Type} {P : Program} {t e : TypeId} {d : Kd α} {ok : α → Prop} (ht : P.underlying t = some (.slice e)) (hc : P.cellsOf t = 1) (he : Opn P e d ok) : Opn P t (Kd.slice e d) (fun l => (∀ x ∈ l, ok x) ∧ l.length ≤ maxLen) := by
 refine ⟨hc, fun enc w base held fuel cs x h => ?_⟩
 rcases Go.Deep.open_slice ht h with ⟨rfl, _⟩ | ⟨a, len, cap, m, n, D, Pl, rfl, _, hl, hm, hmm, _, hi⟩
 ·
  exact ⟨[], ⟨none, 0, rfl, Nat.le_refl _, rfl, by simp, fun h => by simp at h⟩, by simp, by simp⟩
 ·
  have hmc : m = cap := by simpa using hmm
  clear hmm
  have key : ∀ k, k ≤ len → ∃ l : List α, l.length = k ∧ (∀ x ∈ l, ok x) ∧ ∀ j p, l[j]? = some p → ∃ c, c.length = d.sz ∧ d.K w p c ∧ ∀ i u, c[i]? = some u → w.cell? (a.add (j * d.sz + i)) = some u := by
   intro k
   induction k with
   | zero => intro _; exact ⟨[], rfl, by simp, by simp⟩
   | succ k ih =>
    intro hk
    obtain ⟨l, hll, hlo, hlc⟩ := ih (by omega)
    obtain ⟨cs', hcs, ht'⟩ := hi k (by omega)
    rw [he.1] at hcs
    obtain ⟨p, hp, hop⟩ := he.2 enc w base held n cs' _ ht'
    obtain ⟨_, hcl, hat⟩ := World.cells?_some hcs
    refine ⟨l ++ [p], by simp [hll], ?_, ?_⟩
    ·
     intro x hx
     rcases List.mem_append.1 hx with hx | hx
     ·
      exact hlo x hx
     ·
      rw [List.mem_singleton.1 hx]; exact hop
    ·
     intro j q hq
     by_cases hj : j < l.length
     ·
      rw [List.getElem?_append_left hj] at hq
      exact hlc j q hq
     ·
      have hj2 : j = l.length := by
       have := (List.getElem?_eq_some_iff.1 hq).1
       simp at this; omega
      subst hj2
      rw [List.getElem?_append_right (Nat.le_refl _)] at hq
      simp at hq
      subst hq
      refine ⟨cs', hcl, hp, fun i u hu => ?_⟩
      have hil : i < d.sz := by rw [← hcl]; exact (List.getElem?_eq_some_iff.1 hu).1
      rw [hll, ← Go.Deep.add_add, hat i hil, hu]
  obtain ⟨l, hll, hlo, hlc⟩ := key len (Nat.le_refl _)
  subst hll
  exact ⟨l, ⟨some a, cap, rfl, hl, rfl, by unfold maxLen at hm; omega, fun _ => ⟨a, rfl, hlc⟩⟩, hlo, by omega⟩
theorem opn_iso {α β : Type} {P : Program} {t : TypeId} {d : Kd α} {ok : α → Prop} (h : Opn P t d ok) (f : β → α) (g : α → β) (hfg : ∀ x, f (g x) = x) : Opn P t (Kd.iso d f) (fun y => ok (f y)) :=
 ⟨h.1, fun enc w base held fuel cs x hx => by
  obtain ⟨p, hp, ho⟩ := h.2 enc w base held fuel cs x hx
  exact ⟨g p, by show d.K w (f (g p)) cs; rw [hfg]; exact hp, by show ok (f (g p)); rw [hfg]; exact ho⟩⟩
theorem opn_struct2 {α β : Type} {P : Program} {t : TypeId} {f0 f1 : Field} {a : Kd α} {b : Kd β} {oka : α → Prop} {okb : β → Prop} (ht : P.underlying t = some (.struct #[f0, f1])) (h0 : Opn P f0.type a oka) (h1 : Opn P f1.type b okb)
 (o0 : f0.offset = 0) (o1 : f1.offset = a.sz) (hc : P.cellsOf t = a.sz + b.sz) : Opn P t (Kd.pair a b) (fun p => oka p.1 ∧ okb p.2) := by
 refine ⟨hc, fun enc w base held fuel cs x h => ?_⟩
 obtain ⟨xs, n, _, _, hl, hxl, hg⟩ := DataW.trod_struct ht h
 have g0 := hg 0 f0 rfl
 have g1 := hg 1 f1 rfl
 rw [o0, h0.1, List.drop_zero] at g0
 rw [o1, h1.1] at g1
 rw [List.getElem?_eq_getElem (by rw [hxl]; simp)] at g0 g1
 obtain ⟨p, hp, hop⟩ := h0.2 enc w base held n _ _ g0
 obtain ⟨q, hq, hoq⟩ := h1.2 enc w base held n _ _ g1
 refine ⟨(p, q), ⟨cs.take a.sz, (cs.drop a.sz).take b.sz, ?_, hp, hq⟩, hop, hoq⟩
 rw [List.take_of_length_le (l := cs.drop a.sz) (by rw [List.length_drop, hl, hc]; omega), List.take_append_drop]
/-- A slice argument. -/
theorem opn_arg {α : Type} {P : Program} {t e : TypeId} {d : Kd α} {ok : List α → Prop} (h : Opn P t (Kd.slice e d) ok) {H : Type} {enc : TypeId × Value → H} {w : World} {base : Nat} {held : Bool} {a : Option Addr} {len cap : Nat} {x : DataW H} {p : List MemPlace} (hr : DataW.Trod enc P w base (fun _ => true) held t (.slice a len cap) x p) :
 ∃ l : List α, len = l.length ∧ l.length ≤ cap ∧ d.C w a l.length l ∧ ok l := by
 obtain ⟨fuel, hf⟩ := hr
 obtain ⟨l, ⟨A, c, he, hc, hC⟩, ho⟩ := h.2 enc w base held fuel _ _ hf
 simp [Value.cells] at he
 obtain ⟨rfl, rfl, rfl⟩ := he
 exact ⟨l, rfl, hc, hC, ho⟩

end Go.Proofs.YthhnaplmjpacnaaDoor.Pure
namespace Go.Proofs.YthhnaplmjpacnaaDoor.Pure
set_option linter.unusedVariables false
set_option linter.unusedSimpArgs false
open Go Go.RowKit Go.Proofs.YthhnaplmjpacnaaDoor.PFnExactModeMoves Go.Proofs.YthhnaplmjpacnaaDoorW.PrintWords Go.Proofs.YthhnaplmjpacnaaDoorW.PrintLast Go.Proofs.YthhnaplmjpacnaaDoorW.PrintMore

set_option maxHeartbeats 8000000 in
set_option maxRecDepth 100000 in
theorem FnExactModeMoves_walk (m : List S47) (Am : Option Addr) (cm : Nat) (w : World) (ht : DTab w) (hrm : Kd.C k47 w Am m.length m) (hcm : m.length ≤ cm) (hmm : m.length ≤ maxLen) :
 Calls Tryd.prog 10 #[.slice Am m.length cm] w fun e w' => e = .returned (.bool true) ∧ Below w.heap.size w w' := by
 have HT := Aside0.mk ht
 clear ht
 have HRm := Aside0.mk hrm
 have HCm := Aside0.mk hcm
 unfold maxLen at hmm
 clear hrm hcm
 by_cases z0 : (1048576 : Int) - (m.length : Int) < 0
 ·
  go_enter Tryd.func10, Tryd.ntmps10
  go_wp2_with fail
  refine (ToneS_sz m _ _ _ _ (by omega) (by omega) (by omega) HRm.out HCm.out).mono ?_
  rintro _ ws0 ⟨e0', rfl, he0', hb⟩
  have hb0 := hb
  have u0 : decide (e0' < 0) = true := by rw [he0', if_pos z0]; rfl
  clear he0' z0
  go_wp2
  go_ret
  exact ⟨rfl, hb0⟩
 obtain ⟨e0, he0⟩ : ∃ e : Int, e = (1048576 : Int) - (m.length : Int) := ⟨_, rfl⟩
 have t0 : decide (e0 < 0) = false := decide_eq_false (by omega)
 have y0 : m.length ≤ 1048576 := by omega
 have y0' : 0 ≤ e0 ∧ e0 ≤ 1048576 := by omega
 replace he0 := Aside0.mk he0
 obtain ⟨xm, hxm⟩ : ∃ x, x = m.map convTone := ⟨_, rfl⟩
 have lxm : xm.length ≤ 1048576 := by rw [hxm, List.length_map]; omega
 have Xm := Aside0.mk hxm
 clear hxm
 skip
 obtain ⟨r0, hres⟩ : ∃ r0, mmRest xm 41 = (r0) := ⟨_, rfl⟩
 have lr : r0.length ≤ 2000000 := by have := mmRest_len xm 41; rw [hres] at this; omega
 have RES := Aside0.mk hres
 clear hres
 go_enter Tryd.func10, Tryd.ntmps10
 go_wp2_with fail
 refine (ToneS_sz m _ _ _ _ (by omega) (by omega) (by omega) HRm.out HCm.out).mono ?_
 rintro _ w1 ⟨e', rfl, he', hb⟩
 obtain rfl : e' = e0 := by have := he0.out; rw [he', if_neg (by omega), this]
 clear he'
 have HB := Aside0.mk hb
 have S1 := Aside0.mk hb.size
 go_wp2_with fail
 refine (ToneS_to m _ _ _ (by omega) (Kd.C_below HRm.out HB.out) HCm.out).mono ?_
 rintro _ w2 ⟨vsm, rfl, ho, hb⟩
 rw [← Xm.out] at ho
 obtain ⟨Asm, csm, rfl, _, _⟩ := Kd.R_reads ho
 have Osm := Aside0.mk (Own.make ho HB.out.size)
 clear ho
 replace HB := Aside0.mk (below_step HB.out hb)
 have S2 := Aside0.mk hb.size
 go_wp2_with fail
 refine (spec_ModeMoves_x xm _ _ _ Osm.out.C Osm.out.cap (by omega)).mono ?_
 rintro _ w3 ⟨v, rfl, ho, hb⟩
 simp only [RES.out] at ho ⊢
 obtain ⟨AW, cW, rfl, _, _⟩ := Kd.R_reads ho
 replace Osm := Aside0.mk (Osm.out.below hb)
 have OW := Aside0.mk (Own.make ho HB.out.size)
 clear ho
 replace HB := Aside0.mk (below_step HB.out hb)
 have S3 := Aside0.mk hb.size
 clear Osm
 go_wp2_with fail
 refine (ToneS_to m _ _ _ (by omega) (Kd.C_below HRm.out HB.out) HCm.out).mono ?_
 rintro _ w4 ⟨vpm, rfl, ho, hb⟩
 rw [← Xm.out] at ho
 obtain ⟨Apm, cpm, rfl, _, _⟩ := Kd.R_reads ho
 replace OW := Aside0.mk (OW.out.below hb)
 have Opm := Aside0.mk (Own.make ho HB.out.size)
 clear ho
 replace HB := Aside0.mk (below_step HB.out hb)
 have S4 := Aside0.mk hb.size
 go_wp2_with fail
 refine (impl_ModeMoves_calls xm _ _ _ (HT.out.below HB.out) Opm.out.C Opm.out.cap (by omega)).mono ?_
 rintro _ w5 ⟨v, rfl, ho, hb⟩
 simp only [RES.out] at ho ⊢
 obtain ⟨AG, cG, rfl, _, _⟩ := Kd.R_reads ho
 replace OW := Aside0.mk (OW.out.below hb)
 replace Opm := Aside0.mk (Opm.out.below hb)
 have OG := Aside0.mk (Own.make ho HB.out.size)
 clear ho
 replace HB := Aside0.mk (below_step HB.out hb)
 have S5 := Aside0.mk hb.size
 go_wp2_with fail
 refine (IntS_eq r0 _ _ _ _ _ (by omega) OG.out.C OG.out.cap OW.out.C OW.out.cap).mono ?_
 rintro _ w6 ⟨rfl, hb⟩
 replace OW := Aside0.mk (OW.out.below hb)
 replace Opm := Aside0.mk (Opm.out.below hb)
 replace OG := Aside0.mk (OG.out.below hb)
 replace HB := Aside0.mk (below_step HB.out hb)
 have S6 := Aside0.mk hb.size
 go_wp2_with fail
 refine (ToneS_to m _ _ _ (by omega) (Kd.C_below HRm.out HB.out) HCm.out).mono ?_
 rintro _ w7 ⟨vtm, rfl, ho, hb⟩
 rw [← Xm.out] at ho
 obtain ⟨Atm, ctm, rfl, _, _⟩ := Kd.R_reads ho
 replace OW := Aside0.mk (OW.out.below hb)
 replace Opm := Aside0.mk (Opm.out.below hb)
 replace OG := Aside0.mk (OG.out.below hb)
 have Otm := Aside0.mk (Own.make ho HB.out.size)
 clear ho
 replace HB := Aside0.mk (below_step HB.out hb)
 have S7 := Aside0.mk hb.size
 go_wp2_with fail
 refine (ToneS_eq xm _ _ _ _ _ (by omega) Opm.out.C Opm.out.cap Otm.out.C Otm.out.cap).mono ?_
 rintro _ w8 ⟨rfl, hb⟩
 replace OW := Aside0.mk (OW.out.below hb)
 replace Opm := Aside0.mk (Opm.out.below hb)
 replace OG := Aside0.mk (OG.out.below hb)
 replace Otm := Aside0.mk (Otm.out.below hb)
 replace HB := Aside0.mk (below_step HB.out hb)
 have S8 := Aside0.mk hb.size
 clear Otm
 go_wp2_with fail
 refine (ToneS_mark xm _ _ _ _ w _ (by omega) (by omega) (by omega) HB.out Opm.out).mono ?_
 rintro _ w9 ⟨k0, rfl, hk0, ho, hb, hkept⟩
 clear Opm
 replace OW := Aside0.mk (OW.out.kept hkept (by intro k h1 h2 h3; have := S1.out; have := S2.out; have := S3.out; have := S4.out; have := S5.out; have := S6.out; have := S7.out; have := S8.out; omega))
 replace OG := Aside0.mk (OG.out.kept hkept (by intro k h1 h2 h3; have := S1.out; have := S2.out; have := S3.out; have := S4.out; have := S5.out; have := S6.out; have := S7.out; have := S8.out; omega))
 replace HB := Aside0.mk hb
 have S9 := Aside0.mk hkept.1
 have b0 : 0 ≤ k0 ∧ k0 ≤ 2097153 := by omega
 clear hk0 ho hkept
 have u : decide (k0 < 0) = false := decide_eq_false (by omega)
 go_wp2_with fail
 refine (IntS_eq r0 _ _ _ _ _ (by omega) OG.out.C OG.out.cap OW.out.C OW.out.cap).mono ?_
 rintro _ w10 ⟨rfl, hb⟩
 replace OW := Aside0.mk (OW.out.below hb)
 replace OG := Aside0.mk (OG.out.below hb)
 replace HB := Aside0.mk (below_step HB.out hb)
 have S10 := Aside0.mk hb.size
 go_wp2_with fail
 refine (IntS_mark r0 _ _ _ _ w _ (by omega) (by omega) (by omega) HB.out OG.out).mono ?_
 rintro _ w11 ⟨mk_, rfl, hm_, ho, hb, hkept⟩
 replace OW := Aside0.mk (OW.out.kept hkept (by intro k h1 h2 h3; have := S1.out; have := S2.out; have := S3.out; have := S4.out; have := S5.out; have := S6.out; have := S7.out; have := S8.out; have := S9.out; have := S10.out; omega))
 replace OG := Aside0.mk ho
 replace HB := Aside0.mk hb
 have S11 := Aside0.mk hkept.1
 clear ho hkept
 have um : decide (mk_ < 0) = false := decide_eq_false (by omega)
 have HM_ := Aside0.mk hm_
 clear hm_
 go_wp2_with fail
 refine (IntS_held r0.length 1 _ _ _ (by omega) (by omega) (by omega) (by have h := (Kd.R_reads' OG.out).2.2; rw [markInt_len] at h; exact h) OG.out.cap).mono ?_
 rintro _ w12 ⟨q, rfl, hq, hb⟩
 obtain rfl : mk_ = q := by rw [hq, HM_.out]
 clear hq
 replace OW := Aside0.mk (OW.out.below hb)
 replace OG := Aside0.mk (OG.out.below hb)
 replace HB := Aside0.mk (below_step HB.out hb)
 have S12 := Aside0.mk hb.size
 go_wp2_with fail
 refine (ToneS_to m _ _ _ (by omega) (Kd.C_below HRm.out HB.out) HCm.out).mono ?_
 rintro _ w13 ⟨vhm, rfl, ho, hb⟩
 rw [← Xm.out] at ho
 obtain ⟨Ahm, chm, rfl, _, _⟩ := Kd.R_reads ho
 replace OW := Aside0.mk (OW.out.below hb)
 replace OG := Aside0.mk (OG.out.below hb)
 have Ohm := Aside0.mk (Own.make ho HB.out.size)
 clear ho
 replace HB := Aside0.mk (below_step HB.out hb)
 have S13 := Aside0.mk hb.size
 go_wp2_with fail
 refine (impl_ModeMoves_calls xm _ _ _ (HT.out.below HB.out) Ohm.out.C Ohm.out.cap (by omega)).mono ?_
 rintro _ w14 ⟨v, rfl, ho, hb⟩
 simp only [RES.out] at ho ⊢
 obtain ⟨AH, cH, rfl, _, _⟩ := Kd.R_reads ho
 replace OW := Aside0.mk (OW.out.below hb)
 replace OG := Aside0.mk (OG.out.below hb)
 replace Ohm := Aside0.mk (Ohm.out.below hb)
 have OH := Aside0.mk (Own.make ho HB.out.size)
 clear ho
 replace HB := Aside0.mk (below_step HB.out hb)
 have S14 := Aside0.mk hb.size
 clear Ohm
 go_wp2_with fail
 refine (IntS_eq r0 _ _ _ _ _ (by omega) OH.out.C OH.out.cap OW.out.C OW.out.cap).mono ?_
 rintro _ w15 ⟨rfl, hb⟩
 replace OW := Aside0.mk (OW.out.below hb)
 replace OG := Aside0.mk (OG.out.below hb)
 replace OH := Aside0.mk (OH.out.below hb)
 replace HB := Aside0.mk (below_step HB.out hb)
 have S15 := Aside0.mk hb.size
 go_wp2_with fail
 refine (IntS_held r0.length 1 _ _ _ (by omega) (by omega) (by omega) (by have h := (Kd.R_reads' OG.out).2.2; rw [markInt_len] at h; exact h) OG.out.cap).mono ?_
 rintro _ w16 ⟨q, rfl, hq, hb⟩
 obtain rfl : mk_ = q := by rw [hq, HM_.out]
 clear hq
 replace OW := Aside0.mk (OW.out.below hb)
 replace OG := Aside0.mk (OG.out.below hb)
 replace OH := Aside0.mk (OH.out.below hb)
 replace HB := Aside0.mk (below_step HB.out hb)
 have S16 := Aside0.mk hb.size
 go_wp2
 go_ret
 exact ⟨rfl, HB.out⟩

end Go.Proofs.YthhnaplmjpacnaaDoor.Pure
