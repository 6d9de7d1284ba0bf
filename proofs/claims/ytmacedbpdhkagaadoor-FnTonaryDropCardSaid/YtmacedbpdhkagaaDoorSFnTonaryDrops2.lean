/- Lemmas for the law FnTonaryDrop. -/
import Derived.Lib.Slices
import Derived.Lib.Walk
import Derived.Lib.Bytealg
import Derived.Outline
import Derived.Lib.Overlaps
import Derived.Lib.AppendZeros
import Derived.Test.YtmacedbpdhkagaaDoorSFnTonaryDrops1
namespace Go.Proofs.YtmacedbpdhkagaaDoor.PFnTonaryDrop
open Go.RowKit Go.Proofs.YtmacedbpdhkagaaDoorW.PrintWords Go.Proofs.YtmacedbpdhkagaaDoorW.PrintLast Go.Proofs.YtmacedbpdhkagaaDoorW.PrintMore Go.Proofs.YtmacedbpdhkagaaDoor.Pure
attribute [local go_sem] max2_int min2_int max_two min_two max_three min_three max_four min_four   -- for this text's walks alone
set_option linter.unusedVariables false
set_option linter.unusedSimpArgs false

mutual
def impl_Entry_valid.j0 : Nat → Bool → ByteArray → Int → List (S90) → Option (Bool)
 | 0, _, _, _, _ => none
 | k + 1, x24, x184000, x184001, x184002 => if x24 = true then (some false) else (impl_Entry_valid.l0 k (x184000.size : Int) 0 x184000 x184001 x184002)
def impl_Entry_valid.l0 : Nat → Int → Int → ByteArray → Int → List (S90) → Option (Bool)
 | 0, _, _, _, _, _ => none
 | k + 1, x27, x28, x184000, x184001, x184002 => if x28 < x27 then (if 0 ≤ x28 then (if x28 < (x184000.size : Int) then (if (bt x184000 x28) < 97 then (some false) else (if (bt x184000 x28) > 122 then (some false) else (impl_Entry_valid.l0 k x27 (wrap64 (x28 + 1)) x184000 x184001 x184002))) else (none)) else (none)) else ((impl_tonesValid.f k x184002 1 8).bind fun t190 => (some t190))
end
def impl_Entry_valid.f (k : Nat) (a0_0 : ByteArray) (a0_1 : Int) (l0_2 : List (S90)) : Option (Bool) := (impl_modeAt.f a0_1).bind fun bt184 => (if bt184.2.2.2.2 = true then (if a0_0.toList = ([] : List UInt8) then (impl_Entry_valid.j0 k true a0_0 a0_1 l0_2) else (impl_Entry_valid.j0 k (decide ((a0_0.size : Int) > 10)) a0_0 a0_1 l0_2)) else (impl_Entry_valid.j0 k true a0_0 a0_1 l0_2))
set_option maxHeartbeats 8000000 in
set_option maxRecDepth 100000 in
theorem impl_Entry_valid.calls (k : Nat) (a0_0 : ByteArray) (a0_1 : Int) (A0_2 : Option Addr) (c0_2 : Nat) (l0_2 : List (S90)) (r : Bool) (w : World) (ht : MTab w) (hr0_2 : Kd.C k90 w A0_2 l0_2.length l0_2) (hc0_2 : l0_2.length ≤ c0_2) (h : impl_Entry_valid.f k a0_0 a0_1 l0_2 = some r) :
 Calls Tryd.prog 73 #[.agg #[.string a0_0, .int .i64 a0_1, .slice A0_2 l0_2.length c0_2]] w fun e w' => e = .returned (.bool r) ∧ Below w.heap.size w w' := by
 have HT := Aside0.mk ht; clear ht; have hu38 := Tryd.underlying38; have hu115 := Tryd.underlying115; have HR0_2 := Aside0.mk hr0_2; have HC0_2 := Aside0.mk hc0_2; clear hr0_2 hc0_2; have HB := Aside0.mk (Below.refl w.heap.size w); have H : ((impl_modeAt.f a0_1).bind fun bt184 => (if bt184.2.2.2.2 = true then (if a0_0.toList = ([] : List UInt8) then (impl_Entry_valid.j0 k true a0_0 a0_1 l0_2) else (impl_Entry_valid.j0 k (decide ((a0_0.size : Int) > 10)) a0_0 a0_1 l0_2)) else (impl_Entry_valid.j0 k true a0_0 a0_1 l0_2))) = some r := h; clear h; replace H := Option.bind_eq_some_iff.mp H; obtain ⟨⟨t184, t185, t186, t187, t188⟩, A20, H⟩ := H; replace H : (if t188 = true then (if a0_0.toList = ([] : List UInt8) then (impl_Entry_valid.j0 k true a0_0 a0_1 l0_2) else (impl_Entry_valid.j0 k (decide ((a0_0.size : Int) > 10)) a0_0 a0_1 l0_2)) else (impl_Entry_valid.j0 k true a0_0 a0_1 l0_2)) = some r := H; have A2 := Aside0.mk A20; clear A20; have HC3 := Aside0.mk H; clear H; go_enter Tryd.func73, Tryd.ntmps73
 go_upto_region 2 with (first | ((with_reducible refine gate_dst (N := 1) rfl ?_); (try (refine gate_guard (by rfl) ?_; dsimp only)); refine box_event ?hg (N := 1) ?hd (cs := #[.string a0_0, .int .i64 a0_1, .slice A0_2 l0_2.length c0_2]) (t := 38) ?hr ?_; (case hd => rfl); (case hg => rfl); (case hr => first | (go_simp; done) | (go_simp; rfl)); intro gb183 hg w4 hbox hb; have n0_ := Aside0.mk (below_step (by repeat (first | (with_reducible first | exact HB.out | apply below_alloc | apply pw_below_drewN | apply below_drew1) | exact HB.out)) hb); have n1_ := Aside0.mk (hbox); have n2_ := Aside0.mk ((by rw [hg]; exact (below_size (by repeat (first | (with_reducible first | exact HB.out | apply below_alloc | apply pw_below_drewN | apply below_drew1) | exact HB.out))) : w.heap.size ≤ gb183)); have n3_ := Aside0.mk ((by rw [hg]; exact (below_size (by repeat (first | (with_reducible first | exact HB.out | apply below_alloc | apply pw_below_drewN | apply below_drew1) | exact HB.out))) : w.heap.size ≤ gb183)); clear HB; have HB := n0_; have BK183 := n1_; have GW183 := n2_; have GE183 := n3_; clear n0_ n1_ n2_ n3_; clear hb hbox hg; have hcz5_0 : w4.cell? ⟨gb183, 0, none⟩ = some (.string a0_0) := (blk_cell BK183.out 0).trans rfl; have hcz5_1 : w4.cell? ⟨gb183, 1, none⟩ = some (.int .i64 a0_1) := (blk_cell BK183.out 1).trans rfl; have hcz5_2 : w4.cell? ⟨gb183, 2, none⟩ = some (.slice A0_2 l0_2.length c0_2) := (blk_cell BK183.out 2).trans rfl; have hfz5_0 := blk_frozen BK183.out 0; have hfz5_1 := blk_frozen BK183.out 1; have hfz5_2 := blk_frozen BK183.out 2) | ((with_reducible refine gate_callee (f := 97) rfl ?_); refine goesL_ (some 9) rfl rfl Tryd.func97 (by kernel_rfl) rfl #[.int .i64 a0_1] rfl (by (try simp only [List.map_toArray, List.map_cons, List.map_nil]); first | done | rfl | (simp only [List.length_drop, List.length_take]; rfl)) ?_; (with_reducible refine (impl_modeAt.calls a0_1 t184 t185 t186 t187 t188 _ A2.out (ht := HT.out.below (by repeat (first | (with_reducible first | exact HB.out | apply below_alloc | apply pw_below_drewN | apply below_drew1 | refine below_set ?_ GE183.out) | exact HB.out)))).mono ?_); rintro e w6 ⟨rfl, hb⟩; refine ⟨_, rfl, ?_⟩; have n0_ := Aside0.mk (blk_below (g := gb183) (o := .cells #[.string a0_0, .int .i64 a0_1, .slice A0_2 l0_2.length c0_2] 38 (0, 0)) (by (with_reducible repeat (first | refine blk_drewN ?_ _ | refine blk_drew ?_ | refine blk_alloc ?_ _)); exact BK183.out) hb); have n1_ := Aside0.mk (below_step (by repeat (first | (with_reducible first | exact HB.out | apply below_alloc | apply pw_below_drewN | apply below_drew1 | refine below_set ?_ GE183.out) | exact HB.out)) hb); clear BK183; clear HB; have BK183 := n0_; have HB := n1_; clear n0_ n1_; (try clear hb); (try clear hb2); (try clear hk); (try clear hi)) | ((with_reducible refine gate_dst (N := 3) rfl ?_); (try (refine gate_guard (by rfl) ?_; dsimp only)); refine box_event ?hg (N := 3) ?hd (cs := #[.int .i64 0, .int .i64 0, .int .i64 0, .int .i64 0]) (t := 115) ?hr ?_; (case hd => rfl); (case hg => rfl); (case hr => first | (go_simp; done) | (go_simp; rfl)); intro gb189 hg w7 hbox hb; have n0_ := Aside0.mk (blk_below (g := gb183) (o := .cells #[.string a0_0, .int .i64 a0_1, .slice A0_2 l0_2.length c0_2] 38 (0, 0)) (by (with_reducible repeat (first | refine blk_drewN ?_ _ | refine blk_drew ?_ | refine blk_alloc ?_ _)); exact BK183.out) hb); have n1_ := Aside0.mk (below_step (by repeat (first | (with_reducible first | exact HB.out | apply below_alloc | apply pw_below_drewN | apply below_drew1 | refine below_set ?_ GE183.out) | exact HB.out)) hb); have n2_ := Aside0.mk (hbox); have n3_ := Aside0.mk ((by rw [hg]; exact (below_size (by repeat (first | (with_reducible first | exact HB.out | apply below_alloc | apply pw_below_drewN | apply below_drew1 | refine below_set ?_ GE183.out) | exact HB.out))) : w.heap.size ≤ gb189)); have n4_ := Aside0.mk ((by rw [hg]; exact (below_size (by repeat (first | (with_reducible first | exact HB.out | apply below_alloc | apply pw_below_drewN | apply below_drew1 | refine below_set ?_ GE183.out) | exact HB.out))) : w.heap.size ≤ gb189)); have n5_ := Aside0.mk ((by rw [hg]; exact Nat.ne_of_lt (blk_lt (g := gb183) (o := .cells #[.string a0_0, .int .i64 a0_1, .slice A0_2 l0_2.length c0_2] 38 (0, 0)) (by (with_reducible repeat (first | refine blk_drewN ?_ _ | refine blk_drew ?_ | refine blk_alloc ?_ _)); exact BK183.out)) : gb183 ≠ gb189)); have n6_ := Aside0.mk ((by rw [hg]; exact Nat.ne_of_gt (blk_lt (g := gb183) (o := .cells #[.string a0_0, .int .i64 a0_1, .slice A0_2 l0_2.length c0_2] 38 (0, 0)) (by (with_reducible repeat (first | refine blk_drewN ?_ _ | refine blk_drew ?_ | refine blk_alloc ?_ _)); exact BK183.out)) : gb189 ≠ gb183)); clear BK183; clear HB; have BK183 := n0_; have HB := n1_; have BK189 := n2_; have GW189 := n3_; have GE189 := n4_; have NB183_189 := n5_; have NB189_183 := n6_; clear n0_ n1_ n2_ n3_ n4_ n5_ n6_; clear hb hbox hg; have hnb8 := NB189_183.out; have hnc8 := NB183_189.out; have hcz9_0 : w7.cell? ⟨gb189, 0, none⟩ = some (.int .i64 0) := (blk_cell BK189.out 0).trans rfl; have hcz9_1 : w7.cell? ⟨gb189, 1, none⟩ = some (.int .i64 0) := (blk_cell BK189.out 1).trans rfl; have hcz9_2 : w7.cell? ⟨gb189, 2, none⟩ = some (.int .i64 0) := (blk_cell BK189.out 2).trans rfl; have hcz9_3 : w7.cell? ⟨gb189, 3, none⟩ = some (.int .i64 0) := (blk_cell BK189.out 3).trans rfl; have hfz9_0 := blk_frozen BK189.out 0; have hfz9_1 := blk_frozen BK189.out 1; have hfz9_2 := blk_frozen BK189.out 2; have hfz9_3 := blk_frozen BK189.out 3))
 (try simp only [Act.put, List.setIfInBounds_toArray, List.set_cons_zero, List.set_cons_succ])
 go_cut [24] (fun v24 wc => ∃ (kq : Nat) (x24_2 : Bool), v24 = .bool x24_2 ∧ Aside0 (impl_Entry_valid.j0 kq x24_2 a0_0 a0_1 l0_2 = some r) ∧ Aside0 (kq ≤ k) ∧ Aside0 (wc.heap[gb183]? = some (.cells #[.string a0_0, .int .i64 a0_1, (.slice A0_2 l0_2.length c0_2)] 38 (0, 0))) ∧ Aside0 (wc.heap[gb189]? = some (.cells #[.int .i64 t184, .int .i64 t185, .int .i64 t186, .int .i64 t187] 115 (0, 0))) ∧ Aside0 (Below w.heap.size w wc))
 case first =>
  have H := HC3.out; clear HC3; by_cases c10 : t188 = true
  ·
   subst c10; have H1 : (if a0_0.toList = ([] : List UInt8) then (impl_Entry_valid.j0 k true a0_0 a0_1 l0_2) else (impl_Entry_valid.j0 k (decide ((a0_0.size : Int) > 10)) a0_0 a0_1 l0_2)) = some r := by rw [if_pos rfl] at H; exact H
   clear H; have H := H1; clear H1; by_cases c11 : a0_0.toList = ([] : List UInt8)
   ·
    rw [if_pos c11] at H; have c11b0 : (a0_0.toList == ([] : List UInt8)) = true := beq_iff_eq.mpr c11; have c11b1 : (a0_0.toList != ([] : List UInt8)) = false := bne_eq_false_iff_eq.mpr c11; clear c11; (first | rw [c11b0] | (simp only [i64_w, i32_w]; rw [c11b0]) | skip)
    have H' := Aside0.mk H; clear H; have hnb12 := NB183_189.out; have hnc12 := NB189_183.out; have hcz13_0 : w7.cell? ⟨gb183, 0, none⟩ = some (.string a0_0) := (blk_cell BK183.out 0).trans rfl; have hcz13_1 : w7.cell? ⟨gb183, 1, none⟩ = some (.int .i64 a0_1) := (blk_cell BK183.out 1).trans rfl; have hcz13_2 : w7.cell? ⟨gb183, 2, none⟩ = some (.slice A0_2 l0_2.length c0_2) := (blk_cell BK183.out 2).trans rfl; have hfz13_0 := blk_frozen BK183.out 0; have hfz13_1 := blk_frozen BK183.out 1; have hfz13_2 := blk_frozen BK183.out 2; go_wp2; go_meet
    case rel => exact ⟨_, (true), (by first | rfl | (simp; done) | (simp [*]; done)), H', ⟨by first | omega | exact Nat.le_refl _⟩, ⟨by (with_reducible repeat (first | refine blk_drewN ?_ _ | refine blk_drew ?_ | refine blk_alloc ?_ _)); refine blk_far ?_ NB183_189.out _; (with_reducible repeat (first | refine blk_drewN ?_ _ | refine blk_drew ?_ | refine blk_alloc ?_ _)); refine blk_far ?_ NB183_189.out _; (with_reducible repeat (first | refine blk_drewN ?_ _ | refine blk_drew ?_ | refine blk_alloc ?_ _)); refine blk_far ?_ NB183_189.out _; (with_reducible repeat (first | refine blk_drewN ?_ _ | refine blk_drew ?_ | refine blk_alloc ?_ _)); refine blk_far ?_ NB183_189.out _; (with_reducible repeat (first | refine blk_drewN ?_ _ | refine blk_drew ?_ | refine blk_alloc ?_ _)); exact BK183.out⟩, ⟨by (with_reducible repeat (first | refine blk_drewN ?_ _ | refine blk_drew ?_ | refine blk_alloc ?_ _)); refine blk_put (cs := #[.int .i64 t184, .int .i64 t185, .int .i64 t186, .int .i64 0]) ?_ 3 _ rfl; (with_reducible repeat (first | refine blk_drewN ?_ _ | refine blk_drew ?_ | refine blk_alloc ?_ _)); refine blk_put (cs := #[.int .i64 t184, .int .i64 t185, .int .i64 0, .int .i64 0]) ?_ 2 _ rfl; (with_reducible repeat (first | refine blk_drewN ?_ _ | refine blk_drew ?_ | refine blk_alloc ?_ _)); refine blk_put (cs := #[.int .i64 t184, .int .i64 0, .int .i64 0, .int .i64 0]) ?_ 1 _ rfl; (with_reducible repeat (first | refine blk_drewN ?_ _ | refine blk_drew ?_ | refine blk_alloc ?_ _)); refine blk_put (cs := #[.int .i64 0, .int .i64 0, .int .i64 0, .int .i64 0]) ?_ 0 _ rfl; (with_reducible repeat (first | refine blk_drewN ?_ _ | refine blk_drew ?_ | refine blk_alloc ?_ _)); exact BK189.out⟩, ⟨by repeat (first | (with_reducible first | exact HB.out | apply below_alloc | apply pw_below_drewN | apply below_drew1 | refine below_set ?_ GE183.out | refine below_set ?_ GE189.out) | exact HB.out)⟩⟩
   ·
    rw [if_neg c11] at H; have c11b0 : (a0_0.toList == ([] : List UInt8)) = false := beq_eq_false_iff_ne.mpr c11; have c11b1 : (a0_0.toList != ([] : List UInt8)) = true := bne_iff_ne.mpr c11; (first | rw [c11b0] | (simp only [i64_w, i32_w]; rw [c11b0]) | skip)
    have H' := Aside0.mk H; clear H; have hnb14 := NB183_189.out; have hnc14 := NB189_183.out; have hcz15_0 : w7.cell? ⟨gb183, 0, none⟩ = some (.string a0_0) := (blk_cell BK183.out 0).trans rfl; have hcz15_1 : w7.cell? ⟨gb183, 1, none⟩ = some (.int .i64 a0_1) := (blk_cell BK183.out 1).trans rfl; have hcz15_2 : w7.cell? ⟨gb183, 2, none⟩ = some (.slice A0_2 l0_2.length c0_2) := (blk_cell BK183.out 2).trans rfl; have hfz15_0 := blk_frozen BK183.out 0; have hfz15_1 := blk_frozen BK183.out 1; have hfz15_2 := blk_frozen BK183.out 2; go_wp2; go_meet
    case rel => exact ⟨_, (decide ((a0_0.size : Int) > 10)), (by first | rfl | (simp; done) | (simp [*]; done)), H', ⟨by first | omega | exact Nat.le_refl _⟩, ⟨by (with_reducible repeat (first | refine blk_drewN ?_ _ | refine blk_drew ?_ | refine blk_alloc ?_ _)); refine blk_far ?_ NB183_189.out _; (with_reducible repeat (first | refine blk_drewN ?_ _ | refine blk_drew ?_ | refine blk_alloc ?_ _)); refine blk_far ?_ NB183_189.out _; (with_reducible repeat (first | refine blk_drewN ?_ _ | refine blk_drew ?_ | refine blk_alloc ?_ _)); refine blk_far ?_ NB183_189.out _; (with_reducible repeat (first | refine blk_drewN ?_ _ | refine blk_drew ?_ | refine blk_alloc ?_ _)); refine blk_far ?_ NB183_189.out _; (with_reducible repeat (first | refine blk_drewN ?_ _ | refine blk_drew ?_ | refine blk_alloc ?_ _)); exact BK183.out⟩, ⟨by (with_reducible repeat (first | refine blk_drewN ?_ _ | refine blk_drew ?_ | refine blk_alloc ?_ _)); refine blk_put (cs := #[.int .i64 t184, .int .i64 t185, .int .i64 t186, .int .i64 0]) ?_ 3 _ rfl; (with_reducible repeat (first | refine blk_drewN ?_ _ | refine blk_drew ?_ | refine blk_alloc ?_ _)); refine blk_put (cs := #[.int .i64 t184, .int .i64 t185, .int .i64 0, .int .i64 0]) ?_ 2 _ rfl; (with_reducible repeat (first | refine blk_drewN ?_ _ | refine blk_drew ?_ | refine blk_alloc ?_ _)); refine blk_put (cs := #[.int .i64 t184, .int .i64 0, .int .i64 0, .int .i64 0]) ?_ 1 _ rfl; (with_reducible repeat (first | refine blk_drewN ?_ _ | refine blk_drew ?_ | refine blk_alloc ?_ _)); refine blk_put (cs := #[.int .i64 0, .int .i64 0, .int .i64 0, .int .i64 0]) ?_ 0 _ rfl; (with_reducible repeat (first | refine blk_drewN ?_ _ | refine blk_drew ?_ | refine blk_alloc ?_ _)); exact BK189.out⟩, ⟨by repeat (first | (with_reducible first | exact HB.out | apply below_alloc | apply pw_below_drewN | apply below_drew1 | refine below_set ?_ GE183.out | refine below_set ?_ GE189.out) | exact HB.out)⟩⟩
  ·
   replace c10 := Bool.eq_false_iff.mpr c10; subst c10; have H1 : (impl_Entry_valid.j0 k true a0_0 a0_1 l0_2) = some r := by rw [if_neg (show ¬ (false = true) by decide)] at H; exact H
   clear H; have H := H1; clear H1; have H' := Aside0.mk H; clear H; go_wp2; go_meet
   case rel => exact ⟨_, (true), (by first | rfl | (simp; done) | (simp [*]; done)), H', ⟨by first | omega | exact Nat.le_refl _⟩, ⟨by (with_reducible repeat (first | refine blk_drewN ?_ _ | refine blk_drew ?_ | refine blk_alloc ?_ _)); refine blk_far ?_ NB183_189.out _; (with_reducible repeat (first | refine blk_drewN ?_ _ | refine blk_drew ?_ | refine blk_alloc ?_ _)); refine blk_far ?_ NB183_189.out _; (with_reducible repeat (first | refine blk_drewN ?_ _ | refine blk_drew ?_ | refine blk_alloc ?_ _)); refine blk_far ?_ NB183_189.out _; (with_reducible repeat (first | refine blk_drewN ?_ _ | refine blk_drew ?_ | refine blk_alloc ?_ _)); refine blk_far ?_ NB183_189.out _; (with_reducible repeat (first | refine blk_drewN ?_ _ | refine blk_drew ?_ | refine blk_alloc ?_ _)); exact BK183.out⟩, ⟨by (with_reducible repeat (first | refine blk_drewN ?_ _ | refine blk_drew ?_ | refine blk_alloc ?_ _)); refine blk_put (cs := #[.int .i64 t184, .int .i64 t185, .int .i64 t186, .int .i64 0]) ?_ 3 _ rfl; (with_reducible repeat (first | refine blk_drewN ?_ _ | refine blk_drew ?_ | refine blk_alloc ?_ _)); refine blk_put (cs := #[.int .i64 t184, .int .i64 t185, .int .i64 0, .int .i64 0]) ?_ 2 _ rfl; (with_reducible repeat (first | refine blk_drewN ?_ _ | refine blk_drew ?_ | refine blk_alloc ?_ _)); refine blk_put (cs := #[.int .i64 t184, .int .i64 0, .int .i64 0, .int .i64 0]) ?_ 1 _ rfl; (with_reducible repeat (first | refine blk_drewN ?_ _ | refine blk_drew ?_ | refine blk_alloc ?_ _)); refine blk_put (cs := #[.int .i64 0, .int .i64 0, .int .i64 0, .int .i64 0]) ?_ 0 _ rfl; (with_reducible repeat (first | refine blk_drewN ?_ _ | refine blk_drew ?_ | refine blk_alloc ?_ _)); exact BK189.out⟩, ⟨by repeat (first | (with_reducible first | exact HB.out | apply below_alloc | apply pw_below_drewN | apply below_drew1 | refine below_set ?_ GE183.out | refine below_set ?_ GE189.out) | exact HB.out)⟩⟩
 case rest =>
  clear HC3; try clear c1
  try clear p2
  try clear c7
  try clear c8
  try clear c9
  try clear c10
  try clear c11
  try clear c11b0
  try clear c11b1
  try clear c12
  try clear c14
  try clear hcz13_0
  try clear hcz13_1
  try clear hcz13_2
  try clear hcz15_0
  try clear hcz15_1
  try clear hcz15_2
  try clear hcz5_0
  try clear hcz5_1
  try clear hcz5_2
  try clear hcz9_0
  try clear hcz9_1
  try clear hcz9_2
  try clear hcz9_3
  try clear hfz13_0
  try clear hfz13_1
  try clear hfz13_2
  try clear hfz15_0
  try clear hfz15_1
  try clear hfz15_2
  try clear hfz5_0
  try clear hfz5_1
  try clear hfz5_2
  try clear hfz9_0
  try clear hfz9_1
  try clear hfz9_2
  try clear hfz9_3
  obtain ⟨kq, x24_2, rfl, HA, HJ2, BK183, BK189, HB⟩ := hcut; cases kq with
  | zero => exact absurd HA.out (by simp [impl_Entry_valid.j0])
  | succ kj2 =>
   have H := HA.out; clear HA; simp only [impl_Entry_valid.j0] at H; by_cases c16 : x24_2 = true
   ·
    subst c16; have H1 : (some false) = some r := by rw [if_pos rfl] at H; exact H
    clear H; have H := H1; clear H1; obtain rfl := Option.some.inj H; go_wp2; go_ret
    exact ⟨by first | rfl | (simp [errW_none, errW_some] <;> rfl) | (simp [*, errW_none, errW_some] <;> rfl), by repeat (first | (with_reducible first | exact HB.out | apply below_alloc | apply pw_below_drewN | apply below_drew1 | refine below_set ?_ GE183.out | refine below_set ?_ GE189.out) | exact HB.out)⟩
   ·
    replace c16 := Bool.eq_false_iff.mpr c16; subst c16; have H1 : (impl_Entry_valid.l0 kj2 (a0_0.size : Int) 0 a0_0 a0_1 l0_2) = some r := by rw [if_neg (show ¬ (false = true) by decide)] at H; exact H
    clear H; have H := H1; clear H1; have H' := Aside0.mk H; clear H; have hnb17 := NB183_189.out; have hnc17 := NB189_183.out; have hcz18_0 : wc.cell? ⟨gb183, 0, none⟩ = some (.string a0_0) := (blk_cell BK183.out 0).trans rfl; have hcz18_1 : wc.cell? ⟨gb183, 1, none⟩ = some (.int .i64 a0_1) := (blk_cell BK183.out 1).trans rfl; have hcz18_2 : wc.cell? ⟨gb183, 2, none⟩ = some (.slice A0_2 l0_2.length c0_2) := (blk_cell BK183.out 2).trans rfl; have hfz18_0 := blk_frozen BK183.out 0; have hfz18_1 := blk_frozen BK183.out 1; have hfz18_2 := blk_frozen BK183.out 2; go_wp2; go_loopg [28] kj2 (fun kq v28 w' => ∃ (x28_2 : Int), v28 = .int .i64 x28_2 ∧ Aside0 (impl_Entry_valid.l0 kq (a0_0.size : Int) x28_2 a0_0 a0_1 l0_2 = some r) ∧ Aside0 (kq ≤ kj2) ∧ Aside0 (w'.heap[gb183]? = some (.cells #[.string a0_0, .int .i64 a0_1, (.slice A0_2 l0_2.length c0_2)] 38 (0, 0))) ∧ Aside0 (w'.heap[gb189]? = some (.cells #[.int .i64 t184, .int .i64 t185, .int .i64 t186, .int .i64 t187] 115 (0, 0))) ∧ Aside0 (Below w.heap.size w w'))
    case atStart => exact ⟨(0), (by first | rfl | (simp; done) | (simp [*]; done)), H', ⟨Nat.le_refl _⟩, ⟨by (with_reducible repeat (first | refine blk_drewN ?_ _ | refine blk_drew ?_ | refine blk_alloc ?_ _)); exact BK183.out⟩, ⟨by (with_reducible repeat (first | refine blk_drewN ?_ _ | refine blk_drew ?_ | refine blk_alloc ?_ _)); exact BK189.out⟩, ⟨by repeat (first | (with_reducible first | exact HB.out | apply below_alloc | apply pw_below_drewN | apply below_drew1 | refine below_set ?_ GE183.out | refine below_set ?_ GE189.out) | exact HB.out)⟩⟩
    case round =>
     clear H'; try clear c1
     try clear p2
     try clear c7
     try clear c8
     try clear c9
     try clear c10
     try clear c11
     try clear c11b0
     try clear c11b1
     try clear c12
     try clear c14
     try clear c16
     try clear c17
     try clear hcz13_0
     try clear hcz13_1
     try clear hcz13_2
     try clear hcz15_0
     try clear hcz15_1
     try clear hcz15_2
     try clear hcz18_0
     try clear hcz18_1
     try clear hcz18_2
     try clear hcz5_0
     try clear hcz5_1
     try clear hcz5_2
     try clear hcz9_0
     try clear hcz9_1
     try clear hcz9_2
     try clear hcz9_3
     try clear hfz13_0
     try clear hfz13_1
     try clear hfz13_2
     try clear hfz15_0
     try clear hfz15_1
     try clear hfz15_2
     try clear hfz18_0
     try clear hfz18_1
     try clear hfz18_2
     try clear hfz5_0
     try clear hfz5_1
     try clear hfz5_2
     try clear hfz9_0
     try clear hfz9_1
     try clear hfz9_2
     try clear hfz9_3
     try clear p2
     obtain ⟨x28_2, rfl, HA, HK2, BK183, BK189, HB⟩ := hrel; cases gk with
     | zero => exact absurd HA.out (by simp [impl_Entry_valid.l0])
     | succ k2 =>
      have H := HA.out; clear HA; simp only [impl_Entry_valid.l0] at H; by_cases c19 : x28_2 < (a0_0.size : Int)
      ·
       rw [if_pos c19] at H; have c19b0 : decide (x28_2 < (a0_0.size : Int)) = true := decide_eq_true c19; clear c19; by_cases c20 : 0 ≤ x28_2
       ·
        rw [if_pos c20] at H; have c20b0 : decide (0 ≤ x28_2) = true := decide_eq_true c20; clear c20; by_cases c21 : x28_2 < (a0_0.size : Int)
        ·
         rw [if_pos c21] at H; have c21b0 : decide (x28_2 < (a0_0.size : Int)) = true := decide_eq_true c21; clear c21; by_cases c23 : (bt a0_0 x28_2) < 97
         ·
          rw [if_pos c23] at H; have c23b0 : decide ((bt a0_0 x28_2) < 97) = true := decide_eq_true c23; clear c23; obtain rfl := Option.some.inj H; have hnb24 := NB183_189.out; have hnc24 := NB189_183.out; have hcz25_0 : wr.cell? ⟨gb183, 0, none⟩ = some (.string a0_0) := (blk_cell BK183.out 0).trans rfl; have hcz25_1 : wr.cell? ⟨gb183, 1, none⟩ = some (.int .i64 a0_1) := (blk_cell BK183.out 1).trans rfl; have hcz25_2 : wr.cell? ⟨gb183, 2, none⟩ = some (.slice A0_2 l0_2.length c0_2) := (blk_cell BK183.out 2).trans rfl; have hfz25_0 := blk_frozen BK183.out 0; have hfz25_1 := blk_frozen BK183.out 1; have hfz25_2 := blk_frozen BK183.out 2; have p22 : 0 ≤ (x28_2 : Int) := of_decide_eq_true (by first | (with_reducible assumption) | assumption); have q22 : x28_2 < (a0_0.size : Int) := of_decide_eq_true (by first | (with_reducible assumption) | assumption); have hx22 := bt_at a0_0 x28_2; replace p22 := eq_true p22; replace q22 := eq_true q22; go_wp2; go_ret
          exact ⟨by first | rfl | (simp [errW_none, errW_some] <;> rfl) | (simp [*, errW_none, errW_some] <;> rfl), by repeat (first | (with_reducible first | exact HB.out | apply below_alloc | apply pw_below_drewN | apply below_drew1 | refine below_set ?_ GE183.out | refine below_set ?_ GE189.out) | exact HB.out)⟩
         ·
          rw [if_neg c23] at H; have c23b0 : decide ((bt a0_0 x28_2) < 97) = false := decide_eq_false c23; clear c23; by_cases c27 : (bt a0_0 x28_2) > 122
          ·
           rw [if_pos c27] at H; have c27b0 : decide (122 < (bt a0_0 x28_2)) = true := decide_eq_true c27; clear c27; obtain rfl := Option.some.inj H; have hnb28 := NB183_189.out; have hnc28 := NB189_183.out; have hcz29_0 : wr.cell? ⟨gb183, 0, none⟩ = some (.string a0_0) := (blk_cell BK183.out 0).trans rfl; have hcz29_1 : wr.cell? ⟨gb183, 1, none⟩ = some (.int .i64 a0_1) := (blk_cell BK183.out 1).trans rfl; have hcz29_2 : wr.cell? ⟨gb183, 2, none⟩ = some (.slice A0_2 l0_2.length c0_2) := (blk_cell BK183.out 2).trans rfl; have hfz29_0 := blk_frozen BK183.out 0; have hfz29_1 := blk_frozen BK183.out 1; have hfz29_2 := blk_frozen BK183.out 2; have p22 : 0 ≤ (x28_2 : Int) := of_decide_eq_true (by first | (with_reducible assumption) | assumption); have q22 : x28_2 < (a0_0.size : Int) := of_decide_eq_true (by first | (with_reducible assumption) | assumption); have hx22 := bt_at a0_0 x28_2; replace p22 := eq_true p22; replace q22 := eq_true q22; have p26 : 0 ≤ (x28_2 : Int) := of_decide_eq_true (by first | (with_reducible assumption) | assumption); have q26 : x28_2 < (a0_0.size : Int) := of_decide_eq_true (by first | (with_reducible assumption) | assumption); have hx26 := bt_at a0_0 x28_2; replace p26 := eq_true p26; replace q26 := eq_true q26; go_wp2; go_ret
           exact ⟨by first | rfl | (simp [errW_none, errW_some] <;> rfl) | (simp [*, errW_none, errW_some] <;> rfl), by repeat (first | (with_reducible first | exact HB.out | apply below_alloc | apply pw_below_drewN | apply below_drew1 | refine below_set ?_ GE183.out | refine below_set ?_ GE189.out) | exact HB.out)⟩
          ·
           rw [if_neg c27] at H; have c27b0 : decide (122 < (bt a0_0 x28_2)) = false := decide_eq_false c27; clear c27; have H' := Aside0.mk H; clear H; have hnb30 := NB183_189.out; have hnc30 := NB189_183.out; have hcz31_0 : wr.cell? ⟨gb183, 0, none⟩ = some (.string a0_0) := (blk_cell BK183.out 0).trans rfl; have hcz31_1 : wr.cell? ⟨gb183, 1, none⟩ = some (.int .i64 a0_1) := (blk_cell BK183.out 1).trans rfl; have hcz31_2 : wr.cell? ⟨gb183, 2, none⟩ = some (.slice A0_2 l0_2.length c0_2) := (blk_cell BK183.out 2).trans rfl; have hfz31_0 := blk_frozen BK183.out 0; have hfz31_1 := blk_frozen BK183.out 1; have hfz31_2 := blk_frozen BK183.out 2; have p22 : 0 ≤ (x28_2 : Int) := of_decide_eq_true (by first | (with_reducible assumption) | assumption); have q22 : x28_2 < (a0_0.size : Int) := of_decide_eq_true (by first | (with_reducible assumption) | assumption); have hx22 := bt_at a0_0 x28_2; replace p22 := eq_true p22; replace q22 := eq_true q22; have p26 : 0 ≤ (x28_2 : Int) := of_decide_eq_true (by first | (with_reducible assumption) | assumption); have q26 : x28_2 < (a0_0.size : Int) := of_decide_eq_true (by first | (with_reducible assumption) | assumption); have hx26 := bt_at a0_0 x28_2; replace p26 := eq_true p26; replace q26 := eq_true q26; go_wp2; go_roundg k2
           case measure => have := HJ2.out; have := HK2.out; omega
           case rel => exact ⟨(wrap64 (x28_2 + 1)), (by first | rfl | (simp; done) | (simp [*]; done)), H', ⟨by have := HJ2.out; have := HK2.out; omega⟩, ⟨by (with_reducible repeat (first | refine blk_drewN ?_ _ | refine blk_drew ?_ | refine blk_alloc ?_ _)); exact BK183.out⟩, ⟨by (with_reducible repeat (first | refine blk_drewN ?_ _ | refine blk_drew ?_ | refine blk_alloc ?_ _)); exact BK189.out⟩, ⟨by repeat (first | (with_reducible first | exact HB.out | apply below_alloc | apply pw_below_drewN | apply below_drew1 | refine below_set ?_ GE183.out | refine below_set ?_ GE189.out) | exact HB.out)⟩⟩
        ·
         rw [if_neg c21] at H; exact absurd H (by simp)
       ·
        rw [if_neg c20] at H; exact absurd H (by simp)
      ·
       rw [if_neg c19] at H; have c19b0 : decide (x28_2 < (a0_0.size : Int)) = false := decide_eq_false c19; clear c19; replace H := Option.bind_eq_some_iff.mp H; obtain ⟨t190, A320, H⟩ := H; replace H : (some t190) = some r := H; have A32 := Aside0.mk A320; clear A320; obtain rfl := Option.some.inj H; have hnb33 := NB183_189.out; have hnc33 := NB189_183.out; have hcz34_0 : wr.cell? ⟨gb183, 0, none⟩ = some (.string a0_0) := (blk_cell BK183.out 0).trans rfl; have hcz34_1 : wr.cell? ⟨gb183, 1, none⟩ = some (.int .i64 a0_1) := (blk_cell BK183.out 1).trans rfl; have hcz34_2 : wr.cell? ⟨gb183, 2, none⟩ = some (.slice A0_2 l0_2.length c0_2) := (blk_cell BK183.out 2).trans rfl; have hfz34_0 := blk_frozen BK183.out 0; have hfz34_1 := blk_frozen BK183.out 1; have hfz34_2 := blk_frozen BK183.out 2; go_wp2_with (first | ((with_reducible refine gate_callee (f := 98) rfl ?_); refine goesL_ (some 46) rfl rfl Tryd.func98 (by kernel_rfl) rfl #[.slice A0_2 l0_2.length c0_2, .int .i64 1, .int .i64 8] rfl (by (try simp only [List.map_toArray, List.map_cons, List.map_nil]); first | done | rfl | (simp only [List.length_drop, List.length_take]; rfl)) ?_; (with_reducible refine (impl_tonesValid.calls k2 _ _ l0_2 1 8 t190 _ ?side1 ?side2 A32.out).mono ?_); (case side1 => repeat (first | exact (Kd.C_below HR0_2.out HB.out) | (with_reducible refine Kd.C_alloc ?_ _) | (with_reducible refine Kd.C_drewN ?_ _) | (with_reducible refine Kd.C_drew ?_))); (case side2 => exact HC0_2.out); rintro e w35 ⟨rfl, hb⟩; refine ⟨_, rfl, ?_⟩; have n0_ := Aside0.mk (blk_below (g := gb183) (o := .cells #[.string a0_0, .int .i64 a0_1, .slice A0_2 l0_2.length c0_2] 38 (0, 0)) (by (with_reducible repeat (first | refine blk_drewN ?_ _ | refine blk_drew ?_ | refine blk_alloc ?_ _)); exact BK183.out) hb); have n1_ := Aside0.mk (blk_below (g := gb189) (o := .cells #[.int .i64 t184, .int .i64 t185, .int .i64 t186, .int .i64 t187] 115 (0, 0)) (by (with_reducible repeat (first | refine blk_drewN ?_ _ | refine blk_drew ?_ | refine blk_alloc ?_ _)); exact BK189.out) hb); have n2_ := Aside0.mk (below_step (by repeat (first | (with_reducible first | exact HB.out | apply below_alloc | apply pw_below_drewN | apply below_drew1 | refine below_set ?_ GE183.out | refine below_set ?_ GE189.out) | exact HB.out)) hb); clear BK183; clear BK189; clear HB; have BK183 := n0_; have BK189 := n1_; have HB := n2_; clear n0_ n1_ n2_; (try clear hb); (try clear hb2); (try clear hk); (try clear hi)))
       go_ret
       exact ⟨by first | rfl | (simp [errW_none, errW_some] <;> rfl) | (simp [*, errW_none, errW_some] <;> rfl), by repeat (first | (with_reducible first | exact HB.out | apply below_alloc | apply pw_below_drewN | apply below_drew1 | refine below_set ?_ GE183.out | refine below_set ?_ GE189.out) | exact HB.out)⟩

end Go.Proofs.YtmacedbpdhkagaaDoor.PFnTonaryDrop
namespace Go.Proofs.YtmacedbpdhkagaaDoor.PFnTonaryDrop
set_option linter.unusedVariables false
set_option linter.unusedSimpArgs false
open Go Go.RowKit Go.Proofs.YtmacedbpdhkagaaDoor.Pure Go.Proofs.YtmacedbpdhkagaaDoorW.PrintWords Go.Proofs.YtmacedbpdhkagaaDoorW.PrintLast Go.Proofs.YtmacedbpdhkagaaDoorW.PrintMore
def impl_copiedTones.f (l0 : List S90) : Option (List S90) := if l0.length ≤ 1000000000000 then some l0 else none
theorem impl_copiedTones.calls (A0 : Option Addr) (c0 : Nat) (l0 : List S90) (r : List S90) (w : World) (hr0 : Kd.C k90 w A0 l0.length l0) (hc0 : l0.length ≤ c0) (h : impl_copiedTones.f l0 = some r) :
 Calls Tryd.prog 88 #[.slice A0 l0.length c0] w fun e w' => ∃ v0_ : Value, e = .returned (v0_) ∧ Kd.R k90 90 w' w.heap.size (fun _ => True) v0_ r ∧ Below w.heap.size w w' := by
 unfold impl_copiedTones.f at h; split at h
 ·
  rename_i hh
  injection h with h
  subst h; exact impl_copiedTones_calls l0 A0 c0 w hr0 hc0 hh
 ·
  cases h

end Go.Proofs.YtmacedbpdhkagaaDoor.PFnTonaryDrop
namespace Go.Proofs.YtmacedbpdhkagaaDoor.PFnTonaryDrop
open Go.RowKit Go.Proofs.YtmacedbpdhkagaaDoorW.PrintWords Go.Proofs.YtmacedbpdhkagaaDoorW.PrintLast Go.Proofs.YtmacedbpdhkagaaDoorW.PrintMore
attribute [local go_sem] max2_int min2_int max_two min_two max_three min_three max_four min_four   -- for this text's walks alone
set_option linter.unusedVariables false
set_option linter.unusedSimpArgs false

def impl_Entry_copied.f (a0_0 : ByteArray) (a0_1 : Int) (l0_2 : List (S90)) : Option (ByteArray × Int × (List (S90))) := (impl_copiedTones.f l0_2).bind fun t174 => (some (a0_0, a0_1, t174))
set_option maxHeartbeats 8000000 in
set_option maxRecDepth 100000 in
theorem impl_Entry_copied.calls (a0_0 : ByteArray) (a0_1 : Int) (A0_2 : Option Addr) (c0_2 : Nat) (l0_2 : List (S90)) (r1 : ByteArray) (r2 : Int) (r3 : List (S90)) (w : World) (hr0_2 : Kd.C k90 w A0_2 l0_2.length l0_2) (hc0_2 : l0_2.length ≤ c0_2) (h : impl_Entry_copied.f a0_0 a0_1 l0_2 = some (r1, r2, r3)) :
 Calls Tryd.prog 55 #[.agg #[.string a0_0, .int .i64 a0_1, .slice A0_2 l0_2.length c0_2]] w fun e w' => ∃ v2_ : Value, e = .returned (.agg #[.string r1, .int .i64 r2, v2_]) ∧ Kd.R k90 90 w' w.heap.size (fun _ => True) v2_ r3 ∧ Below w.heap.size w w' := by
 have hu38 := Tryd.underlying38; have HR0_2 := Aside0.mk hr0_2; have HC0_2 := Aside0.mk hc0_2; clear hr0_2 hc0_2; have HB := Aside0.mk (Below.refl w.heap.size w); have H : ((impl_copiedTones.f l0_2).bind fun t174 => (some (a0_0, a0_1, t174))) = some (r1, r2, r3) := h; clear h; replace H := Option.bind_eq_some_iff.mp H; obtain ⟨t174, A20, H⟩ := H; replace H : (some (a0_0, a0_1, t174)) = some (r1, r2, r3) := H; have A2 := Aside0.mk A20; clear A20; simp only [Option.some.injEq, Prod.mk.injEq] at H; obtain ⟨rfl, rfl, rfl⟩ := H; go_enter Tryd.func55, Tryd.ntmps55
 go_wp2_with (first | ((with_reducible refine gate_dst (N := 1) rfl ?_); refine box_event ?hg (N := 1) ?hd (cs := #[.string a0_0, .int .i64 a0_1, .slice A0_2 l0_2.length c0_2]) (t := 38) ?hr ?_; (case hd => rfl); (case hg => rfl); (case hr => first | (go_simp; done) | (go_simp; rfl)); intro gb172 hg w3 hbox hb; have n0_ := Aside0.mk (below_step (by repeat (first | (with_reducible first | exact HB.out | apply below_alloc | apply pw_below_drewN | apply below_drew1) | exact HB.out)) hb); have n1_ := Aside0.mk (hbox); have n2_ := Aside0.mk ((by rw [hg]; exact (below_size (by repeat (first | (with_reducible first | exact HB.out | apply below_alloc | apply pw_below_drewN | apply below_drew1) | exact HB.out))) : w.heap.size ≤ gb172)); have n3_ := Aside0.mk ((by rw [hg]; exact (below_size (by repeat (first | (with_reducible first | exact HB.out | apply below_alloc | apply pw_below_drewN | apply below_drew1) | exact HB.out))) : w.heap.size ≤ gb172)); clear HB; have HB := n0_; have BK172 := n1_; have GW172 := n2_; have GE172 := n3_; clear n0_ n1_ n2_ n3_; clear hb hbox hg) | ((with_reducible refine gate_dst (N := 2) rfl ?_); refine box_event ?hg (N := 2) ?hd (cs := #[.string (⟨#[]⟩ : ByteArray), .int .i64 0, .slice none 0 0]) (t := 38) ?hr ?_; (case hd => rfl); (case hg => rfl); (case hr => first | (go_simp; done) | (go_simp; rfl)); intro gb173 hg w4 hbox hb; have n0_ := Aside0.mk (blk_below (g := gb172) (o := .cells #[.string a0_0, .int .i64 a0_1, .slice A0_2 l0_2.length c0_2] 38 (0, 0)) (by (with_reducible repeat (first | refine blk_drewN ?_ _ | refine blk_drew ?_ | refine blk_alloc ?_ _)); exact BK172.out) hb); have n1_ := Aside0.mk (below_step (by repeat (first | (with_reducible first | exact HB.out | apply below_alloc | apply pw_below_drewN | apply below_drew1 | refine below_set ?_ GE172.out) | exact HB.out)) hb); have n2_ := Aside0.mk (hbox); have n3_ := Aside0.mk ((by rw [hg]; exact (below_size (by repeat (first | (with_reducible first | exact HB.out | apply below_alloc | apply pw_below_drewN | apply below_drew1 | refine below_set ?_ GE172.out) | exact HB.out))) : w.heap.size ≤ gb173)); have n4_ := Aside0.mk ((by rw [hg]; exact (below_size (by repeat (first | (with_reducible first | exact HB.out | apply below_alloc | apply pw_below_drewN | apply below_drew1 | refine below_set ?_ GE172.out) | exact HB.out))) : w.heap.size ≤ gb173)); have n5_ := Aside0.mk ((by rw [hg]; exact Nat.ne_of_lt (blk_lt (g := gb172) (o := .cells #[.string a0_0, .int .i64 a0_1, .slice A0_2 l0_2.length c0_2] 38 (0, 0)) (by (with_reducible repeat (first | refine blk_drewN ?_ _ | refine blk_drew ?_ | refine blk_alloc ?_ _)); exact BK172.out)) : gb172 ≠ gb173)); have n6_ := Aside0.mk ((by rw [hg]; exact Nat.ne_of_gt (blk_lt (g := gb172) (o := .cells #[.string a0_0, .int .i64 a0_1, .slice A0_2 l0_2.length c0_2] 38 (0, 0)) (by (with_reducible repeat (first | refine blk_drewN ?_ _ | refine blk_drew ?_ | refine blk_alloc ?_ _)); exact BK172.out)) : gb173 ≠ gb172)); clear BK172; clear HB; have BK172 := n0_; have HB := n1_; have BK173 := n2_; have GW173 := n3_; have GE173 := n4_; have NB172_173 := n5_; have NB173_172 := n6_; clear n0_ n1_ n2_ n3_ n4_ n5_ n6_; clear hb hbox hg; have hnb5 := NB172_173.out; have hnc5 := NB173_172.out; have hcz6_0 : w4.cell? ⟨gb172, 0, none⟩ = some (.string a0_0) := (blk_cell BK172.out 0).trans rfl; have hcz6_1 : w4.cell? ⟨gb172, 1, none⟩ = some (.int .i64 a0_1) := (blk_cell BK172.out 1).trans rfl; have hcz6_2 : w4.cell? ⟨gb172, 2, none⟩ = some (.slice A0_2 l0_2.length c0_2) := (blk_cell BK172.out 2).trans rfl; have hfz6_0 := blk_frozen BK172.out 0; have hfz6_1 := blk_frozen BK172.out 1; have hfz6_2 := blk_frozen BK172.out 2) | ((with_reducible refine gate_callee (f := 88) rfl ?_); refine goesL_ (some 5) rfl rfl Tryd.func88 (by kernel_rfl) rfl #[.slice A0_2 l0_2.length c0_2] rfl (by (try simp only [List.map_toArray, List.map_cons, List.map_nil]); first | done | rfl | (simp only [List.length_drop, List.length_take]; rfl)) ?_; (with_reducible refine (impl_copiedTones.calls _ _ l0_2 t174 _ ?side1 ?side2 A2.out).mono ?_); (case side1 => repeat (first | exact (Kd.C_below HR0_2.out HB.out) | (with_reducible refine Kd.C_alloc ?_ _) | (with_reducible refine Kd.C_drewN ?_ _) | (with_reducible refine Kd.C_drew ?_))); (case side2 => exact HC0_2.out); rintro e w7 ⟨v175, rfl, ho0, hb⟩; refine ⟨_, rfl, ?_⟩; have n0_ := Aside0.mk (Kd.R_lower ho0 (below_size (by repeat (first | (with_reducible first | exact HB.out | apply below_alloc | apply pw_below_drewN | apply below_drew1 | refine below_set ?_ GE172.out | refine below_set ?_ GE173.out) | exact HB.out)))); have n1_ := Aside0.mk (blk_below (g := gb172) (o := .cells #[.string a0_0, .int .i64 a0_1, .slice A0_2 l0_2.length c0_2] 38 (0, 0)) (by (with_reducible repeat (first | refine blk_drewN ?_ _ | refine blk_drew ?_ | refine blk_alloc ?_ _)); exact BK172.out) hb); have n2_ := Aside0.mk (blk_below (g := gb173) (o := .cells #[.string (⟨#[]⟩ : ByteArray), .int .i64 0, .slice none 0 0] 38 (0, 0)) (by (with_reducible repeat (first | refine blk_drewN ?_ _ | refine blk_drew ?_ | refine blk_alloc ?_ _)); exact BK173.out) hb); have n3_ := Aside0.mk (below_step (by repeat (first | (with_reducible first | exact HB.out | apply below_alloc | apply pw_below_drewN | apply below_drew1 | refine below_set ?_ GE172.out | refine below_set ?_ GE173.out) | exact HB.out)) hb); clear BK172; clear BK173; clear HB; have HO176 := n0_; have BK172 := n1_; have BK173 := n2_; have HB := n3_; clear n0_ n1_ n2_ n3_; (try clear hb); (try clear hb2); (try clear hk); (try clear hi); (try clear ho0); obtain ⟨Ao8, co8, eo8⟩ := Kd.R_slice HO176.out; subst eo8; have hcz9_0 : w7.cell? ⟨gb172, 0, none⟩ = some (.string a0_0) := (blk_cell BK172.out 0).trans rfl; have hcz9_1 : w7.cell? ⟨gb172, 1, none⟩ = some (.int .i64 a0_1) := (blk_cell BK172.out 1).trans rfl; have hcz9_2 : w7.cell? ⟨gb172, 2, none⟩ = some (.slice A0_2 l0_2.length c0_2) := (blk_cell BK172.out 2).trans rfl; have hfz9_0 := blk_frozen BK172.out 0; have hfz9_1 := blk_frozen BK172.out 1; have hfz9_2 := blk_frozen BK172.out 2; have hcz10_0 : w7.cell? ⟨gb173, 0, none⟩ = some (.string (⟨#[]⟩ : ByteArray)) := (blk_cell BK173.out 0).trans rfl; have hcz10_1 : w7.cell? ⟨gb173, 1, none⟩ = some (.int .i64 0) := (blk_cell BK173.out 1).trans rfl; have hcz10_2 : w7.cell? ⟨gb173, 2, none⟩ = some (.slice none 0 0) := (blk_cell BK173.out 2).trans rfl; have hfz10_0 := blk_frozen BK173.out 0; have hfz10_1 := blk_frozen BK173.out 1; have hfz10_2 := blk_frozen BK173.out 2))
 refine bodyPost_ret (results_cell_row rfl _ _ gb173 38 #[.string a0_0, .int .i64 a0_1, .slice Ao8 t174.length co8] (0, 0) _ rfl (by (with_reducible repeat (first | refine blk_drewN ?_ _ | refine blk_drew ?_ | refine blk_alloc ?_ _)); refine blk_put (cs := #[.string a0_0, .int .i64 a0_1, .slice none 0 0]) ?_ 2 _ rfl; (with_reducible repeat (first | refine blk_drewN ?_ _ | refine blk_drew ?_ | refine blk_alloc ?_ _)); refine blk_put (cs := #[.string a0_0, .int .i64 0, .slice none 0 0]) ?_ 1 _ rfl; (with_reducible repeat (first | refine blk_drewN ?_ _ | refine blk_drew ?_ | refine blk_alloc ?_ _)); refine blk_put (cs := #[.string (⟨#[]⟩ : ByteArray), .int .i64 0, .slice none 0 0]) ?_ 0 _ rfl; (with_reducible repeat (first | refine blk_drewN ?_ _ | refine blk_drew ?_ | refine blk_alloc ?_ _)); refine blk_far ?_ NB173_172.out _; (with_reducible repeat (first | refine blk_drewN ?_ _ | refine blk_drew ?_ | refine blk_alloc ?_ _)); exact BK173.out) Tryd.underlying38 rfl (by kernel_rfl)) rfl ?_; exact ⟨_, by first | rfl | (simp [errW_none, errW_some] <;> rfl) | (simp [*, errW_none, errW_some] <;> rfl), by (with_reducible repeat (first | apply Kd.R_alloc | apply Kd.R_drewN | apply Kd.R_drew)); exact Kd.R_mono (Kd.R_far (p := ⟨gb173, 2, none⟩) (Kd.R_far (p := ⟨gb173, 1, none⟩) (Kd.R_far (p := ⟨gb173, 0, none⟩) (Kd.R_far (p := ⟨gb172, 2, none⟩) (Kd.R_types (Kd.R_types HO176.out BK172.out (by decide)) BK173.out (by decide)) (fun _ hk => hk.1.2) (.slice Ao8 t174.length co8)) (fun _ hk => hk.2) (.string a0_0)) (fun _ hk => hk.2) (.int .i64 a0_1)) (fun _ hk => hk.2) (.slice Ao8 t174.length co8)) (fun _ hk => trivial), by repeat (first | (with_reducible first | exact HB.out | apply below_alloc | apply pw_below_drewN | apply below_drew1 | refine below_set ?_ GE172.out | refine below_set ?_ GE173.out) | exact HB.out)⟩

end Go.Proofs.YtmacedbpdhkagaaDoor.PFnTonaryDrop
namespace Go.Proofs.YtmacedbpdhkagaaDoor.Pure
set_option linter.unusedVariables false
set_option linter.unusedSimpArgs false
open Go Go.RowKit Go.Proofs.YtmacedbpdhkagaaDoor.PFnTonaryDrop Go.Proofs.YtmacedbpdhkagaaDoorW.PrintWords Go.Proofs.YtmacedbpdhkagaaDoorW.PrintLast Go.Proofs.YtmacedbpdhkagaaDoorW.PrintMore

theorem impl_tonesValid_ev (l : List S90) (a b : Int) : Ev (fun n => impl_tonesValid.f n l a b) (decide (a ≤ (l.length : Int) ∧ (l.length : Int) ≤ b) && melOk l) := by
 unfold impl_tonesValid.f
 by_cases h1 : (l.length : Int) ≥ a
 ·
  refine Ev.pos h1 ?_
  by_cases h2 : (l.length : Int) ≤ b
  ·
   refine Ev.pos h2 (Ev.bind (impl_MelodyValid_ev l) (Ev.eqr (Ev.now _) ?_))
   rw [decide_eq_true ⟨h1, h2⟩, Bool.true_and]
  ·
   exact Ev.neg h2 (Ev.eqr (Ev.now _) (by rw [decide_eq_false (fun h => h2 h.2), Bool.false_and]))
 ·
  exact Ev.neg h1 (Ev.eqr (Ev.now _) (by rw [decide_eq_false (fun h => h1 h.1), Bool.false_and]))
theorem bt_get (s : ByteArray) (i : Nat) (h : i < s.size) : ∃ c : UInt8, bt s (i : Int) = (c.toNat : Int) ∧ s.data.toList.drop i = c :: s.data.toList.drop (i + 1) := by
 refine ⟨s[i], ?_, ?_⟩
 ·
  rw [← bt_at s (i : Int) (by simpa using h)]
  simp
 ·
  have hl : i < s.data.toList.length := by simpa using h
  rw [List.drop_eq_getElem_cons hl]; rfl
theorem impl_Entry_valid_ev (e : S38) (hs : e.f0.size ≤ 9223372036854775806) : Ev (fun n => impl_Entry_valid.f n e.f0 e.f1 e.f2) (entOk e) := by
 unfold impl_Entry_valid.f entOk
 have no : Ev (fun n => impl_Entry_valid.j0 n true e.f0 e.f1 e.f2) false := by
  refine Ev.succ ?_
  simp only [impl_Entry_valid.j0]
  exact Ev.pos trivial (Ev.now _)
 refine Ev.conb (a := ((mRz e.f1).1, (mRz e.f1).2.1, (mRz e.f1).2.2.1, (mRz e.f1).2.2.2, mOk e.f1)) rfl ?_
 show Ev (fun n => if mOk e.f1 = true then _ else _) _
 cases hm : mOk e.f1
 ·
  exact Ev.neg (by simp) no
 refine Ev.pos rfl ?_
 rw [Bool.true_and]
 have hsz : e.f0.toList.length = e.f0.size := by rw [Lib.toList_data]; simp
 by_cases h0 : e.f0.toList = []
 ·
  refine Ev.pos h0 ?_
  have : e.f0.size = 0 := by rw [← hsz, h0]; rfl
  rw [decide_eq_false (by omega), Bool.false_and]
  exact no
 refine Ev.neg h0 ?_
 have hpos : 0 < e.f0.size := by
  rw [← hsz]; exact List.length_pos_iff.2 h0
 by_cases h1 : e.f0.size ≤ 10
 ·
  rw [decide_eq_true (show 1 ≤ e.f0.size ∧ e.f0.size ≤ 10 from ⟨hpos, h1⟩), Bool.true_and, decide_eq_false (show ¬ (e.f0.size : Int) > 10 by omega)]
  refine Ev.succ ?_
  simp only [impl_Entry_valid.j0]
  refine Ev.neg (by simp) ?_
  have key : ∀ d i : Nat, i + d = e.f0.size → Ev (fun n => impl_Entry_valid.l0 n (e.f0.size : Int) (i : Int) e.f0 e.f1 e.f2) (lowB (e.f0.data.toList.drop i) && (decide (1 ≤ e.f2.length ∧ e.f2.length ≤ 8) && melOk e.f2)) := by
   intro d
   induction d with
   | zero =>
    intro i hi
    refine Ev.succ ?_
    simp only [impl_Entry_valid.l0]
    rw [List.drop_of_length_le (by simp; omega)]
    have e1 := impl_tonesValid_ev e.f2 1 8
    rw [show (decide ((1 : Int) ≤ (e.f2.length : Int) ∧ (e.f2.length : Int) ≤ 8)) = decide (1 ≤ e.f2.length ∧ e.f2.length ≤ 8) from decide_eq_decide.2 (by omega)] at e1
    exact Ev.neg (by omega) (Ev.bind e1 (Ev.eqr (Ev.now _) (by simp [lowB])))
   | succ d ih =>
    intro i hi
    obtain ⟨c, hc, hdr⟩ := bt_get e.f0 i (by omega)
    refine Ev.succ ?_
    simp only [impl_Entry_valid.l0]
    rw [hc, hdr, w64 (x := (i : Int) + 1) (by omega) (by omega)]
    have e2 : lowB (c :: e.f0.data.toList.drop (i + 1)) = (decide (97 ≤ c.toNat ∧ c.toNat ≤ 122) && lowB (e.f0.data.toList.drop (i + 1))) := rfl
    rw [e2]
    refine Ev.pos (by omega) (Ev.pos (by omega) (Ev.pos (by omega) ?_))
    by_cases h97 : (c.toNat : Int) < 97
    ·
     refine Ev.pos h97 (Ev.eqr (Ev.now _) ?_)
     rw [decide_eq_false (by omega)]; rfl
    refine Ev.neg h97 ?_
    by_cases h122 : (c.toNat : Int) > 122
    ·
     refine Ev.pos h122 (Ev.eqr (Ev.now _) ?_)
     rw [decide_eq_false (by omega)]; rfl
    refine Ev.neg h122 ?_
    rw [decide_eq_true (show 97 ≤ c.toNat ∧ c.toNat ≤ 122 by omega), Bool.true_and]
    exact ih (i + 1) (by omega)
  exact key e.f0.size 0 (by omega)
 ·
  rw [decide_eq_false (show ¬ (1 ≤ e.f0.size ∧ e.f0.size ≤ 10) by omega), Bool.false_and, decide_eq_true (show (e.f0.size : Int) > 10 by omega)]
  exact no

open Go.MapKept Go.ChangeMaps in
def MapFn (w : World) (M : Nat) (F : Int → Option Value) : Prop :=
 ∃ es clock, w.heap[M]? = some (.map es clock) ∧ (es.toList.map (·.key)).Nodup ∧ (∀ e ∈ es.toList, ∃ k, e.key = .int .i64 k ∧ F k = some e.val) ∧ ∀ k v, F k = some v → ∃ e ∈ es.toList, e.key = .int .i64 k ∧ e.val = v
theorem MapFn.made {w : World} {M : Nat} (h : w.heap[M]? = some (.map #[] 0)) : MapFn w M (fun _ => none) := ⟨_, _, h, by simp, by simp, by simp⟩
theorem MapFn.lt {w : World} {M : Nat} {F : Int → Option Value} (h : MapFn w M F) : M < w.heap.size := by
 obtain ⟨es, clock, hb, _⟩ := h; exact blk_lt hb
theorem MapFn.move {w w' : World} {M : Nat} {F : Int → Option Value} (h : MapFn w M F) (hw : w'.heap[M]? = w.heap[M]?) : MapFn w' M F := by
 obtain ⟨es, clock, hb, h⟩ := h; exact ⟨es, clock, hw.trans hb, h⟩
theorem MapFn.look {P : Program} {w : World} {M : Nat} {F : Int → Option Value} (h : MapFn w M F) {t kt e : TypeId} (ht : P.underlying t = some (.map kt e)) (hk : P.underlying kt = some (.int .i64)) {z : Value} (hz : ∀ w, (zeroValue e).run P w = .ok z w) (k : Int) (c : Bool) :
 (Instr.lookup t (.map (some M)) (.int .i64 k) c).run P w = .ok (if c then .tuple #[(F k).getD z, .bool (F k).isSome] else (F k).getD z) w := by
 obtain ⟨es, clock, hb, _, h1, h2⟩ := h
 have hkey : MapKept.IsKey (.int .i64) (.int .i64 k) := by simp [MapKept.IsKey]
 have hks : ∀ x ∈ es.toList, MapKept.IsKey (.int .i64) x.key := fun x hx => by
  obtain ⟨k, hk, _⟩ := h1 x hx
  rw [hk]; simp [MapKept.IsKey]
 rcases MapKept.findNow_spec hkey es.toList 0 hks with ⟨f1, f2⟩ | ⟨j, e0, f1, f2, f3⟩
 ·
  have hF : F k = none := by
   cases hF : F k with
   | none => rfl
   | some v =>
    obtain ⟨x, hx, hx1, _⟩ := h2 k v hF
    exact absurd hx1 (f2 x hx)
  simp [Instr.lookup, run_underlying ht, MapKept.run_getObj_map hb, MapKept.run_checkKey hk hkey, MapKept.run_findKey hk f1, hz, Result.andThen, hF]
 ·
  have hm : e0 ∈ es.toList := List.mem_of_getElem? f2
  obtain ⟨k', hk', hF⟩ := h1 e0 hm
  have e1 : k' = k := by rw [f3] at hk'; cases hk'; rfl
  subst e1
  simp [Instr.lookup, run_underlying ht, MapKept.run_getObj_map hb, MapKept.run_checkKey hk hkey, MapKept.run_findKey hk f1, Result.andThen, hF]
theorem MapFn.put {P : Program} {w : World} {M : Nat} {F : Int → Option Value} (h : MapFn w M F) {t kt e : TypeId} (ht : P.underlying t = some (.map kt e)) (hk : P.underlying kt = some (.int .i64)) (k : Int) (v : Value) :
 ∃ es clock, (Instr.mapUpdate t (.map (some M)) (.int .i64 k) v).run P w = .ok () (ChangeMaps.setBlock w M (.map es clock)) ∧ MapFn (ChangeMaps.setBlock w M (.map es clock)) M (fun j => if j = k then some v else F j) := by
 obtain ⟨es, clock, hb, hn, h1, h2⟩ := h
 have hlt := blk_lt hb
 have hset : ∀ o, (ChangeMaps.setBlock w M o).heap[M]? = some o := fun o => by simp [ChangeMaps.setBlock, hlt]
 have hkey : MapKept.IsKey (.int .i64) (.int .i64 k) := by simp [MapKept.IsKey]
 have hks : ∀ x ∈ es.toList, MapKept.IsKey (.int .i64) x.key := fun x hx => by
  obtain ⟨k, hk, _⟩ := h1 x hx
  rw [hk]; simp [MapKept.IsKey]
 rcases MapKept.findNow_spec hkey es.toList 0 hks with ⟨f1, f2⟩ | ⟨j, e0, f1, f2, f3⟩
 ·
  refine ⟨es.push ⟨.int .i64 k, v, clock⟩, clock + 1, ?_, _, _, hset _, ?_, ?_, ?_⟩
  ·
   simp [Instr.mapUpdate, run_underlying ht, MapKept.run_getObj_map hb, MapKept.run_checkKey hk hkey, MapKept.run_findKey hk f1, MapKept.run_setObj_map _ hb, Result.andThen, ChangeMaps.setBlock]
  ·
   simp only [Array.toList_push, List.map_append, List.map_cons, List.map_nil]
   rw [List.nodup_append]
   refine ⟨hn, by simp, ?_⟩
   intro a ha b hb'
   obtain ⟨x, hx, rfl⟩ := List.mem_map.1 ha
   rw [List.mem_singleton.1 hb']
   exact f2 x hx
  ·
   intro x hx
   simp only [Array.toList_push, List.mem_append, List.mem_singleton] at hx
   rcases hx with hx | rfl
   ·
    obtain ⟨k', hk', hF⟩ := h1 x hx
    refine ⟨k', hk', ?_⟩
    have : k' ≠ k := fun e => f2 x hx (by rw [hk', e])
    show (if k' = k then _ else _) = _
    rw [if_neg this]; exact hF
   ·
    exact ⟨k, rfl, if_pos rfl⟩
  ·
   intro k' v' hF
   replace hF : (if k' = k then some v else F k') = some v' := hF
   simp only [Array.toList_push, List.mem_append, List.mem_singleton]
   by_cases e : k' = k
   ·
    subst e
    rw [if_pos rfl] at hF
    cases hF
    exact ⟨_, .inr rfl, rfl, rfl⟩
   ·
    rw [if_neg e] at hF
    obtain ⟨x, hx, hx1⟩ := h2 k' v' hF
    exact ⟨x, .inl hx, hx1⟩
 ·
  have hm : e0 ∈ es.toList := List.mem_of_getElem? f2
  have hjl := (List.getElem?_eq_some_iff.1 f2).1
  have hje : es[j]? = some e0 := by simpa using f2
  have hmod : (es.modify j fun e => { e with key := .int .i64 k, val := v }).toList = es.toList.set j { e0 with key := .int .i64 k, val := v } := by
   apply List.ext_getElem?
   intro i
   rw [Array.getElem?_toList, Array.getElem?_modify, List.getElem?_set]
   by_cases e : j = i
   ·
    subst e
    rw [if_pos rfl, if_pos rfl, hje, if_pos hjl]; rfl
   ·
    rw [if_neg e, if_neg e, Array.getElem?_toList]
  refine ⟨es.modify j fun e => { e with key := .int .i64 k, val := v }, clock, ?_, _, _, hset _, ?_, ?_, ?_⟩
  ·
   simp [Instr.mapUpdate, run_underlying ht, MapKept.run_getObj_map hb, MapKept.run_checkKey hk hkey, MapKept.run_findKey hk f1, MapKept.run_setObj_map _ hb, hje, f3, MapKept.run_keyThatStays hkey, Result.andThen, ChangeMaps.setBlock]
  ·
   rw [hmod, List.map_set]
   have : (es.toList.map (·.key)).set j (.int .i64 k) = es.toList.map (·.key) := by
    apply List.ext_getElem?
    intro i
    rw [List.getElem?_set]
    by_cases e : j = i
    ·
     subst e
     rw [if_pos rfl, List.length_map, if_pos hjl, List.getElem?_map, f2]
     simp [f3]
    ·
     rw [if_neg e]
   rw [this]; exact hn
  ·
   intro x hx
   rw [hmod] at hx
   obtain ⟨i, hi⟩ := List.mem_iff_getElem?.1 hx
   rw [List.getElem?_set] at hi
   by_cases e : j = i
   ·
    subst e
    rw [if_pos rfl, if_pos hjl] at hi
    cases hi
    exact ⟨k, rfl, if_pos rfl⟩
   ·
    rw [if_neg e] at hi
    obtain ⟨k', hk', hF⟩ := h1 x (List.mem_of_getElem? hi)
    refine ⟨k', hk', ?_⟩
    have : k' ≠ k := by
     rintro rfl
     have hnn := List.nodup_iff_pairwise_ne.1 hn
     have a1 : (es.toList.map (·.key))[i]? = some (.int .i64 k') := by rw [List.getElem?_map, hi]; simp [hk']
     have a2 : (es.toList.map (·.key))[j]? = some (.int .i64 k') := by rw [List.getElem?_map, f2]; simp [f3]
     obtain ⟨i1, i2⟩ := List.getElem?_eq_some_iff.1 a1
     obtain ⟨j1, j2⟩ := List.getElem?_eq_some_iff.1 a2
     exact e ((List.getElem_inj hn).1 (j2.trans i2.symm))
    show (if k' = k then _ else _) = _
    rw [if_neg this]; exact hF
  ·
   intro k' v' hF
   replace hF : (if k' = k then some v else F k') = some v' := hF
   rw [hmod]
   by_cases e : k' = k
   ·
    subst e
    rw [if_pos rfl] at hF
    cases hF
    exact ⟨_, List.mem_iff_getElem?.2 ⟨j, by rw [List.getElem?_set, if_pos rfl, if_pos hjl]⟩, rfl, rfl⟩
   ·
    rw [if_neg e] at hF
    obtain ⟨x, hx, hx1, hx2⟩ := h2 k' v' hF
    obtain ⟨i, hi⟩ := List.mem_iff_getElem?.1 hx
    have hji : j ≠ i := by
     rintro rfl
     rw [f2] at hi; cases hi
     rw [f3] at hx1; cases hx1; exact e rfl
    exact ⟨x, List.mem_iff_getElem?.2 ⟨i, by rw [List.getElem?_set, if_neg hji]; exact hi⟩, hx1, hx2⟩
theorem below_setBlock {w W : World} {B M : Nat} {o : Obj} (h : Below B w W) (hM : B ≤ M) : Below B w (ChangeMaps.setBlock W M o) :=
 h.trans ⟨rfl, rfl, rfl, by simp [ChangeMaps.setBlock], fun k hk => by simp [ChangeMaps.setBlock, show M ≠ k by omega]⟩
def TonAt (w : World) (base M : Nat) (own : Nat → Int) (F : Int → Option Value) (G : Int → List S38) : Prop :=
 base ≤ M ∧ MapFn w M F ∧ (∀ k, F k = none → G k = []) ∧ ∀ k v, F k = some v → Kd.S k38 38 w base (fun b => own b = k ∧ b ≠ M) v (G k)
def TonMap (w : World) (base M : Nat) (G : Int → List S38) : Prop := ∃ own F, TonAt w base M own F G
theorem TonAt.below {w w' : World} {base M : Nat} {own : Nat → Int} {F : Int → Option Value} {G : Int → List S38} (h : TonAt w base M own F G) (hb : Below w.heap.size w w') : TonAt w' base M own F G :=
 ⟨h.1, h.2.1.move (hb.block _ h.2.1.lt), h.2.2.1, fun k v hv => Kd.S_below (h.2.2.2 k v hv) hb⟩
theorem TonMap.made {w : World} {base M : Nat} (hb : base ≤ M) (h : w.heap[M]? = some (.map #[] 0)) : TonMap w base M (fun _ => []) :=
 ⟨fun _ => 0, fun _ => none, hb, MapFn.made h, fun _ _ => rfl, fun k v h => by cases h⟩
theorem TonMap.cong {w : World} {base M : Nat} {G G' : Int → List S38} (h : TonMap w base M G) (e : ∀ k, G k = G' k) : TonMap w base M G' := by
 rw [← show G = G' from funext e]; exact h
/-- What stands at a key: a row of its own. -/
theorem TonAt.row {w : World} {base M : Nat} {own : Nat → Int} {F : Int → Option Value} {G : Int → List S38} (h : TonAt w base M own F G) (k : Int) : Kd.S k38 38 w base (fun b => own b = k ∧ b ≠ M) ((F k).getD (.slice none 0 0)) (G k) := by
 cases hF : F k with
 | none => rw [h.2.2.1 k hF]; exact Kd.S_nil _ _ _ _ _
 | some v => exact h.2.2.2 k v hF
theorem TonAt.look {w : World} {base M : Nat} {own : Nat → Int} {F : Int → Option Value} {G : Int → List S38} (h : TonAt w base M own F G) (k : Int) : (Instr.lookup 72 (.map (some M)) (.int .i64 k) false).run Tryd.prog w = .ok ((F k).getD (.slice none 0 0)) w := by
 have := h.2.1.look (P := Tryd.prog) Tryd.underlying72 Tryd.underlying3 (z := .slice none 0 0) (fun _ => by kernel_rfl) k false
 simpa using this
/-- The row at a key is set. -/
theorem TonAt.put {w1 : World} {base M n : Nat} {own : Nat → Int} {F : Int → Option Value} {G : Int → List S38} {k : Int} {v : Value} {l : List S38} (hM : base ≤ M) (hMn : M < n)
 (hF : MapFn w1 M F) (hF0 : ∀ j, F j = none → G j = []) (ho : ∀ j, j ≠ k → Kd.S k38 38 w1 base (fun b => (own b = j ∧ b ≠ M) ∧ b < n) ((F j).getD (.slice none 0 0)) (G j)) (hv : Kd.S k38 38 w1 base (fun b => (own b = k ∧ b ≠ M) ∨ n ≤ b) v l) :
 ∃ es clock, (Instr.mapUpdate 72 (.map (some M)) (.int .i64 k) v).run Tryd.prog w1 = .ok () (ChangeMaps.setBlock w1 M (.map es clock)) ∧ TonMap (ChangeMaps.setBlock w1 M (.map es clock)) base M (fun j => if j = k then l else G j) := by
 obtain ⟨es, clock, hrun, hmf⟩ := hF.put (P := Tryd.prog) Tryd.underlying72 Tryd.underlying3 k v
 have keep : ∀ b, b ≠ M → (ChangeMaps.setBlock w1 M (.map es clock)).heap[b]? = w1.heap[b]? := fun b hb => by
  simp [ChangeMaps.setBlock, show M ≠ b from fun e => hb e.symm]
 refine ⟨es, clock, hrun, fun b => if b < n then own b else k, _, hM, hmf, fun j hj => ?_, fun j u hj => ?_⟩
 ·
  replace hj : (if j = k then some v else F j) = none := hj
  show (if j = k then l else G j) = []
  by_cases e : j = k
  ·
   rw [if_pos e] at hj; cases hj
  ·
   rw [if_neg e] at hj ⊢; exact hF0 j hj
 ·
  replace hj : (if j = k then some v else F j) = some u := hj
  show Kd.S k38 38 _ base _ u (if j = k then l else G j)
  by_cases e : j = k
  ·
   subst e
   rw [if_pos rfl] at hj ⊢
   cases hj
   refine Kd.S_mono (Kd.S_step hv (fun b hb _ => keep b ?_)) (fun b hb => ?_)
   ·
    rcases hb with hb | hb
    ·
     exact hb.2
    ·
     omega
   ·
    rcases hb with hb | hb
    ·
     refine ⟨?_, hb.2⟩
     show (if b < n then own b else j) = j
     split
     ·
      exact hb.1
     ·
      rfl
    ·
     refine ⟨?_, by omega⟩
     show (if b < n then own b else j) = j
     rw [if_neg (by omega)]
  ·
   rw [if_neg e] at hj ⊢
   have hr := ho j e
   rw [hj] at hr
   refine Kd.S_mono (Kd.S_step hr (fun b hb _ => keep b hb.1.2)) (fun b hb => ⟨?_, hb.1.2⟩)
   show (if b < n then own b else k) = j
   rw [if_pos hb.2]; exact hb.1.1
theorem TonAt.bound {w : World} {base M : Nat} {own : Nat → Int} {v : Value} {l : List S38} {j : Int} (h : Kd.S k38 38 w base (fun b => own b = j ∧ b ≠ M) v l) : Kd.S k38 38 w base (fun b => (own b = j ∧ b ≠ M) ∧ b < w.heap.size) v l :=
 Kd.S_mono (Kd.S_bound h) (fun b hb => ⟨hb.1, hb.2.2.1⟩)
/-- An entry is put behind the row of key k: what the map then is. (n: the world ahead of all that was made since.) -/
theorem TonAt.append {w w1 w2 : World} {base M : Nat} {own : Nat → Int} {F : Int → Option Value} {G : Int → List S38} {k : Int} {v : Value} {l : List S38} (h : TonAt w base M own F G) (hb : Below w.heap.size w w1)
 (hg : w1.grownBy w2 ((F k).getD (.slice none 0 0)).ownBlock) (hv : Kd.S k38 38 w2 base (fun b => (own b = k ∧ b ≠ M) ∨ w.heap.size ≤ b) v l) :
 ∃ es clock, (Instr.mapUpdate 72 (.map (some M)) (.int .i64 k) v).run Tryd.prog w2 = .ok () (ChangeMaps.setBlock w2 M (.map es clock)) ∧ TonMap (ChangeMaps.setBlock w2 M (.map es clock)) base M (fun j => if j = k then l else G j) := by
 have hrow := (Kd.S_R (h.row k)).1
 refine TonAt.put (n := w.heap.size) h.1 h.2.1.lt ((h.2.1.move (hb.block _ h.2.1.lt)).move (hg.block _ (Nat.lt_of_lt_of_le h.2.1.lt hb.size) (fun e => (hrow M e.symm).2 rfl))) h.2.2.1 (fun j hj => ?_) hv
 refine Kd.S_grown (Kd.S_below (TonAt.bound (h.row j)) hb) hg (fun b hb e => ?_)
 exact hj (hb.1.1.symm.trans (hrow b e.symm).1)
theorem TonAt.elder {w w1 : World} {base M : Nat} {own : Nat → Int} {F : Int → Option Value} {G : Int → List S38} (h : TonAt w base M own F G) (hb : Below w.heap.size w w1) (k : Int) : Kd.S k38 38 w1 base (fun b => ((own b = k ∧ b ≠ M) ∨ w.heap.size ≤ b) ∧ ¬ w.heap.size ≤ b) ((F k).getD (.slice none 0 0)) (G k) :=
 Kd.S_mono (Kd.S_below (TonAt.bound (h.row k)) hb) (fun _ hb => ⟨.inl hb.1, by omega⟩)
theorem TonAt.ne {w : World} {base M : Nat} {own : Nat → Int} {F : Int → Option Value} {G : Int → List S38} (h : TonAt w base M own F G) (k : Int) : ∀ b, w.heap.size ≤ b → some b ≠ ((F k).getD (.slice none 0 0)).ownBlock :=
 fun b hb e => by have := Kd.S_lt (h.row k) b e.symm; omega
theorem cell_setBlock {w : World} {M : Nat} {o : Obj} {a : Addr} {v : Value} (h : w.cell? a = some v) (hne : a.block ≠ M) : (ChangeMaps.setBlock w M o).cell? a = some v := by
 have hb : (ChangeMaps.setBlock w M o).heap[a.block]? = w.heap[a.block]? := by simp [ChangeMaps.setBlock, show M ≠ a.block from fun e => hne e.symm]
 simpa [World.cell?, hb] using h

end Go.Proofs.YtmacedbpdhkagaaDoor.Pure
namespace Go.Proofs.YtmacedbpdhkagaaDoor.Pure
set_option linter.unusedVariables false
set_option linter.unusedSimpArgs false
open Go Go.RowKit Go.Proofs.YtmacedbpdhkagaaDoor.PFnTonaryDrop Go.Proofs.YtmacedbpdhkagaaDoorW.PrintWords Go.Proofs.YtmacedbpdhkagaaDoorW.PrintLast Go.Proofs.YtmacedbpdhkagaaDoorW.PrintMore

theorem leq_run (P : Program) (t : TypeId) (a b : ByteArray) (w : World) : (binOp .leq t (.string a) (.string b)).run P w = .ok (.bool (Op.bytesLess a.toList b.toList || a.toList == b.toList)) w := by
 have : binOp .leq t (.string a) (.string b) = pure (.bool (Op.bytesLess a.toList b.toList || a.toList == b.toList)) := by simp [binOp, Op.stringOp]
 rw [this]; rfl
theorem rd_drop (L : List S38) (i : Nat) (hi : i < L.length) : L.drop i = rd_T38 L (i : Int) :: L.drop (i + 1) := by
 rw [List.drop_eq_getElem_cons hi]
 unfold rd_T38
 rw [Int.toNat_natCast, List.getD_eq_getElem?_getD, List.getElem?_eq_getElem hi]; rfl
theorem rd_ent (L : List S38) (i : Nat) (hi : i < L.length) : rd_T38 L (i : Int) ∈ L := by
 unfold rd_T38
 rw [Int.toNat_natCast, List.getD_eq_getElem?_getD, List.getElem?_eq_getElem hi]; exact List.getElem_mem hi
theorem rd_take (L : List S38) (i : Nat) (hi : i < L.length) : L.take (i + 1) = L.take i ++ [rd_T38 L (i : Int)] := by
 rw [List.take_succ_eq_append_getElem hi]
 unfold rd_T38
 rw [Int.toNat_natCast, List.getD_eq_getElem?_getD, List.getElem?_eq_getElem hi]; rfl
theorem prev_next (L : List S38) (i : Nat) : prevOf L (i + 1) = some (rd_T38 L (i : Int)) := by
 unfold prevOf
 rw [if_neg (by omega), show (((i + 1 : Nat) : Int) - 1) = (i : Int) by omega]
theorem filt_next (L : List S38) (i : Nat) (hi : i < L.length) (j : Int) : (if j = (rd_T38 L (i : Int)).f1 then (L.take i).filter (fun e => e.f1 == (rd_T38 L (i : Int)).f1) ++ [rd_T38 L (i : Int)] else (L.take i).filter (fun e => e.f1 == j)) = (L.take (i + 1)).filter (fun e => e.f1 == j) := by
 rw [rd_take L i hi, List.filter_append]
 by_cases h : j = (rd_T38 L (i : Int)).f1
 ·
  subst h
  rw [if_pos rfl]
  simp
 ·
  rw [if_neg h]
  have : ((rd_T38 L (i : Int)).f1 == j) = false := by rw [beq_eq_false_iff_ne]; exact fun e => h e.symm
  simp [this]
/-- What tonaryOf ends in: whether the list is a tonary, and then its map. -/
def TonRes (L : List S38) (R : Bool) (w : World) (e : Ending) (w' : World) : Prop :=
 ∃ p, e = .returned (.tuple #[.map p, .bool R]) ∧ (R = true → ∃ M, p = some M ∧ TonMap w' w.heap.size M (fun k => L.filter (fun e => e.f1 == k))) ∧ Below w.heap.size w w'
set_option maxHeartbeats 1000000 in
set_option maxRecDepth 100000 in
theorem impl_tonaryOf_calls (L : List S38) (A0 : Option Addr) (c0 : Nat) (w : World) (ht : MTab w) (hr0 : Kd.C k38 w A0 L.length L) (hc0 : L.length ≤ c0) (hz : ∀ e ∈ L, e.f0.size ≤ 9000000000000000 ∧ e.f2.length ≤ 1000000000000) :
 Calls Tryd.prog 52 #[.slice A0 L.length c0] w (TonRes L (tonOk L) w) := by
 have hu1 := Tryd.underlying38
 have HT := Aside0.mk ht
 have HR0 := Aside0.mk hr0
 have HC0 := Aside0.mk hc0
 have HZ := Aside0.mk hz
 clear ht hr0 hc0 hz
 by_cases hbig : (L.length : Int) > 20
 ·
  have d0 : decide (20 < (L.length : Int)) = true := decide_eq_true hbig
  have d0' : decide (20 < L.length) = true := decide_eq_true (by omega)
  have e : tonOk L = false := by unfold tonOk; rw [decide_eq_false (by omega), Bool.false_and]
  rw [e]
  clear hbig e
  go_enter Tryd.func52, Tryd.ntmps52
  go_wp2
  go_ret2
  exact ⟨none, rfl, (fun h => by cases h), Below.refl _ _⟩
 have d0 : decide (20 < (L.length : Int)) = false := decide_eq_false hbig
 have d0' : decide (20 < L.length) = false := decide_eq_false (by omega)
 have hL : L.length ≤ 20 := by omega
 have hok : tonOk L = tOkFrom none L := by unfold tonOk; rw [decide_eq_true hL, Bool.true_and]
 obtain ⟨R, hR⟩ : ∃ R, R = tonOk L := ⟨_, rfl⟩
 have HOK := Aside0.mk (hR.trans hok)
 rw [← hR]
 clear hbig hok hR
 have hmm := @run_makeMap Tryd.prog
 go_enter Tryd.func52, Tryd.ntmps52
 go_upto_region 4 with fail
 obtain ⟨M, hM⟩ : ∃ M, M = w.heap.size := ⟨_, rfl⟩
 have HM := Aside0.mk hM
 have HB0 : Aside0 (Below w.heap.size w (w.alloc (.map #[] 0))) := ⟨below_alloc (Below.refl _ _) _⟩
 have HT0 : Aside0 (TonMap (w.alloc (.map #[] 0)) w.heap.size M (fun k => (L.take 0).filter (fun e => e.f1 == k))) := ⟨(TonMap.made (by omega) (by rw [hM]; exact blk_new w _)).cong (fun _ => by simp)⟩
 rw [← hM]
 generalize w.alloc (.map #[] 0) = w0 at HB0 HT0 ⊢
 clear hmm hM
 go_wp2
 go_loopg [13] L.length (fun kq v13 w' => ∃ i : Nat, v13 = .int .i64 (i : Int) ∧ Aside0 (kq = L.length - i ∧ i ≤ L.length ∧ tOkFrom (prevOf L i) (L.drop i) = R) ∧ Aside0 (TonMap w' w.heap.size M (fun k => (L.take i).filter (fun e => e.f1 == k))) ∧ Aside0 (Below w.heap.size w w'))
 case atStart => exact ⟨0, rfl, ⟨rfl, Nat.zero_le _, HOK.out.symm⟩, HT0, HB0⟩
 case round =>
  clear HB0 HT0
  obtain ⟨i, rfl, HX, HTM, HB⟩ := hrel
  by_cases hi : (i : Int) < (L.length : Int)
  ·
   have d1 : decide ((i : Int) < (L.length : Int)) = true := decide_eq_true hi
   have d1' : decide (i < L.length) = true := decide_eq_true (by omega)
   have p0 : (0 : Int) ≤ (i : Int) := by omega
   have q0 := eq_true p0
   have q1 := eq_true hi
   have q2 := eq_true (show i < L.length by omega)
   obtain ⟨ad, A2, c2, e0, ux0, ux1, ux2, hl2, hg2⟩ := at_T38 (Kd.C_below HR0.out HB.out) (i : Int) p0 hi
   subst e0
   obtain ⟨e, he⟩ : ∃ e, e = rd_T38 L (i : Int) := ⟨_, rfl⟩
   rw [← he] at ux0 ux1 ux2 hl2 hg2
   simp only [Int.toNat_natCast] at ux0 ux1 ux2
   have HG2 := Aside0.mk hg2
   have HL2 := Aside0.mk hl2
   have HE := Aside0.mk he
   have HZE := Aside0.mk (HZ.out e (by rw [he]; exact rd_ent L i (by omega)))
   have hfl : e.f2.length ≤ 1000000000000 := HZE.out.2
   obtain ⟨kv, hkv⟩ := Ev.rounds (impl_Entry_valid_ev e (by have := HZE.out.1; omega))
   have HKV := Aside0.mk hkv
   have NX : Aside0 (i < L.length) := ⟨by omega⟩
   obtain ⟨own, F, hTA⟩ := HTM.out
   have HTA0 := Aside0.mk hTA
   clear hTA
   have HW := Aside0.mk (w64 (x := (i : Int) + 1) (by omega) (by omega))
   clear hg2 hl2 he hkv
   go_upto_region 7 with (first
    | ((with_reducible refine gate_dst (N := 6) rfl ?_); refine box_event ?hg (N := 6) ?hd (cs := #[.string ⟨#[]⟩, .int .i64 0, .slice none 0 0]) (t := 38) ?hr ?_; (case hd => rfl); (case hg => rfl); (case hr => first | (go_simp; done) | (go_simp; rfl)); intro g6 hg w6 hbox hb; have HK6 := Aside0.mk hbox; have HB6 := Aside0.mk hb; have N6 := Aside0.mk (show wr.heap.size ≤ g6 from (by rw [hg]; exact Nat.le_refl _)); have cz0 : w6.cell? ⟨g6, 0, none⟩ = some (.string ⟨#[]⟩) := (blk_cell HK6.out 0).trans rfl; have cz1 : w6.cell? ⟨g6, 1, none⟩ = some (.int .i64 0) := (blk_cell HK6.out 1).trans rfl; have cz2 : w6.cell? ⟨g6, 2, none⟩ = some (.slice none 0 0) := (blk_cell HK6.out 2).trans rfl; have fz0 := blk_frozen HK6.out 0; have fz1 := blk_frozen HK6.out 1; have fz2 := blk_frozen HK6.out 2; clear hg hbox hb))
   have W6 : Aside0 ((((w6.setCell ⟨g6, 0, none⟩ (.string e.f0)).setCell ⟨g6, 1, none⟩ (.int .i64 e.f1)).setCell ⟨g6, 2, none⟩ (.slice A2 e.f2.length c2)).heap[g6]? = some (.cells #[.string e.f0, .int .i64 e.f1, .slice A2 e.f2.length c2] 38 (0, 0))) := ⟨blk_put (cs := #[.string e.f0, .int .i64 e.f1, .slice none 0 0]) (blk_put (cs := #[.string e.f0, .int .i64 0, .slice none 0 0]) (blk_put (cs := #[.string ⟨#[]⟩, .int .i64 0, .slice none 0 0]) HK6.out 0 _ rfl) 1 _ rfl) 2 _ rfl⟩
   have HB7 : Aside0 (Below wr.heap.size wr (((w6.setCell ⟨g6, 0, none⟩ (.string e.f0)).setCell ⟨g6, 1, none⟩ (.int .i64 e.f1)).setCell ⟨g6, 2, none⟩ (.slice A2 e.f2.length c2))) := ⟨below_set (below_set (below_set HB6.out N6.out) N6.out) N6.out⟩
   clear HK6 HB6 cz0 cz1 cz2 fz0 fz1 fz2 ux0 ux1 ux2
   generalize (((w6.setCell ⟨g6, 0, none⟩ (.string e.f0)).setCell ⟨g6, 1, none⟩ (.int .i64 e.f1)).setCell ⟨g6, 2, none⟩ (.slice A2 e.f2.length c2)) = w7 at W6 HB7 ⊢
   have y0 : w7.cell? ⟨g6, 0, none⟩ = some (.string e.f0) := (blk_cell W6.out 0).trans rfl
   have y1 : w7.cell? ⟨g6, 1, none⟩ = some (.int .i64 e.f1) := (blk_cell W6.out 1).trans rfl
   have y2 : w7.cell? ⟨g6, 2, none⟩ = some (.slice A2 e.f2.length c2) := (blk_cell W6.out 2).trans rfl
   cases hve : entOk e
   ·
    have hRf : R = false := by
     have := HX.out.2.2
     rw [rd_drop L i NX.out, ← HE.out] at this
     rw [← this]
     cases prevOf L i <;> (simp only [tOkFrom]; rw [hve]; rfl)
    subst hRf
    rw [hve] at HKV
    clear hve
    go_wp2_with (go_at_call 73; refine (impl_Entry_valid.calls kv e.f0 e.f1 A2 c2 e.f2 false _ (HT.out.below (below_step HB.out HB7.out)) (Kd.C_below HG2.out HB7.out) HL2.out HKV.out).mono ?_; rintro e_ w8 ⟨rfl, hb8⟩; have HB8 := Aside0.mk (below_step (below_step HB.out HB7.out) hb8); clear hb8)
    go_ret2
    exact ⟨none, rfl, (fun h => by cases h), HB8.out⟩
   rw [hve] at HKV
   have HVE := Aside0.mk hve
   clear hve
   go_upto_region 9 with (first
    | (go_at_call 73; refine (impl_Entry_valid.calls kv e.f0 e.f1 A2 c2 e.f2 true _ (HT.out.below (below_step HB.out HB7.out)) (Kd.C_below HG2.out HB7.out) HL2.out HKV.out).mono ?_; rintro e_ w8 ⟨rfl, hb8⟩; have HB8 := Aside0.mk (below_step HB7.out hb8); have W8 := Aside0.mk (blk_below W6.out hb8); clear hb8))
   have HB9 := Aside0.mk (below_step HB.out HB8.out)
   have HTA8 := Aside0.mk (HTA0.out.below HB8.out)
   have NE6 := Aside0.mk (HTA0.out.ne e.f1 g6 N6.out)
   have NM6 : Aside0 (g6 ≠ M) := ⟨by have h1 := HTA0.out.2.1.lt; have h2 := N6.out; omega⟩
   have HG8 := Aside0.mk (Kd.C_below HG2.out HB8.out)
   have HR8 := Aside0.mk (Kd.C_below HR0.out HB9.out)
   clear y0 y1 y2 W6 HB7 HB8 HTM HG2 HTA0 N6
   have y0 : w8.cell? ⟨g6, 0, none⟩ = some (.string e.f0) := (blk_cell W8.out 0).trans rfl
   have y1 : w8.cell? ⟨g6, 1, none⟩ = some (.int .i64 e.f1) := (blk_cell W8.out 1).trans rfl
   by_cases h0 : i = 0
   ·
    subst h0
    have tok : Aside0 (tOkFrom (some e) (L.drop 1) = R) := ⟨by
     have := HX.out.2.2
     rw [rd_drop L 0 NX.out, ← HE.out] at this
     rw [← this]
     show _ = tOkFrom (prevOf L 0) (e :: L.drop (0 + 1))
     rw [show prevOf L 0 = none from rfl]
     simp only [tOkFrom]
     rw [HVE.out, Bool.true_and]⟩
    go_quiet (fail)
    have HBt := Aside0.mk (pw_below_drewN HB9.out nq)
    have HTA := Aside0.mk (show TonAt (w8.drewN nq) w.heap.size M own F (fun k => (L.take 0).filter (fun e => e.f1 == k)) from HTA8.out.below (pw_below_drewN (Below.refl _ _) _))
    have HGt := Aside0.mk (show Kd.C k90 (w8.drewN nq) A2 e.f2.length e.f2 from HG8.out)
    have Wt := Aside0.mk (show (w8.drewN nq).heap[g6]? = some (.cells #[.string e.f0, .int .i64 e.f1, .slice A2 e.f2.length c2] 38 (0, 0)) from W8.out)
    clear y0 y1 W8 HB9 HTA8 HG8 HR8
    try clear z0 z1
    generalize (w8.drewN nq) = w9 at HBt HTA HGt Wt ⊢
    obtain ⟨v0, hv0⟩ : ∃ v0, v0 = (F e.f1).getD (.slice none 0 0) := ⟨_, rfl⟩
    have HV0 := Aside0.mk hv0
    rw [← hv0] at NE6
    clear hv0
    have lkA : (Instr.lookup 72 (.map (some M)) (.int .i64 e.f1) false).run Tryd.prog w9.drew = .ok v0 w9.drew := by rw [HV0.out]; exact (HTA.out.below (below_drew1 (Below.refl _ _))).look e.f1
    have y0 : w9.drew.cell? ⟨g6, 0, none⟩ = some (.string e.f0) := (blk_cell Wt.out 0).trans rfl
    have y1 : w9.drew.cell? ⟨g6, 1, none⟩ = some (.int .i64 e.f1) := (blk_cell Wt.out 1).trans rfl
    have y2 : w9.drew.cell? ⟨g6, 2, none⟩ = some (.slice A2 e.f2.length c2) := (blk_cell Wt.out 2).trans rfl
    have HCP := Aside0.mk (show impl_Entry_copied.f e.f0 e.f1 e.f2 = some (e.f0, e.f1, e.f2) by unfold impl_Entry_copied.f impl_copiedTones.f; rw [if_pos hfl]; rfl)
    have HGD := Aside0.mk (show Kd.C k90 w9.drew A2 e.f2.length e.f2 from HGt.out)
    have HLL : (L.take 0).length ≤ 20 := by rw [List.length_take]; omega
    obtain ⟨X, hX⟩ : ∃ X, X = (L.take 0).filter (fun x => x.f1 == e.f1) := ⟨_, rfl⟩
    have hXl : X.length ≤ 20 := by rw [hX]; exact Nat.le_trans (List.length_filter_le _ _) HLL
    have HXX := Aside0.mk hX
    clear hX HLL
    go_upto_region 11 with fail
    go_region_held3 (fun w' => w'.cell? ⟨g6, 0, none⟩ = some (.string e.f0) ∧ w'.cell? ⟨g6, 1, none⟩ = some (.int .i64 e.f1) ∧ w'.cell? ⟨g6, 2, none⟩ = some (.slice A2 e.f2.length c2))
     (first
      | exact ⟨y0, y1, y2⟩
      | go_keep
      | exact ⟨pw_cell_below hb12 y0, pw_cell_below hb12 y1, pw_cell_below hb12 y2⟩
      | exact ⟨cell_grown hg13 (pw_cell_below hb12 y0) NE6.out, cell_grown hg13 (pw_cell_below hb12 y1) NE6.out, cell_grown hg13 (pw_cell_below hb12 y2) NE6.out⟩
      | exact ⟨cell_setBlock (cell_grown hg13 (pw_cell_below hb12 y0) NE6.out) NM6.out, cell_setBlock (cell_grown hg13 (pw_cell_below hb12 y1) NE6.out) NM6.out, cell_setBlock (cell_grown hg13 (pw_cell_below hb12 y2) NE6.out) NM6.out⟩
      | fail)
     (first
      | (go_at_call 55; (with_reducible refine (impl_Entry_copied.calls e.f0 e.f1 A2 c2 e.f2 e.f0 e.f1 e.f2 w9.drew HGD.out HL2.out HCP.out).mono ?_); rintro e_ w12 ⟨v2, rfl, ho2, hb12⟩; obtain ⟨Av, cv, rfl⟩ := Kd.R_slice ho2; have hbW : Below w9.heap.size w9 w12 := below_step (below_drew1 (Below.refl _ _)) hb12; have lkB := (HTA.out.below hbW).look e.f1; rw [← HV0.out] at lkB; have lkC := (HTA.out.below (below_step hbW (below_alloc (Below.refl _ _) (.cells #[.string e.f0, .int .i64 e.f1, .slice Av e.f2.length cv] 38 (0, 0))))).look e.f1; rw [← HV0.out] at lkC; have HM2 := Aside0.mk (k38_mkM w12 w.heap.size (fun b => w9.heap.size ≤ b) e (Kd.R_lower (Kd.R_mono (Kd.R_bound ho2) (fun b hb => hb.2.1)) HBt.out.size)); have HO12 := Aside0.mk (show Kd.S k38 38 w12 w.heap.size (fun b => ((own b = e.f1 ∧ b ≠ M) ∨ w9.heap.size ≤ b) ∧ ¬ w9.heap.size ≤ b) v0 X by (rw [HV0.out, HXX.out]; exact HTA.out.elder hbW e.f1)); have HBW := Aside0.mk hbW; clear ho2 hbW)
      | (refine Kd.S_append_step k38 (w0 := w) (W := w12) w.heap.size (by rfl) (.tmp 62) (.tmp 65) 24 38 (.agg #[.string ⟨#[]⟩, .int .i64 0, .slice none 0 0]) 48 (by rfl) Tryd.underlying24 info38 rfl (by decide) (by omega) v0 X e [.string e.f0, .int .i64 e.f1, .slice Av e.f2.length cv] (fun b => (own b = e.f1 ∧ b ≠ M) ∨ w9.heap.size ≤ b) (fun b => w9.heap.size ≤ b) (by rfl) (by rfl) HM2.out (fun b hb => ⟨.inr hb, by rw [HV0.out]; exact HTA.out.ne e.f1 b hb⟩) (fun b hb => .inr (Nat.le_trans HBW.out.size hb)) HO12.out (below_step HBt.out HBW.out) (below_step HBt.out HBW.out).size (by omega) ?_; intro v13 w13 ho13 hb13 hg13 _; obtain ⟨es, clk, hput, hmap⟩ := TonAt.append HTA.out HBW.out (by rw [← HV0.out]; exact hg13) ho13; have HMAP := Aside0.mk hmap; have HB13 := Aside0.mk hb13; clear hmap hb13 ho13)
      | fail)
    all_goals
     have HBE := Aside0.mk (below_setBlock HB13.out (show w.heap.size ≤ M by rw [HM.out]; exact Nat.le_refl _) (o := .map es clk))
     have HMX := Aside0.mk (HMAP.out.cong (G' := fun k => (L.take 1).filter (fun e => e.f1 == k)) (fun j => by rw [HXX.out, HE.out]; exact filt_next L 0 NX.out j))
     have NX2 : Aside0 (L.length - 1 < gk ∧ 1 ≤ L.length ∧ tOkFrom (prevOf L 1) (L.drop 1) = R) := ⟨by have h1 := HX.out.1; have h2 := NX.out; omega, NX.out, by rw [show prevOf L 1 = some e by rw [HE.out]; exact prev_next L 0]; exact tok.out⟩
     clear HB13 HMAP hput hg13 hb12
     generalize ChangeMaps.setBlock w13 M (.map es clk) = w14 at HBE HMX ⊢
     go_wp2
     go_roundg (L.length - 1)
     case measure => exact NX2.out.1
     case rel => exact ⟨1, by first | rfl | (rw [HW.out]; rfl), ⟨rfl, NX2.out.2.1, NX2.out.2.2⟩, HMX, HBE⟩
   have g0 : decide (0 < (i : Int)) = true := decide_eq_true (by omega)
   have g0' : decide (0 < i) = true := decide_eq_true (by omega)
   have gi : (0 : Int) < (i : Int) := by omega
   obtain ⟨pd, A3, c3, e1, vx0, vx1, vx2, _, _⟩ := at_T38 HR8.out ((i : Int) - 1) (by omega) (by omega)
   injection e1 with e1
   subst e1
   obtain ⟨p, hp⟩ : ∃ p, p = rd_T38 L ((i : Int) - 1) := ⟨_, rfl⟩
   rw [← hp] at vx0 vx1
   have HP := Aside0.mk (show prevOf L i = some p by unfold prevOf; rw [if_neg h0, hp])
   rw [show ((i : Int) - 1).toNat = i - 1 by omega] at vx0 vx1
   have z0 : w8.cell? (ad.add ((i - 1) * 3)) = some (.string p.f0) := vx0
   have z1 : w8.cell? ⟨(ad.add ((i - 1) * 3)).block, (ad.add ((i - 1) * 3)).off + 1, none⟩ = some (.int .i64 p.f1) := vx1
   have r1 := eq_true (show (1 : Int) ≤ (i : Int) by omega)
   have r1' := eq_true (show 1 ≤ i by omega)
   have r2 := eq_true (show (i : Int) - 1 < (L.length : Int) by omega)
   have r3 : IntKind.i64.wrap ((i : Int) - 1) = (i : Int) - 1 := by rw [Go.IntKind.wrap_i64]; omega
   have tok : Aside0 ((befE p e && tOkFrom (some e) (L.drop (i + 1))) = R) := ⟨by
    have := HX.out.2.2
    rw [rd_drop L i NX.out, ← HE.out, HP.out] at this
    rw [← this]
    simp only [tOkFrom]
    rw [HVE.out, Bool.true_and]⟩
   clear hp vx0 vx1 vx2 h0
   by_cases h1 : e.f1 < p.f1
   ·
    have t1 : decide (e.f1 < p.f1) = true := decide_eq_true h1
    have hb : befE p e = false := by unfold befE; rw [if_neg (by omega), if_neg (by omega)]
    rw [hb, Bool.false_and] at tok
    have hRf := tok.out.symm
    subst hRf
    clear h1 hb
    go_quiet (fail)
    go_wp2
    go_ret2
    exact ⟨none, rfl, (fun h => by cases h), pw_below_drewN HB9.out _⟩
   have t1 : decide (e.f1 < p.f1) = false := decide_eq_false h1
   by_cases h2 : e.f1 = p.f1
   ·
    have t2 : (e.f1 == p.f1) = true := by rw [beq_iff_eq]; exact h2
    have hb : befE p e = nmLt p.f0 e.f0 := by unfold befE; rw [if_neg (by omega), if_pos h2.symm]
    rw [hb] at tok
    have t3 := nmLt_tot e.f0 p.f0
    cases hA : Op.bytesLess e.f0.toList p.f0.toList
    ·
     cases hB : (e.f0.toList == p.f0.toList)
     ·
      rw [hA, hB] at t3
      have hn : nmLt p.f0 e.f0 = true := by cases h : nmLt p.f0 e.f0 <;> rw [h] at t3 <;> simp at t3 ⊢
      rw [hn] at tok
      have tok : Aside0 (tOkFrom (some e) (L.drop (i + 1)) = R) := ⟨by have := tok.out; rw [Bool.true_and] at this; exact this⟩
      have hle : ∀ w, (binOp .leq 9 (.string e.f0) (.string p.f0)).run Tryd.prog w = .ok (.bool false) w := fun w => by rw [leq_run, hA, hB]; rfl
      clear h1 h2 hb hn t3 hA hB
      go_quiet (fail)
      have HBt := Aside0.mk (pw_below_drewN HB9.out nq)
      have HTA := Aside0.mk (show TonAt (w8.drewN nq) w.heap.size M own F (fun k => (L.take i).filter (fun e => e.f1 == k)) from HTA8.out.below (pw_below_drewN (Below.refl _ _) _))
      have HGt := Aside0.mk (show Kd.C k90 (w8.drewN nq) A2 e.f2.length e.f2 from HG8.out)
      have Wt := Aside0.mk (show (w8.drewN nq).heap[g6]? = some (.cells #[.string e.f0, .int .i64 e.f1, .slice A2 e.f2.length c2] 38 (0, 0)) from W8.out)
      clear y0 y1 W8 HB9 HTA8 HG8 HR8
      try clear z0 z1
      generalize (w8.drewN nq) = w9 at HBt HTA HGt Wt ⊢
      obtain ⟨v0, hv0⟩ : ∃ v0, v0 = (F e.f1).getD (.slice none 0 0) := ⟨_, rfl⟩
      have HV0 := Aside0.mk hv0
      rw [← hv0] at NE6
      clear hv0
      have lkA : (Instr.lookup 72 (.map (some M)) (.int .i64 e.f1) false).run Tryd.prog w9.drew = .ok v0 w9.drew := by rw [HV0.out]; exact (HTA.out.below (below_drew1 (Below.refl _ _))).look e.f1
      have y0 : w9.drew.cell? ⟨g6, 0, none⟩ = some (.string e.f0) := (blk_cell Wt.out 0).trans rfl
      have y1 : w9.drew.cell? ⟨g6, 1, none⟩ = some (.int .i64 e.f1) := (blk_cell Wt.out 1).trans rfl
      have y2 : w9.drew.cell? ⟨g6, 2, none⟩ = some (.slice A2 e.f2.length c2) := (blk_cell Wt.out 2).trans rfl
      have HCP := Aside0.mk (show impl_Entry_copied.f e.f0 e.f1 e.f2 = some (e.f0, e.f1, e.f2) by unfold impl_Entry_copied.f impl_copiedTones.f; rw [if_pos hfl]; rfl)
      have HGD := Aside0.mk (show Kd.C k90 w9.drew A2 e.f2.length e.f2 from HGt.out)
      have HLL : (L.take i).length ≤ 20 := by rw [List.length_take]; omega
      obtain ⟨X, hX⟩ : ∃ X, X = (L.take i).filter (fun x => x.f1 == e.f1) := ⟨_, rfl⟩
      have hXl : X.length ≤ 20 := by rw [hX]; exact Nat.le_trans (List.length_filter_le _ _) HLL
      have HXX := Aside0.mk hX
      clear hX HLL
      go_upto_region 11 with fail
      go_region_held3 (fun w' => w'.cell? ⟨g6, 0, none⟩ = some (.string e.f0) ∧ w'.cell? ⟨g6, 1, none⟩ = some (.int .i64 e.f1) ∧ w'.cell? ⟨g6, 2, none⟩ = some (.slice A2 e.f2.length c2))
       (first
        | exact ⟨y0, y1, y2⟩
        | go_keep
        | exact ⟨pw_cell_below hb12 y0, pw_cell_below hb12 y1, pw_cell_below hb12 y2⟩
        | exact ⟨cell_grown hg13 (pw_cell_below hb12 y0) NE6.out, cell_grown hg13 (pw_cell_below hb12 y1) NE6.out, cell_grown hg13 (pw_cell_below hb12 y2) NE6.out⟩
        | exact ⟨cell_setBlock (cell_grown hg13 (pw_cell_below hb12 y0) NE6.out) NM6.out, cell_setBlock (cell_grown hg13 (pw_cell_below hb12 y1) NE6.out) NM6.out, cell_setBlock (cell_grown hg13 (pw_cell_below hb12 y2) NE6.out) NM6.out⟩
        | fail)
       (first
        | (go_at_call 55; (with_reducible refine (impl_Entry_copied.calls e.f0 e.f1 A2 c2 e.f2 e.f0 e.f1 e.f2 w9.drew HGD.out HL2.out HCP.out).mono ?_); rintro e_ w12 ⟨v2, rfl, ho2, hb12⟩; obtain ⟨Av, cv, rfl⟩ := Kd.R_slice ho2; have hbW : Below w9.heap.size w9 w12 := below_step (below_drew1 (Below.refl _ _)) hb12; have lkB := (HTA.out.below hbW).look e.f1; rw [← HV0.out] at lkB; have lkC := (HTA.out.below (below_step hbW (below_alloc (Below.refl _ _) (.cells #[.string e.f0, .int .i64 e.f1, .slice Av e.f2.length cv] 38 (0, 0))))).look e.f1; rw [← HV0.out] at lkC; have HM2 := Aside0.mk (k38_mkM w12 w.heap.size (fun b => w9.heap.size ≤ b) e (Kd.R_lower (Kd.R_mono (Kd.R_bound ho2) (fun b hb => hb.2.1)) HBt.out.size)); have HO12 := Aside0.mk (show Kd.S k38 38 w12 w.heap.size (fun b => ((own b = e.f1 ∧ b ≠ M) ∨ w9.heap.size ≤ b) ∧ ¬ w9.heap.size ≤ b) v0 X by (rw [HV0.out, HXX.out]; exact HTA.out.elder hbW e.f1)); have HBW := Aside0.mk hbW; clear ho2 hbW)
        | (refine Kd.S_append_step k38 (w0 := w) (W := w12) w.heap.size (by rfl) (.tmp 62) (.tmp 65) 24 38 (.agg #[.string ⟨#[]⟩, .int .i64 0, .slice none 0 0]) 48 (by rfl) Tryd.underlying24 info38 rfl (by decide) (by omega) v0 X e [.string e.f0, .int .i64 e.f1, .slice Av e.f2.length cv] (fun b => (own b = e.f1 ∧ b ≠ M) ∨ w9.heap.size ≤ b) (fun b => w9.heap.size ≤ b) (by rfl) (by rfl) HM2.out (fun b hb => ⟨.inr hb, by rw [HV0.out]; exact HTA.out.ne e.f1 b hb⟩) (fun b hb => .inr (Nat.le_trans HBW.out.size hb)) HO12.out (below_step HBt.out HBW.out) (below_step HBt.out HBW.out).size (by omega) ?_; intro v13 w13 ho13 hb13 hg13 _; obtain ⟨es, clk, hput, hmap⟩ := TonAt.append HTA.out HBW.out (by rw [← HV0.out]; exact hg13) ho13; have HMAP := Aside0.mk hmap; have HB13 := Aside0.mk hb13; clear hmap hb13 ho13)
        | fail)
      all_goals
       have HBE := Aside0.mk (below_setBlock HB13.out (show w.heap.size ≤ M by rw [HM.out]; exact Nat.le_refl _) (o := .map es clk))
       have HMX := Aside0.mk (HMAP.out.cong (G' := fun k => (L.take (i + 1)).filter (fun e => e.f1 == k)) (fun j => by rw [HXX.out, HE.out]; exact filt_next L i NX.out j))
       have NX2 : Aside0 (L.length - (i + 1) < gk ∧ (i + 1) ≤ L.length ∧ tOkFrom (prevOf L (i + 1)) (L.drop (i + 1)) = R) := ⟨by have h1 := HX.out.1; have h2 := NX.out; omega, NX.out, by rw [show prevOf L (i + 1) = some e by rw [HE.out]; exact prev_next L i]; exact tok.out⟩
       clear HB13 HMAP hput hg13 hb12
       generalize ChangeMaps.setBlock w13 M (.map es clk) = w14 at HBE HMX ⊢
       go_wp2
       go_roundg (L.length - (i + 1))
       case measure => exact NX2.out.1
       case rel => exact ⟨(i + 1), by first | rfl | (rw [HW.out]; rfl), ⟨rfl, NX2.out.2.1, NX2.out.2.2⟩, HMX, HBE⟩
     ·
      rw [hA, hB] at t3
      have hn : nmLt p.f0 e.f0 = false := by cases h : nmLt p.f0 e.f0 <;> rw [h] at t3 <;> simp at t3 ⊢
      have hRf : R = false := by have := tok.out; rw [hn, Bool.false_and] at this; exact this.symm
      subst hRf
      have hle : ∀ w, (binOp .leq 9 (.string e.f0) (.string p.f0)).run Tryd.prog w = .ok (.bool true) w := fun w => by rw [leq_run, hA, hB]; rfl
      clear h1 h2 hb hn t3 hA hB
      go_quiet (fail)
      go_wp2
      go_ret2
      exact ⟨none, rfl, (fun h => by cases h), pw_below_drewN HB9.out _⟩
    ·
     rw [hA] at t3
     have hn : nmLt p.f0 e.f0 = false := by cases h : nmLt p.f0 e.f0 <;> rw [h] at t3 <;> simp at t3 ⊢
     have hRf : R = false := by have := tok.out; rw [hn, Bool.false_and] at this; exact this.symm
     subst hRf
     have hle : ∀ w, (binOp .leq 9 (.string e.f0) (.string p.f0)).run Tryd.prog w = .ok (.bool true) w := fun w => by rw [leq_run, hA]; rfl
     clear h1 h2 hb hn t3 hA
     go_quiet (fail)
     go_wp2
     go_ret2
     exact ⟨none, rfl, (fun h => by cases h), pw_below_drewN HB9.out _⟩
   ·
    have t2 : (e.f1 == p.f1) = false := by rw [beq_eq_false_iff_ne]; exact h2
    have hb : befE p e = true := by unfold befE; rw [if_pos (by omega)]
    rw [hb] at tok
    have tok : Aside0 (tOkFrom (some e) (L.drop (i + 1)) = R) := ⟨by have := tok.out; rw [Bool.true_and] at this; exact this⟩
    clear h1 h2 hb
    go_quiet (fail)
    have HBt := Aside0.mk (pw_below_drewN HB9.out nq)
    have HTA := Aside0.mk (show TonAt (w8.drewN nq) w.heap.size M own F (fun k => (L.take i).filter (fun e => e.f1 == k)) from HTA8.out.below (pw_below_drewN (Below.refl _ _) _))
    have HGt := Aside0.mk (show Kd.C k90 (w8.drewN nq) A2 e.f2.length e.f2 from HG8.out)
    have Wt := Aside0.mk (show (w8.drewN nq).heap[g6]? = some (.cells #[.string e.f0, .int .i64 e.f1, .slice A2 e.f2.length c2] 38 (0, 0)) from W8.out)
    clear y0 y1 W8 HB9 HTA8 HG8 HR8
    try clear z0 z1
    generalize (w8.drewN nq) = w9 at HBt HTA HGt Wt ⊢
    obtain ⟨v0, hv0⟩ : ∃ v0, v0 = (F e.f1).getD (.slice none 0 0) := ⟨_, rfl⟩
    have HV0 := Aside0.mk hv0
    rw [← hv0] at NE6
    clear hv0
    have lkA : (Instr.lookup 72 (.map (some M)) (.int .i64 e.f1) false).run Tryd.prog w9.drew = .ok v0 w9.drew := by rw [HV0.out]; exact (HTA.out.below (below_drew1 (Below.refl _ _))).look e.f1
    have y0 : w9.drew.cell? ⟨g6, 0, none⟩ = some (.string e.f0) := (blk_cell Wt.out 0).trans rfl
    have y1 : w9.drew.cell? ⟨g6, 1, none⟩ = some (.int .i64 e.f1) := (blk_cell Wt.out 1).trans rfl
    have y2 : w9.drew.cell? ⟨g6, 2, none⟩ = some (.slice A2 e.f2.length c2) := (blk_cell Wt.out 2).trans rfl
    have HCP := Aside0.mk (show impl_Entry_copied.f e.f0 e.f1 e.f2 = some (e.f0, e.f1, e.f2) by unfold impl_Entry_copied.f impl_copiedTones.f; rw [if_pos hfl]; rfl)
    have HGD := Aside0.mk (show Kd.C k90 w9.drew A2 e.f2.length e.f2 from HGt.out)
    have HLL : (L.take i).length ≤ 20 := by rw [List.length_take]; omega
    obtain ⟨X, hX⟩ : ∃ X, X = (L.take i).filter (fun x => x.f1 == e.f1) := ⟨_, rfl⟩
    have hXl : X.length ≤ 20 := by rw [hX]; exact Nat.le_trans (List.length_filter_le _ _) HLL
    have HXX := Aside0.mk hX
    clear hX HLL
    go_upto_region 11 with fail
    go_region_held3 (fun w' => w'.cell? ⟨g6, 0, none⟩ = some (.string e.f0) ∧ w'.cell? ⟨g6, 1, none⟩ = some (.int .i64 e.f1) ∧ w'.cell? ⟨g6, 2, none⟩ = some (.slice A2 e.f2.length c2))
     (first
      | exact ⟨y0, y1, y2⟩
      | go_keep
      | exact ⟨pw_cell_below hb12 y0, pw_cell_below hb12 y1, pw_cell_below hb12 y2⟩
      | exact ⟨cell_grown hg13 (pw_cell_below hb12 y0) NE6.out, cell_grown hg13 (pw_cell_below hb12 y1) NE6.out, cell_grown hg13 (pw_cell_below hb12 y2) NE6.out⟩
      | exact ⟨cell_setBlock (cell_grown hg13 (pw_cell_below hb12 y0) NE6.out) NM6.out, cell_setBlock (cell_grown hg13 (pw_cell_below hb12 y1) NE6.out) NM6.out, cell_setBlock (cell_grown hg13 (pw_cell_below hb12 y2) NE6.out) NM6.out⟩
      | fail)
     (first
      | (go_at_call 55; (with_reducible refine (impl_Entry_copied.calls e.f0 e.f1 A2 c2 e.f2 e.f0 e.f1 e.f2 w9.drew HGD.out HL2.out HCP.out).mono ?_); rintro e_ w12 ⟨v2, rfl, ho2, hb12⟩; obtain ⟨Av, cv, rfl⟩ := Kd.R_slice ho2; have hbW : Below w9.heap.size w9 w12 := below_step (below_drew1 (Below.refl _ _)) hb12; have lkB := (HTA.out.below hbW).look e.f1; rw [← HV0.out] at lkB; have lkC := (HTA.out.below (below_step hbW (below_alloc (Below.refl _ _) (.cells #[.string e.f0, .int .i64 e.f1, .slice Av e.f2.length cv] 38 (0, 0))))).look e.f1; rw [← HV0.out] at lkC; have HM2 := Aside0.mk (k38_mkM w12 w.heap.size (fun b => w9.heap.size ≤ b) e (Kd.R_lower (Kd.R_mono (Kd.R_bound ho2) (fun b hb => hb.2.1)) HBt.out.size)); have HO12 := Aside0.mk (show Kd.S k38 38 w12 w.heap.size (fun b => ((own b = e.f1 ∧ b ≠ M) ∨ w9.heap.size ≤ b) ∧ ¬ w9.heap.size ≤ b) v0 X by (rw [HV0.out, HXX.out]; exact HTA.out.elder hbW e.f1)); have HBW := Aside0.mk hbW; clear ho2 hbW)
      | (refine Kd.S_append_step k38 (w0 := w) (W := w12) w.heap.size (by rfl) (.tmp 62) (.tmp 65) 24 38 (.agg #[.string ⟨#[]⟩, .int .i64 0, .slice none 0 0]) 48 (by rfl) Tryd.underlying24 info38 rfl (by decide) (by omega) v0 X e [.string e.f0, .int .i64 e.f1, .slice Av e.f2.length cv] (fun b => (own b = e.f1 ∧ b ≠ M) ∨ w9.heap.size ≤ b) (fun b => w9.heap.size ≤ b) (by rfl) (by rfl) HM2.out (fun b hb => ⟨.inr hb, by rw [HV0.out]; exact HTA.out.ne e.f1 b hb⟩) (fun b hb => .inr (Nat.le_trans HBW.out.size hb)) HO12.out (below_step HBt.out HBW.out) (below_step HBt.out HBW.out).size (by omega) ?_; intro v13 w13 ho13 hb13 hg13 _; obtain ⟨es, clk, hput, hmap⟩ := TonAt.append HTA.out HBW.out (by rw [← HV0.out]; exact hg13) ho13; have HMAP := Aside0.mk hmap; have HB13 := Aside0.mk hb13; clear hmap hb13 ho13)
      | fail)
    all_goals
     have HBE := Aside0.mk (below_setBlock HB13.out (show w.heap.size ≤ M by rw [HM.out]; exact Nat.le_refl _) (o := .map es clk))
     have HMX := Aside0.mk (HMAP.out.cong (G' := fun k => (L.take (i + 1)).filter (fun e => e.f1 == k)) (fun j => by rw [HXX.out, HE.out]; exact filt_next L i NX.out j))
     have NX2 : Aside0 (L.length - (i + 1) < gk ∧ (i + 1) ≤ L.length ∧ tOkFrom (prevOf L (i + 1)) (L.drop (i + 1)) = R) := ⟨by have h1 := HX.out.1; have h2 := NX.out; omega, NX.out, by rw [show prevOf L (i + 1) = some e by rw [HE.out]; exact prev_next L i]; exact tok.out⟩
     clear HB13 HMAP hput hg13 hb12
     generalize ChangeMaps.setBlock w13 M (.map es clk) = w14 at HBE HMX ⊢
     go_wp2
     go_roundg (L.length - (i + 1))
     case measure => exact NX2.out.1
     case rel => exact ⟨(i + 1), by first | rfl | (rw [HW.out]; rfl), ⟨rfl, NX2.out.2.1, NX2.out.2.2⟩, HMX, HBE⟩
  ·
   have d1 : decide ((i : Int) < (L.length : Int)) = false := decide_eq_false hi
   have d1' : decide (i < L.length) = false := decide_eq_false (by omega)
   have hiL : i = L.length := by have := HX.out.2.1; omega
   have hRt : R = true := by
    have := HX.out.2.2
    rw [hiL, List.drop_length] at this
    rw [← this]
    cases prevOf L L.length <;> rfl
   subst hRt
   have HF := Aside0.mk (show TonMap wr w.heap.size M (fun k => L.filter (fun e => e.f1 == k)) from HTM.out.cong (fun k => by rw [hiL, List.take_length]))
   clear hi hiL
   go_wp2
   go_ret2
   exact ⟨some M, rfl, (fun _ => ⟨M, rfl, HF.out⟩), HB.out⟩

end Go.Proofs.YtmacedbpdhkagaaDoor.Pure
namespace Go.Proofs.YtmacedbpdhkagaaDoor.Pure
set_option linter.unusedVariables false
set_option linter.unusedSimpArgs false
open Go Go.RowKit Go.Proofs.YtmacedbpdhkagaaDoor.PFnTonaryDrop Go.Proofs.YtmacedbpdhkagaaDoorW.PrintWords Go.Proofs.YtmacedbpdhkagaaDoorW.PrintLast Go.Proofs.YtmacedbpdhkagaaDoorW.PrintMore

section
open Classical in
theorem S_rows_tag {α : Type} {d : Kd α} {e base : Nat} {W : World} {v : Value} {A : Option Addr} {m c : Nat} {xs ys : List α} {ok okp : Nat → Prop} (HO : Kd.S d e W base (fun k => ok k ∧ ¬ okp k) v xs) (HY : Kd.S d e W base okp (.slice A m c) ys) :
 ∃ F : Nat → Nat, (Kd.tag F d).R e W base (fun k => ok k ∧ ¬ okp k) v xs.zipIdx ∧ ReadsRow ((Kd.tag F d).M W base okp) d.sz W A m (ys.zipIdx xs.length) := by
 obtain ⟨f, hf⟩ := HO
 obtain ⟨g, hg⟩ := HY
 refine ⟨fun k => if okp k then xs.length + g k else f k, Kd.R_tag hf (fun k hk _ => if_neg hk.2), ?_⟩
 obtain ⟨hm, _, hC⟩ := Kd.R_reads' hg
 rw [List.length_zipIdx] at hm
 refine ⟨by rw [List.length_zipIdx]; exact hm.symm, ?_, fun hpos => ?_⟩
 ·
  have := hC.2.1
  rw [List.length_zipIdx] at this
  omega
 obtain ⟨b, cap, hv, _⟩ := Kd.R_form hg (by rw [List.length_zipIdx]; omega)
 injection hv with h1 h2 h3
 subst h1
 refine ⟨_, rfl, fun j p hj => ?_⟩
 have hjl : j < ys.length := by
  have := (List.getElem?_eq_some_iff.1 hj).1
  rwa [List.length_zipIdx] at this
 obtain ⟨cs, hl, hM, hc, _⟩ := Kd.R_elem hg (ys[j], 0) (j : Int) (by omega) (by omega)
 have e1 : ys.zipIdx.getD ((j : Int)).toNat (ys[j], 0) = (ys[j], j) := by
  rw [Int.toNat_natCast, List.getD_eq_getElem?_getD, Kd.zip_at (List.getElem?_eq_getElem hjl)]; rfl
 rw [e1] at hM
 have e2 : p = (ys[j], xs.length + j) := by
  rw [List.getElem?_zipIdx, List.getElem?_eq_getElem hjl] at hj
  exact (Option.some.inj hj).symm
 rw [e2]
 refine ⟨cs, hl, ?_, fun i u hu => ?_⟩
 ·
  refine d.M_mono (fun k hk => ⟨hk.1.1, ?_⟩) hM
  show (if okp k then xs.length + g k else f k) = xs.length + j
  have h1 : okp k := hk.1.1
  have h2 : g k = j := hk.2
  rw [if_pos h1, h2]
 ·
  have := hc i u hu
  rw [Int.toNat_natCast] at this
  have e3 : (Addr.mk b 0 none).add (j * d.sz + i) = Addr.mk b (j * d.sz + i) none := by
   simp only [Addr.add]
   by_cases h0 : j * d.sz + i = 0
   ·
    simp [h0]
   ·
    have h1 : ¬ (j * d.sz = 0 ∧ i = 0) := fun h => h0 (by rw [h.1, h.2])
    simpa using h1
  rw [e3]; exact this
theorem zip_app {α : Type} (xs ys : List α) : xs.zipIdx ++ ys.zipIdx xs.length = (xs ++ ys).zipIdx := by rw [List.zipIdx_append, Nat.zero_add]
variable {P : Program} {ops : Array Oper} {rest : List Oper} {o : Oper} {a : Act} {Q : Exit → Act → World → Prop} {Kc : Act → World → Prop} {α : Type}
theorem S_append_rows (d : Kd α) {w0 W : World} (base : Nat) (hgd : o.guard = none) (s x : Operand) (t e : TypeId) (z : Value) (bytes : Nat)
 (ho : o.op = .call { callee := .builtin .append, args := #[s, x], argTypes := #[t, t] })
 (ht : P.underlying t = some (.slice e)) (hinfo : (P.info? e).map (fun i => (i.zero, i.size, i.bytes)) = some (some z, d.sz, bytes)) (hz : z.cells.size = d.sz) (hs0 : 0 < d.sz) (hb0 : 0 < bytes)
 (v : Value) (xs ys : List α) (A : Option Addr) (m c : Nat) (ok okp : Nat → Prop) (hs : a.eval s = v) (hx : a.eval x = .slice A m c)
 (HO : Kd.S d e W base (fun k => ok k ∧ ¬ okp k) v xs) (HY : Kd.S d e W base okp (.slice A m c) ys) (hokp : ∀ k, okp k → ok k) (hfresh : ∀ k, W.heap.size ≤ k → ok k)
 (HB : Below base w0 W) (hbase : base ≤ W.heap.size) (hl : (xs.length + m) * bytes ≤ 140737488355328)
 (h : ∀ v1 w1, Kd.S d e w1 base ok v1 (xs ++ ys) → Below base w0 w1 → W.grownBy w1 v.ownBlock → (v1.ownBlock = v.ownBlock ∨ ∃ b, v1.ownBlock = some b ∧ W.heap.size ≤ b) → wpList P ops Q rest (a.put o.dst v1) w1) :
 wpList P ops Q (o :: rest) a W := by
 obtain ⟨F, hR, hrow⟩ := S_rows_tag HO HY
 refine Kd.R_append_rows (Kd.tag F d) base hgd s x t e z bytes ho ht hinfo hz hs0 hb0 v xs.zipIdx (ys.zipIdx xs.length) A m c ok okp hs hx (Kd.R_mono hR (fun _ hk => hk.1)) hrow (fun _ _ hk => hk) (fun k hk => ⟨hokp k hk, fun e => (hR.1 k e.symm).2 hk⟩) hfresh HB hbase (by rw [List.length_zipIdx]; exact hl) ?_
 intro v1 w1 hr
 rw [zip_app] at hr
 exact h v1 w1 ⟨F, hr⟩
end

def catM (G : Int → List S38) : Nat → List S38
 | 0 => []
 | n + 1 => catM G n ++ G ((n : Int) + 1)
theorem catM_len {G : Int → List S38} {m : Nat} (h : ∀ k, (G k).length ≤ m) : ∀ n, (catM G n).length ≤ n * m
 | 0 => by simp [catM]
 | n + 1 => by
  have := catM_len h n
  have := h ((n : Int) + 1)
  simp only [catM, List.length_append]
  rw [Nat.succ_mul]; omega
set_option maxHeartbeats 2000000 in
set_option maxRecDepth 100000 in
theorem impl_list_calls (w0 w : World) (M : Nat) (G : Int → List S38) (hB : Below w0.heap.size w0 w) (hm : TonMap w w0.heap.size M G) (hl : ∀ k, (G k).length ≤ 1000) :
 Calls Tryd.prog 57 #[.map (some M)] w fun e w' => ∃ v, e = .returned v ∧ Kd.S k38 38 w' w0.heap.size (fun _ => True) v (catM G 8) ∧ Below w0.heap.size w0 w' := by
 obtain ⟨own, F, hta⟩ := hm
 have HTA := Aside0.mk hta
 have HB := Aside0.mk hB
 have HL := Aside0.mk hl
 have HC := Aside0.mk (catM_len hl)
 have hu1 := Tryd.underlying38
 clear hta hB hl
 go_enter Tryd.func57, Tryd.ntmps57
 go_wp2_with ((with_reducible refine gate_dst (N := 5) rfl ?_); refine Kd.S_lit k38 _ 38 ?hg (N := 5) ?hd (xs := ([] : List S38)) (inner := []) (ok := fun _ => True) (okp := fun _ => True) ?hr ?hp (fun _ hk => hk) trivial (Below.refl _ _) (Nat.le_refl _) (by simp) ?_; (case hd => rfl); (case hg => rfl); (case hr => first | (go_simp; done) | (go_simp; rfl)); (case hp => exact (Reps.none _ _)); intro v5 w5 ho5 hb hg_ hnew_; clear hg_ hnew_; have HO := Aside0.mk ho5; have HB5 := Aside0.mk hb; clear hb ho5)
 go_loopg [3, 4] 8 (fun kq v3 v4 w' => ∃ (n : Nat) (v : Value), v = v3 ∧ v4 = .int .i64 ((n : Int) + 1) ∧ Aside0 (kq = 8 - n ∧ n ≤ 8) ∧ Aside0 (Kd.S k38 38 w' w0.heap.size (fun b => w.heap.size ≤ b ∨ (b < w.heap.size ∧ 1 ≤ own b ∧ own b ≤ (n : Int) ∧ b ≠ M)) v (catM G n)) ∧ Aside0 (∀ b, v.ownBlock = some b → w.heap.size ≤ b) ∧ Aside0 (Below w.heap.size w w'))
 case atStart => exact ⟨0, _, rfl, rfl, ⟨by omega⟩, ⟨by (with_reducible repeat (first | apply Kd.S_alloc | apply Kd.S_drewN | apply Kd.S_drew)); exact Kd.S_lower (Kd.S_mono (Kd.S_bound HO.out) (fun k hk => .inl hk.2.1)) HB.out.size⟩, ⟨Kd.S_base HO.out⟩, ⟨by repeat (first | (with_reducible first | exact HB5.out | apply below_alloc | apply pw_below_drewN | apply below_drew1) | exact HB5.out)⟩⟩
 case round =>
  obtain ⟨n, v, rfl, rfl, HX, HO1, HOB, HB1⟩ := hrel
  obtain ⟨hkq, hn8⟩ := HX.out
  by_cases hn : n < 8
  ·
   have d1 : decide ((n : Int) + 1 ≤ 8) = true := decide_eq_true (by omega)
   have hrow := Kd.S_below (TonAt.bound (HTA.out.row ((n : Int) + 1))) HB1.out
   have hlk := (HTA.out.below HB1.out).look ((n : Int) + 1)
   obtain ⟨v0, hv0⟩ : ∃ v0, v0 = (F ((n : Int) + 1)).getD (.slice none 0 0) := ⟨_, rfl⟩
   rw [← hv0] at hrow hlk
   obtain ⟨A, c, rfl⟩ := Kd.S_slice hrow
   have HR := Aside0.mk hrow
   have hl1 := HL.out ((n : Int) + 1)
   have hl2 := HC.out n
   have hl3 : n * 1000 ≤ 8000 := by omega
   clear hrow hv0
   go_wp2_with ((with_reducible refine gate_builtin (b := .append) (xs := #[.tmp 10, .tmp 13]) rfl ?_); at_builtin; refine S_append_rows k38 (w0 := w0) w0.heap.size rfl (.tmp 10) (.tmp 13) 24 38 (.agg #[.string ⟨#[]⟩, .int .i64 0, .slice none 0 0]) 48 rfl Tryd.underlying24 info38 rfl (by decide) (by omega) v (catM G n) (G ((n : Int) + 1)) A _ c (fun b => w.heap.size ≤ b ∨ (b < w.heap.size ∧ 1 ≤ own b ∧ own b ≤ ((n + 1 : Nat) : Int) ∧ b ≠ M)) (fun b => (own b = (n : Int) + 1 ∧ b ≠ M) ∧ b < w.heap.size) rfl rfl ?aO HR.out ?aP ?aF ?aB ?aS (by omega) ?_; (case aO => exact Kd.S_mono HO1.out (fun b hb => ⟨by rcases hb with hb | hb; exact .inl hb; exact .inr ⟨hb.1, hb.2.1, by omega, hb.2.2.2⟩, fun h => by rcases hb with hb | hb; exact absurd h.2 (by omega); exact absurd h.1.1 (by omega)⟩)); (case aP => exact fun b hb => .inr ⟨hb.2, by omega, by omega, hb.1.2⟩); (case aF => exact fun b hb => .inl (Nat.le_trans HB1.out.size hb)); (case aB => exact below_step HB.out HB1.out); (case aS => exact Nat.le_trans HB.out.size HB1.out.size); intro v14 w14 ho14 hb14 hg14 hat14; have HO14 := Aside0.mk ho14; have HOB14 : Aside0 (∀ b, v14.ownBlock = some b → w.heap.size ≤ b) := ⟨fun b hb => by rcases hat14 with h | ⟨b', h, h'⟩; exact HOB.out b (h ▸ hb); rw [hb] at h; cases h; exact Nat.le_trans HB1.out.size h'⟩; have HB14 := Aside0.mk (pw_below_grown HB1.out _ HB1.out.size hg14 HOB.out); clear ho14 hb14 hg14 hat14)
   go_roundg (8 - (n + 1))
   case measure => omega
   case rel => exact ⟨n + 1, _, rfl, by first | rfl | simp, ⟨by omega⟩, HO14, HOB14, HB14⟩
  ·
   have d1 : decide ((n : Int) + 1 ≤ 8) = false := decide_eq_false (by omega)
   obtain rfl : n = 8 := by omega
   go_wp2
   go_ret
   exact ⟨_, rfl, Kd.S_mono HO1.out (fun _ _ => trivial), below_step HB.out HB1.out⟩

end Go.Proofs.YtmacedbpdhkagaaDoor.Pure
namespace Go.Proofs.YtmacedbpdhkagaaDoor.Pure
set_option linter.unusedVariables false
set_option linter.unusedSimpArgs false
open Go Go.RowKit Go.Proofs.YtmacedbpdhkagaaDoor.PFnTonaryDrop Go.Proofs.YtmacedbpdhkagaaDoorW.PrintWords Go.Proofs.YtmacedbpdhkagaaDoorW.PrintLast Go.Proofs.YtmacedbpdhkagaaDoorW.PrintMore

set_option maxHeartbeats 1000000 in
set_option maxRecDepth 100000 in
theorem cmpString_calls (a b : ByteArray) (w : World) :
 Calls Tryd.prog 106 #[.string a, .string b] w fun e w' => e = .returned (.int .i64 (Lib.compareBytes a.data.toList b.data.toList)) ∧ w' = w := by
 go_enter Tryd.func106, Tryd.ntmps106
 go_wp2
 rw [run_callFunc_extern Tryd.func108 (by kernel_rfl) (by kernel_rfl) (by kernel_rfl) (e := Extern.BytealgCompare.compare) (by kernel_rfl), Lib.run_compareString]
 simp only [Result.andThen]
 rw [Oper.upon_value]
 go_wp2
 go_ret
 exact ⟨rfl, rfl⟩
set_option maxHeartbeats 1000000 in
theorem compare_calls (a b : ByteArray) (w : World) :
 Calls Tryd.prog 85 #[.string a, .string b] w fun e w' => e = .returned (.int .i64 (Lib.compareBytes a.data.toList b.data.toList)) ∧ w' = w := by
 go_enter Tryd.func85, Tryd.ntmps85
 go_wp2_with (go_at_call 106; refine (cmpString_calls _ _ _).mono ?_; rintro e w' ⟨rfl, rfl⟩)
 go_ret
 exact ⟨rfl, rfl⟩
set_option maxHeartbeats 1000000 in
set_option maxRecDepth 100000 in
theorem findCmp_calls (a : ByteArray) (m : Int) (v : Value) (nm : ByteArray) (w : World) :
 Calls Tryd.prog 84 #[.agg #[.string a, .int .i64 m, v], .string nm] w fun r w' => r = .returned (.int .i64 (Lib.compareBytes a.data.toList nm.data.toList)) ∧ Below w.heap.size w w' := by
 have hu1 := Tryd.underlying38
 go_enter Tryd.func84, Tryd.ntmps84
 go_wp2_with (first
  | ((with_reducible refine gate_dst (N := 2) rfl ?_); refine box_event ?hg (N := 2) ?hd (cs := #[.string a, .int .i64 m, v]) (t := 38) ?hr ?_; (case hd => rfl); (case hg => rfl); (case hr => first | (go_simp; done) | (go_simp; rfl)); intro gb hg w3 hbox hb; have hx0 : w3.cell? ⟨gb, 0, none⟩ = some (.string a) := (blk_cell hbox 0).trans rfl; have HB := Aside0.mk hb; clear hb hg)
  | (go_at_call 85; refine (compare_calls _ _ _).mono ?_; rintro e w' ⟨rfl, rfl⟩))
 go_ret
 exact ⟨rfl, HB.out⟩

def nmAt (X : List S38) (nm : ByteArray) : Nat := (X.takeWhile (fun e => nmLt e.f0 nm)).length
theorem cmp_lt : ∀ (a b : List UInt8), decide (Lib.compareBytes a b < 0) = decide (a < b)
 | [], [] => by simp [Lib.compareBytes]
 | [], y :: ys => by simp [Lib.compareBytes]
 | x :: xs, [] => by simp [Lib.compareBytes]
 | x :: xs, y :: ys => by
  have ih := cmp_lt xs ys
  unfold Lib.compareBytes
  by_cases h1 : x < y
  ·
   rw [if_pos h1]
   simp [List.cons_lt_cons_iff, h1]
  ·
   rw [if_neg h1]
   by_cases h2 : y < x
   ·
    rw [if_pos h2]
    have h3 : ¬ x = y := fun e => by subst e; exact absurd h2 (UInt8.lt_irrefl x)
    simp [List.cons_lt_cons_iff, h1, h3]
   ·
    rw [if_neg h2, ih]
    have h3 : x = y := by
     have a1 : ¬ x.toNat < y.toNat := fun h => h1 (UInt8.lt_iff_toNat_lt.2 h)
     have a2 : ¬ y.toNat < x.toNat := fun h => h2 (UInt8.lt_iff_toNat_lt.2 h)
     exact UInt8.toNat_inj.1 (by omega)
    subst h3
    simp [List.cons_lt_cons_iff]
theorem cmp_eq0 : ∀ (a b : List UInt8), (Lib.compareBytes a b = 0) ↔ a = b
 | [], [] => by simp [Lib.compareBytes]
 | [], y :: ys => by simp [Lib.compareBytes]
 | x :: xs, [] => by simp [Lib.compareBytes]
 | x :: xs, y :: ys => by
  have ih := cmp_eq0 xs ys
  unfold Lib.compareBytes
  by_cases h1 : x < y
  ·
   rw [if_pos h1]
   have h3 : ¬ x = y := fun e => by subst e; exact absurd h1 (UInt8.lt_irrefl x)
   simp [h3]
  ·
   rw [if_neg h1]
   by_cases h2 : y < x
   ·
    rw [if_pos h2]
    have h3 : ¬ x = y := fun e => by subst e; exact absurd h2 (UInt8.lt_irrefl x)
    simp [h3]
   ·
    rw [if_neg h2, ih]
    have h3 : x = y := by
     have a1 : ¬ x.toNat < y.toNat := fun h => h1 (UInt8.lt_iff_toNat_lt.2 h)
     have a2 : ¬ y.toNat < x.toNat := fun h => h2 (UInt8.lt_iff_toNat_lt.2 h)
     exact UInt8.toNat_inj.1 (by omega)
    simp [h3]

theorem nmLt_iff (a b : ByteArray) : nmLt a b = true ↔ a.toList < b.toList := by
 unfold nmLt
 rw [bytesLess_eq]
 exact decide_eq_true_iff
theorem nmLt_irrefl (a : ByteArray) : nmLt a a = false := by
 cases h : nmLt a a
 ·
  rfl
 ·
  exact absurd ((nmLt_iff a a).1 h) (List.lt_irrefl _)
theorem nmLt_trans {a b c : ByteArray} (h1 : nmLt a b = true) (h2 : nmLt b c = true) : nmLt a c = true :=
 (nmLt_iff a c).2 (List.lt_trans ((nmLt_iff a b).1 h1) ((nmLt_iff b c).1 h2))
theorem nm_eq_of {a b : ByteArray} (h1 : nmLt a b = false) (h2 : nmLt b a = false) : a = b := by
 refine Go.WideShapes.bytes_inj ?_
 rw [← Lib.toList_data, ← Lib.toList_data]
 have n1 : ¬ a.toList < b.toList := fun h => by rw [(nmLt_iff a b).2 h] at h1; cases h1
 have n2 : ¬ b.toList < a.toList := fun h => by rw [(nmLt_iff b a).2 h] at h2; cases h2
 exact List.le_antisymm (List.not_lt.1 n2) (List.not_lt.1 n1)
theorem befE_iff (p e : S38) : befE p e = true ↔ p.f1 < e.f1 ∨ (p.f1 = e.f1 ∧ nmLt p.f0 e.f0 = true) := by
 unfold befE
 by_cases h1 : p.f1 < e.f1
 ·
  simp [h1]
 ·
  by_cases h2 : p.f1 = e.f1
  ·
   simp [h2]
  ·
   simp [h1, h2]
theorem befE_trans {a b c : S38} (h1 : befE a b = true) (h2 : befE b c = true) : befE a c = true := by
 rw [befE_iff] at *
 rcases h1 with h1 | ⟨e1, h1⟩ <;> rcases h2 with h2 | ⟨e2, h2⟩
 ·
  exact .inl (by omega)
 ·
  exact .inl (by omega)
 ·
  exact .inl (by omega)
 ·
  exact .inr ⟨by omega, nmLt_trans h1 h2⟩
theorem befE_irrefl (a : S38) : befE a a = false := by
 cases h : befE a a
 ·
  rfl
 ·
  rw [befE_iff] at h
  rcases h with h | ⟨_, h⟩
  ·
   omega
  ·
   rw [nmLt_irrefl] at h; cases h
theorem befE_asymm {a b : S38} (h : befE a b = true) : befE b a = false := by
 cases h2 : befE b a
 ·
  rfl
 ·
  have := befE_trans h h2
  rw [befE_irrefl] at this; cases this
abbrev Srt (L : List S38) : Prop := L.Pairwise (fun a b => befE a b = true)
theorem tOk_iff : ∀ (L : List S38) (p : Option S38), tOkFrom p L = true ↔ ((∀ e ∈ L, entOk e = true) ∧ Srt L ∧ ∀ q, p = some q → ∀ e ∈ L, befE q e = true)
 | [], p => by
  have : tOkFrom p [] = true := by cases p <;> rfl
  rw [this]
  simp
 | e :: es, none => by
  simp only [tOkFrom]
  rw [Bool.and_eq_true, tOk_iff es (some e)]
  constructor
  ·
   rintro ⟨h1, h2, h3, h4⟩
   exact ⟨fun x hx => by rcases List.mem_cons.1 hx with rfl | hx; exact h1; exact h2 x hx, List.pairwise_cons.2 ⟨fun x hx => h4 e rfl x hx, h3⟩, fun q hq => by cases hq⟩
  ·
   rintro ⟨h1, h2, _⟩
   obtain ⟨h3, h4⟩ := List.pairwise_cons.1 h2
   exact ⟨h1 e List.mem_cons_self, fun x hx => h1 x (List.mem_cons_of_mem _ hx), h4, fun q hq x hx => by cases hq; exact h3 x hx⟩
 | e :: es, some p => by
  simp only [tOkFrom]
  rw [Bool.and_eq_true, Bool.and_eq_true, tOk_iff es (some e)]
  constructor
  ·
   rintro ⟨h1, h0, h2, h3, h4⟩
   exact ⟨fun x hx => by rcases List.mem_cons.1 hx with rfl | hx; exact h1; exact h2 x hx, List.pairwise_cons.2 ⟨fun x hx => h4 e rfl x hx, h3⟩, fun q hq x hx => by cases hq; rcases List.mem_cons.1 hx with rfl | hx; exact h0; exact befE_trans h0 (h4 e rfl x hx)⟩
  ·
   rintro ⟨h1, h2, h5⟩
   obtain ⟨h3, h4⟩ := List.pairwise_cons.1 h2
   exact ⟨h1 e List.mem_cons_self, h5 p rfl e List.mem_cons_self, fun x hx => h1 x (List.mem_cons_of_mem _ hx), h4, fun q hq x hx => by cases hq; exact h3 x hx⟩
theorem tonOk_iff (L : List S38) : tonOk L = true ↔ L.length ≤ 20 ∧ (∀ e ∈ L, entOk e = true) ∧ Srt L := by
 unfold tonOk
 rw [Bool.and_eq_true, tOk_iff, decide_eq_true_iff]
 constructor
 ·
  rintro ⟨h1, h2, h3, _⟩; exact ⟨h1, h2, h3⟩
 ·
  rintro ⟨h1, h2, h3⟩; exact ⟨h1, h2, h3, fun q hq => by cases hq⟩
theorem tonOk_sub {L X : List S38} (h : tonOk L = true) (hs : X.Sublist L) : tonOk X = true := by
 rw [tonOk_iff] at *
 exact ⟨Nat.le_trans hs.length_le h.1, fun e he => h.2.1 e (hs.subset he), List.Pairwise.sublist hs h.2.2⟩
theorem entOk_mode {e : S38} (h : entOk e = true) : 1 ≤ e.f1 ∧ e.f1 ≤ 8 := by
 unfold entOk at h
 rw [Bool.and_eq_true] at h
 unfold mOk at h
 exact of_decide_eq_true h.1
/-- a list that is sorted by modes is its modes' parts, one behind the other -/
theorem catM_filter (X : List S38) (hm : X.Pairwise (fun a b => a.f1 ≤ b.f1)) : ∀ n : Nat, (∀ e ∈ X, 1 ≤ e.f1) → catM (fun k => X.filter (fun e => e.f1 == k)) n = X.filter (fun e => decide (e.f1 ≤ (n : Int)))
 | 0, h => by
  symm
  rw [show catM (fun k => X.filter (fun e => e.f1 == k)) 0 = [] from rfl, List.filter_eq_nil_iff]
  intro e he
  have := h e he
  simp; omega
 | n + 1, h => by
  have ih := catM_filter X hm n h
  show catM _ n ++ X.filter (fun e => e.f1 == ((n : Int) + 1)) = _
  rw [ih]
  clear ih
  induction X with
  | nil => rfl
  | cons e X ih =>
   obtain ⟨h1, h2⟩ := List.pairwise_cons.1 hm
   have ih := ih h2 (fun x hx => h x (List.mem_cons_of_mem _ hx))
   by_cases c1 : e.f1 ≤ (n : Int)
   ·
    rw [List.filter_cons_of_pos (by simpa using c1), List.filter_cons_of_neg (by simp; omega), List.filter_cons_of_pos (by simp; omega), List.cons_append, ih]
   ·
    have hz : X.filter (fun e => decide (e.f1 ≤ (n : Int))) = [] := by
     rw [List.filter_eq_nil_iff]
     intro x hx
     have := h1 x hx
     simp; omega
    rw [List.filter_cons_of_neg (by simpa using c1), hz, List.nil_append]
    rw [hz, List.nil_append] at ih
    by_cases c2 : e.f1 = (n : Int) + 1
    ·
     rw [List.filter_cons_of_pos (by simp [c2]), List.filter_cons_of_pos (by simp; omega), ih]
    ·
     rw [List.filter_cons_of_neg (by simpa using c2), List.filter_cons_of_neg (by simp; omega), ih]
theorem srt_modes {L : List S38} (h : Srt L) : L.Pairwise (fun a b => a.f1 ≤ b.f1) :=
 List.Pairwise.imp (fun {a b} hab => by rw [befE_iff] at hab; omega) h
theorem catM_eq {X : List S38} (hs : Srt X) (hm : ∀ e ∈ X, 1 ≤ e.f1 ∧ e.f1 ≤ 8) : catM (fun k => X.filter (fun e => e.f1 == k)) 8 = X := by
 rw [catM_filter X (srt_modes hs) 8 (fun e he => (hm e he).1)]
 exact List.filter_eq_self.2 (fun e he => decide_eq_true (hm e he).2)
theorem catM_cong {G G' : Int → List S38} : ∀ n : Nat, (∀ k : Int, 1 ≤ k → k ≤ (n : Int) → G k = G' k) → catM G n = catM G' n
 | 0, _ => rfl
 | n + 1, h => by
  show catM G n ++ G ((n : Int) + 1) = catM G' n ++ G' ((n : Int) + 1)
  rw [catM_cong n (fun k h1 h2 => h k h1 (by omega)), h _ (by omega) (by omega)]
theorem srt_names {L : List S38} (h : Srt L) (mode : Int) : (L.filter (fun e => e.f1 == mode)).Pairwise (fun a b => nmLt a.f0 b.f0 = true) := by
 rw [List.pairwise_filter]
 refine List.Pairwise.imp (fun {a b} hab ha hb => ?_) h
 rw [befE_iff] at hab
 simp at ha hb
 rcases hab with h | h
 ·
  omega
 ·
  exact h.2
theorem rd_cons_succ (e : S38) (X : List S38) (i : Nat) : rd_T38 (e :: X) ((i + 1 : Nat) : Int) = rd_T38 X (i : Int) := by
 unfold rd_T38
 rw [Int.toNat_natCast, Int.toNat_natCast, List.getD_cons_succ]
theorem rd_cons_zero (e : S38) (X : List S38) : rd_T38 (e :: X) ((0 : Nat) : Int) = e := rfl
theorem nmAt_mono : ∀ (X : List S38), X.Pairwise (fun a b => nmLt a.f0 b.f0 = true) → ∀ (nm : ByteArray) (i : Nat), i < X.length → nmLt (rd_T38 X (i : Int)).f0 nm = decide (i < nmAt X nm)
 | [], _, nm, i, hi => absurd hi (Nat.not_lt_zero i)
 | e :: X, hp, nm, i, hi => by
  obtain ⟨h1, h2⟩ := List.pairwise_cons.1 hp
  cases he : nmLt e.f0 nm
  ·
   have h0 : nmAt (e :: X) nm = 0 := by unfold nmAt; rw [List.takeWhile_cons, he]; rfl
   rw [h0, decide_eq_false (Nat.not_lt_zero i)]
   cases i with
   | zero => exact he
   | succ i =>
    have hl : i < X.length := by simp at hi; omega
    rw [rd_cons_succ]
    cases hx : nmLt (rd_T38 X (i : Int)).f0 nm
    ·
     rfl
    ·
     have := nmLt_trans (h1 _ (rd_ent X i hl)) hx
     rw [this] at he; cases he
  ·
   have h0 : nmAt (e :: X) nm = nmAt X nm + 1 := by unfold nmAt; rw [List.takeWhile_cons, he]; rfl
   rw [h0]
   cases i with
   | zero => rw [rd_cons_zero, he, decide_eq_true (Nat.succ_pos _)]
   | succ i =>
    rw [rd_cons_succ, nmAt_mono X h2 nm i (by simp at hi; omega)]
    exact decide_eq_decide.2 (by omega)

theorem nmLt_dec (a b : ByteArray) : decide (Lib.compareBytes a.data.toList b.data.toList < 0) = nmLt a b := by
 rw [cmp_lt]
 unfold nmLt
 rw [bytesLess_eq, Lib.toList_data, Lib.toList_data]
theorem nmEq_dec (a b : ByteArray) : decide (Lib.compareBytes a.data.toList b.data.toList = 0) = decide (a = b) := by
 refine decide_eq_decide.2 ((cmp_eq0 _ _).trans ⟨fun h => ?_, fun h => by rw [h]⟩)
 exact Go.WideShapes.bytes_inj h
set_option maxHeartbeats 2000000 in
set_option maxRecDepth 100000 in
theorem bsearch_calls (X : List S38) (nm : ByteArray) (A0 : Option Addr) (c0 : Nat) (w : World) (hr0 : Kd.C k38 w A0 X.length X) (hc0 : X.length ≤ c0) (hl : X.length ≤ 1000) (hm : ∀ i : Nat, i < X.length → nmLt (rd_T38 X (i : Int)).f0 nm = decide (i < nmAt X nm)) :
 Calls Tryd.prog 83 #[.slice A0 X.length c0, .string nm, .func (.func 84) #[] #[]] w fun e w' => e = .returned (.tuple #[.int .i64 (nmAt X nm : Int), .bool (decide (nmAt X nm < X.length) && decide ((rd_T38 X (nmAt X nm : Int)).f0 = nm))]) ∧ Below w.heap.size w w' := by
 have hu1 := Tryd.underlying38
 have HR0 := Aside0.mk hr0
 have HC0 := Aside0.mk hc0
 have HM := Aside0.mk hm
 have hs : nmAt X nm ≤ X.length := (List.takeWhile_prefix _).length_le
 obtain ⟨s, hs0⟩ : ∃ s, s = nmAt X nm := ⟨_, rfl⟩
 rw [← hs0] at hs ⊢
 have HS := Aside0.mk hs0
 clear hr0 hc0 hm hs0
 go_enter Tryd.func83, Tryd.ntmps83
 go_wp2
 go_loopg [9, 10, 11] X.length (fun kq v9 v10 v11 w' => ∃ (i j : Nat), v9 = .int .i64 (i : Int) ∧ v10 = .int .i64 (j : Int) ∧ Aside0 (kq = j - i ∧ i ≤ s ∧ s ≤ j ∧ j ≤ X.length) ∧ Aside0 (Below w.heap.size w w'))
 case atStart => exact ⟨0, X.length, rfl, rfl, ⟨by omega⟩, ⟨by repeat (first | exact Below.refl _ _ | apply below_alloc | apply pw_below_drewN | apply below_drew1)⟩⟩
 case round =>
  obtain ⟨i, j, rfl, rfl, HX, HB1⟩ := hrel
  obtain ⟨hkq, hi, hj, hjX⟩ := HX.out
  by_cases hij : (i : Int) < (j : Int)
  ·
   have d1 : decide ((i : Int) < (j : Int)) = true := decide_eq_true hij
   obtain ⟨h, hh⟩ : ∃ h : Nat, ((i : Int) + (j : Int)) / 2 = (h : Int) := ⟨(i + j) / 2, by omega⟩
   have hih : i ≤ h ∧ h < j := by omega
   have hlt : (h : Int) < (X.length : Int) := by omega
   have p0 : (0 : Int) ≤ (h : Int) := by omega
   obtain ⟨ad, A2, c2, e0, ux0, ux1, ux2, hl2, hg2⟩ := at_T38 (Kd.C_below HR0.out HB1.out) (h : Int) p0 hlt
   subst e0
   have hcmp := (nmLt_dec (rd_T38 X (h : Int)).f0 nm).trans (HM.out h (by omega))
   rw [← HS.out] at hcmp
   generalize rd_T38 X (h : Int) = e at ux0 ux1 ux2 hl2 hg2 hcmp
   simp only [Int.toNat_natCast] at ux0 ux1 ux2
   have HCMP := Aside0.mk hcmp
   clear hl2 hg2 hcmp
   have NX : Aside0 (gk = j - i ∧ i ≤ h ∧ h < j ∧ j ≤ X.length ∧ i ≤ s ∧ s ≤ j) := ⟨hkq, hih.1, hih.2, hjX, hi, hj⟩
   by_cases hsl : h < s
   ·
    have dc : decide (Lib.compareBytes e.f0.data.toList nm.data.toList < 0) = true := by rw [HCMP.out]; exact decide_eq_true hsl
    have HSL := Aside0.mk hsl
    clear hsl hkq hi hj hih
    go_wp2_with (go_at_call 84; refine (findCmp_calls _ _ _ nm _).mono ?_; rintro e_ w5 ⟨rfl, hb5⟩; have HB5 := Aside0.mk (below_step HB1.out hb5); clear hb5)
    go_roundg (j - (h + 1))
    case measure => have := NX.out; omega
    case rel => exact ⟨h + 1, j, by first | rfl | simp, rfl, ⟨by have h1 := NX.out; have h2 := HSL.out; omega⟩, HB5⟩
   ·
    have dc : decide (Lib.compareBytes e.f0.data.toList nm.data.toList < 0) = false := by rw [HCMP.out]; exact decide_eq_false hsl
    have HSL := Aside0.mk hsl
    clear hsl hkq hi hj hih
    go_wp2_with (go_at_call 84; refine (findCmp_calls _ _ _ nm _).mono ?_; rintro e_ w5 ⟨rfl, hb5⟩; have HB5 := Aside0.mk (below_step HB1.out hb5); clear hb5)
    go_roundg (h - i)
    case measure => have := NX.out; omega
    case rel => exact ⟨i, h, rfl, by first | rfl | simp, ⟨by have h1 := NX.out; have h2 := HSL.out; omega⟩, HB5⟩
  ·
   have d1 : decide ((i : Int) < (j : Int)) = false := decide_eq_false hij
   obtain rfl : i = j := by omega
   obtain rfl : i = s := by omega
   go_upto_region 8 with fail
   by_cases hlt : i < X.length
   ·
    have d2 : decide ((i : Int) < (X.length : Int)) = true := decide_eq_true (by omega)
    have d2' : decide (i < X.length) = true := decide_eq_true hlt
    have p0 : (0 : Int) ≤ (i : Int) := by omega
    have q0 : (i : Int) < (X.length : Int) := by omega
    obtain ⟨ad, A2, c2, e0, ux0, ux1, ux2, hl2, hg2⟩ := at_T38 (Kd.C_below HR0.out HB1.out) (i : Int) p0 q0
    subst e0
    have HQ : Aside0 ((Lib.compareBytes (rd_T38 X (i : Int)).f0.data.toList nm.data.toList == 0) = (decide (i < X.length) && decide ((rd_T38 X (i : Int)).f0 = nm))) := ⟨by rw [d2', Bool.true_and, ← nmEq_dec]; rfl⟩
    obtain ⟨e, he⟩ : ∃ e, e = rd_T38 X (i : Int) := ⟨_, rfl⟩
    rw [← he] at ux0 ux1 ux2
    simp only [Int.toNat_natCast] at ux0 ux1 ux2
    have HE := Aside0.mk he
    clear hl2 hg2 hkq hi hj hij he
    go_wp2_with (go_at_call 84; refine (findCmp_calls _ _ _ nm _).mono ?_; rintro e_ w5 ⟨rfl, hb5⟩; have HB5 := Aside0.mk (below_step HB1.out hb5); clear hb5)
    go_ret2
    exact ⟨by have h := HQ.out; rw [← HE.out] at h; rw [← HE.out]; exact congrArg (fun b => Ending.returned (.tuple #[.int .i64 (i : Int), .bool b])) h, HB5.out⟩
   ·
    have d2 : decide ((i : Int) < (X.length : Int)) = false := decide_eq_false (by omega)
    have d2' : decide (i < X.length) = false := decide_eq_false hlt
    have HQ : Aside0 (false = (decide (i < X.length) && decide ((rd_T38 X (i : Int)).f0 = nm))) := ⟨by rw [d2']; rfl⟩
    clear hkq hi hj hij
    go_wp2
    go_ret2
    exact ⟨congrArg (fun b => Ending.returned (.tuple #[.int .i64 (i : Int), .bool b])) HQ.out, HB1.out⟩

end Go.Proofs.YtmacedbpdhkagaaDoor.Pure
namespace Go.Proofs.YtmacedbpdhkagaaDoor.Pure
set_option linter.unusedVariables false
set_option linter.unusedSimpArgs false
open Go Go.RowKit Go.Proofs.YtmacedbpdhkagaaDoor.PFnTonaryDrop Go.Proofs.YtmacedbpdhkagaaDoorW.PrintWords Go.Proofs.YtmacedbpdhkagaaDoorW.PrintLast Go.Proofs.YtmacedbpdhkagaaDoorW.PrintMore

theorem drewN_grown (w : World) (n : Nat) (row : Option Nat) : w.grownBy (w.drewN n) row := ⟨rfl, rfl, rfl, Nat.le_refl _, fun _ _ _ => rfl⟩
theorem setRow_far {W : World} {g k : Nat} (cs : Array Value) (h : k ≠ g) : (W.setRow g cs).heap[k]? = W.heap[k]? := by
 simp [World.setRow, Array.getElem?_modify, show ¬ g = k from fun e => h e.symm]
theorem setRow_grown (W : World) (g : Nat) (cs : Array Value) : W.grownBy (W.setRow g cs) (some g) :=
 ⟨rfl, rfl, rfl, by simp [World.setRow], fun k _ hk => setRow_far cs (fun e => hk (by rw [e]))⟩
theorem R_tail {P : Program} {α : Type} {d : Kd α} {e base n c g : Nat} {ok : Nat → Prop} {W : World} {xs : List α} (HO : d.R e W base ok (.slice (some ⟨g, 0, none⟩) n c) xs) (news : List Value) (o : Nat) (ho : n * d.sz ≤ o) (hf : o + news.length ≤ c * d.sz) (hone : ∀ v ∈ news, v.oneCell' = true) :
 ∃ w1, (storeCells ⟨g, o, none⟩ news 0).run P W = .ok () w1 ∧ d.R e w1 base ok (.slice (some ⟨g, 0, none⟩) n c) xs ∧ W.grownBy w1 (some g) := by
 obtain ⟨hn, hnc, _⟩ := Kd.R_reads' HO
 obtain ⟨hok, inner, hown, hr⟩ := HO
 rcases hown.2 with ⟨hv, _⟩ | ⟨g', cap', cur, hv, hb, hh, hnc', hcm, hcs, htake⟩
 ·
  cases hv
 injection hv with ha _ hc
 injection ha with ha
 injection ha with hg
 subst hg; subst hc
 have hnm : xs.length * d.sz = n * d.sz := by rw [hn]
 have hst := run_storeCells_at P g o e news 0 cur W hh (by rw [hcs]; omega) hone
 refine ⟨_, hst, ⟨hok, inner, ⟨hown.1, .inr ⟨g, c, _, by rw [hn], hb, setRow_heap W g cur _ e _ hh, hnc', hcm, ?_, ?_⟩⟩, ?_⟩, setRow_grown _ _ _⟩
 ·
  rw [← hcs, List.size_toArray, List.length_append, List.length_append, List.length_take, List.length_drop, Array.length_toList]
  omega
 ·
  have h8 : n * d.sz ≤ (cur.toList.take (o + 0)).length := by rw [List.length_take, Array.length_toList]; omega
  have h9 : (cur.toList.take (o + 0) ++ news ++ cur.toList.drop (o + 0 + news.length)).take (n * d.sz) = cur.toList.take (n * d.sz) := by
   rw [List.append_assoc, List.take_append_of_le_length h8, List.take_take, Nat.min_eq_left (by omega)]
  rw [← hnm] at h9
  exact h9.trans htake
 ·
  exact hr.imp_ (fun p q hp => d.M_move (fun k hk => setRow_far _ (fun e => hk.2 (by rw [e]; simp [Value.ownBlock]))) hp)
theorem S_tail {P : Program} {α : Type} {d : Kd α} {e base n c g : Nat} {ok : Nat → Prop} {W : World} {xs : List α} (HO : Kd.S d e W base ok (.slice (some ⟨g, 0, none⟩) n c) xs) (news : List Value) (o : Nat) (ho : n * d.sz ≤ o) (hf : o + news.length ≤ c * d.sz) (hone : ∀ v ∈ news, v.oneCell' = true) :
 ∃ w1, (storeCells ⟨g, o, none⟩ news 0).run P W = .ok () w1 ∧ Kd.S d e w1 base ok (.slice (some ⟨g, 0, none⟩) n c) xs ∧ W.grownBy w1 (some g) := by
 obtain ⟨f, HR⟩ := HO
 obtain ⟨w1, h1, h2, h3⟩ := R_tail (P := P) HR news o ho hf hone
 exact ⟨w1, h1, ⟨f, h2⟩, h3⟩
theorem S_clear1 {P : Program} {α : Type} {d : Kd α} {t e base n c c2 g : Nat} {ty : TypeId} {ok : Nat → Prop} {W : World} {xs : List α} {z : Value} {zs : List Value} (ht : P.underlying t = some (.slice e)) (hz : ∀ w, (zeroValue e).run P w = .ok z w) (hzc : (Builtin.zeroCells z.cells 1).toList = zs) (hzl : zs.length = d.sz) (hone : ∀ v ∈ zs, v.oneCell' = true)
 (HO : Kd.S d e W base ok (.slice (some ⟨g, 0, none⟩) n c) xs) (hn : n < c) :
 ∃ w1, (Builtin.clear_ #[t] ty #[.slice (some ⟨g, n * d.sz, none⟩) 1 c2]).run P W = .ok (.tuple #[]) w1 ∧ Kd.S d e w1 base ok (.slice (some ⟨g, 0, none⟩) n c) xs ∧ W.grownBy w1 (some g) := by
 have h5 : (n + 1) * d.sz ≤ c * d.sz := Nat.mul_le_mul_right _ hn
 rw [Nat.succ_mul] at h5
 obtain ⟨w1, h1, h2, h3⟩ := S_tail (P := P) HO zs (n * d.sz) (Nat.le_refl _) (by omega) hone
 refine ⟨w1, ?_, h2, h3⟩
 simp [Builtin.clear_, run_underlying ht, hz, hzc, h1]
theorem wpList_clear_run {P : Program} {W w' : World} {ops : Array Oper} {rest : List Oper} {o : Oper} {a : Act} {Q : Exit → Act → World → Prop} (hgd : o.guard = none) (x : Operand) (t : TypeId)
 (ho : o.op = .call { callee := .builtin .clear, args := #[x], argTypes := #[t] }) (v : Value) (hx : a.eval x = v) {v' : Value}
 (hr : (Builtin.clear_ #[t] o.type #[v]).run P W = .ok v' w') (h : wpList P ops Q rest (a.put o.dst v') w') : wpList P ops Q (o :: rest) a W := by
 refine wpList_plain hgd fun K hK => ?_
 unfold Oper.wp execOp
 simp only [ho, resolve, invoke, builtin, Sem.run_bind, Sem.run_pure, Result.andThen_ok, List.map_toArray, List.map_cons, List.map_nil, hx, hr]
 exact hK _ _ h
theorem add_off (g o : Nat) : (Addr.mk g 0 none).add o = Addr.mk g o none := by
 unfold Addr.add
 split
 ·
  next h => rw [h]
 ·
  rw [Nat.zero_add]
theorem ent_zero (w : World) : (zeroValue 38).run Tryd.prog w = .ok (.agg #[.string ⟨#[]⟩, .int .i64 0, .slice none 0 0]) w := by kernel_rfl
set_option maxHeartbeats 2000000 in
set_option maxRecDepth 100000 in
theorem delete_calls (X : List S38) (g c i base : Nat) (ok : Nat → Prop) (w : World) (hO : Kd.S k38 38 w base ok (.slice (some ⟨g, 0, none⟩) X.length c) X) (hb : base ≤ w.heap.size) (hi : i < X.length) (hl : X.length ≤ 1000) (hcm : c ≤ maxLen) :
 Calls Tryd.prog 66 #[.slice (some ⟨g, 0, none⟩) X.length c, .int .i64 (i : Int), .int .i64 ((i : Int) + 1)] w fun e w' => e = .returned (.slice (some ⟨g, 0, none⟩) (X.length - 1) c) ∧ Kd.S k38 38 w' base ok (.slice (some ⟨g, 0, none⟩) (X.length - 1) c) (X.eraseIdx i) ∧ w.grownBy w' (some g) := by
 have hu1 := Tryd.underlying38
 have hc0 : X.length ≤ c := (Kd.S_reads' hO).2.1
 have HO := Aside0.mk hO
 have HB := Aside0.mk hb
 unfold maxLen at hcm
 clear hO hb
 obtain ⟨n, hn⟩ : ∃ n, n = X.length := ⟨_, rfl⟩
 have HN := Aside0.mk hn
 have HOn : Aside0 (Kd.S k38 38 w base ok (.slice (some ⟨g, 0, none⟩) n c) X) := ⟨by rw [hn]; exact HO.out⟩
 rw [← hn] at hi hl hc0 ⊢
 clear HO hn
 obtain ⟨p, hp⟩ : ∃ p, n - 1 = p := ⟨_, rfl⟩
 rw [hp]
 have HP := Aside0.mk hp
 have b0 : (0 : Int) ≤ (i : Int) := by omega
 have b1 : (i : Int) ≤ (i : Int) + 1 := by omega
 have b2 : (i : Int) + 1 ≤ (n : Int) := by omega
 have b3 : (n : Int) ≤ (c : Int) := by omega
 have b5 : (i : Int) ≤ (c : Int) := by omega
 have b6 : (i : Int) + 1 ≤ (c : Int) := by omega
 have b7 : (0 : Int) ≤ (i : Int) + 1 := by omega
 have b8 : (p : Int) ≤ (n : Int) := by omega
 have b9 : (0 : Int) ≤ (p : Int) := by omega
 have n1 : ¬ (c = p) := by omega
 have n2 : n - p = 1 := by omega
 have n3 : p < n := by omega
 have hpi : i ≤ p := by omega
 clear hp
 have b4 : ¬ ((i : Int) = (i : Int) + 1) := by omega
 go_enter Tryd.func66, Tryd.ntmps66
 go_upto_region 5 with fail
 by_cases hck : c = i + 1
 ·
  subst hck
  obtain rfl : n = i + 1 := by omega
  obtain rfl : p = i := by have := HP.out; omega
  go_region_held3 (fun _ => True) (trivial) (first
   | (refine Kd.S_delete_step k38 (w0 := w) base (by rfl) (.tmp 22) (.tmp 25) 24 38 (by rfl) Tryd.underlying24 (by have h := congrArg (Option.map (fun x => x.2.1)) info38; rw [Option.map_map] at h; exact h) (k := p) (n := p + 1) (g := g) (c := p + 1) (m := 0) (c2 := 0) (by rfl) (by rfl) (by rw [if_pos rfl]) (by omega) (Kd.S_drew HOn.out) hi (below_drew1 (Below.refl _ _)) HB.out ?_; intro w5 ho5 hb5 hg5; rw [HP.out] at ho5 ⊢; have HO5 := Aside0.mk ho5; have HG5 := Aside0.mk ((drewN_grown w 1 (some g)).trans hg5); clear ho5 hb5 hg5)
   | fail)
  obtain ⟨w6, hr6, ho6, hg6⟩ := S_clear1 (P := Tryd.prog) (t := 24) (e := 38) (ty := 0) (c2 := 1) Tryd.underlying24 ent_zero (zs := [.string ⟨#[]⟩, .int .i64 0, .slice none 0 0]) (by kernel_rfl) rfl (by decide) HO5.out (by omega)
  have HR6 := Aside0.mk hr6
  have HO6 := Aside0.mk ho6
  have HG6 := Aside0.mk (HG5.out.trans hg6)
  clear hr6 ho6 hg6
  go_wp2_with ((with_reducible refine gate_builtin (b := .clear) (xs := #[.tmp 31]) rfl ?_); refine wpList_clear_run rfl (.tmp 31) 24 rfl _ rfl HR6.out ?_)
  go_ret
  exact ⟨rfl, HO6.out, HG6.out⟩
 ·
  go_region_held3 (fun _ => True) (trivial) (first
   | (refine Kd.S_delete_step k38 (w0 := w) base (by rfl) (.tmp 22) (.tmp 25) 24 38 (by rfl) Tryd.underlying24 (by have h := congrArg (Option.map (fun x => x.2.1)) info38; rw [Option.map_map] at h; exact h) (k := i) (n := n) (g := g) (c := c) (m := n - (i + 1)) (c2 := c - (i + 1)) (by rfl) (by rfl) (by rw [if_neg hck, Option.map_some]; exact congrArg some (add_off g ((i + 1) * 3)).symm) rfl (Kd.S_drew HOn.out) hi (below_drew1 (Below.refl _ _)) HB.out ?_; intro w5 ho5 hb5 hg5; rw [HP.out] at ho5 ⊢; have HO5 := Aside0.mk ho5; have HG5 := Aside0.mk ((drewN_grown w 1 (some g)).trans hg5); clear ho5 hb5 hg5)
   | fail)
  obtain ⟨w6, hr6, ho6, hg6⟩ := S_clear1 (P := Tryd.prog) (t := 24) (e := 38) (ty := 0) (c2 := c - p) Tryd.underlying24 ent_zero (zs := [.string ⟨#[]⟩, .int .i64 0, .slice none 0 0]) (by kernel_rfl) rfl (by decide) HO5.out (by omega)
  have HR6 := Aside0.mk hr6
  have HO6 := Aside0.mk ho6
  have HG6 := Aside0.mk (HG5.out.trans hg6)
  clear hr6 ho6 hg6
  go_wp2_with ((with_reducible refine gate_builtin (b := .clear) (xs := #[.tmp 31]) rfl ?_); refine wpList_clear_run rfl (.tmp 31) 24 rfl _ rfl HR6.out ?_)
  go_ret
  exact ⟨rfl, HO6.out, HG6.out⟩

def nmHas (X : List S38) (nm : ByteArray) : Bool := decide (nmAt X nm < X.length) && decide ((rd_T38 X (nmAt X nm : Int)).f0 = nm)
theorem nmAt_le (X : List S38) (nm : ByteArray) : nmAt X nm ≤ X.length := (List.takeWhile_prefix _).length_le
set_option maxHeartbeats 1000000 in
set_option maxRecDepth 100000 in
theorem find_calls (w : World) (base M : Nat) (own : Nat → Int) (F : Int → Option Value) (G : Int → List S38) (mode : Int) (nm : ByteArray) (hta : TonAt w base M own F G) (hl : (G mode).length ≤ 1000) (hm : (G mode).Pairwise (fun a b => nmLt a.f0 b.f0 = true)) :
 Calls Tryd.prog 53 #[.map (some M), .int .i64 mode, .string nm] w fun e w' => e = .returned (.tuple #[.int .i64 (nmAt (G mode) nm : Int), .bool (nmHas (G mode) nm)]) ∧ Below w.heap.size w w' := by
 have lk := hta.look mode
 obtain ⟨A, c, hv, hc, hC⟩ := Kd.S_reads (hta.row mode)
 rw [hv] at lk
 have HB := Aside0.mk (bsearch_calls (G mode) nm A c w hC hc hl (nmAt_mono _ hm nm))
 clear hta hv hc hC hm
 go_enter Tryd.func53, Tryd.ntmps53
 go_wp2_with (go_at_call 83; refine HB.out.mono ?_; rintro e_ w5 ⟨rfl, hb5⟩; have HB5 := Aside0.mk hb5; clear hb5)
 go_ret2
 exact ⟨rfl, HB5.out⟩

def entSz (L : List S38) : Bool := L.all fun e => decide (e.f0.size ≤ 9000000000000000 ∧ e.f2.length ≤ 1000000000000)
theorem entSz_all {L : List S38} (h : entSz L = true) : ∀ e ∈ L, e.f0.size ≤ 9000000000000000 ∧ e.f2.length ≤ 1000000000000 := fun e he => of_decide_eq_true (List.all_eq_true.1 h e he)

theorem run_zeros_grow {P : Program} (w : World) (t ti ty e : TypeId) (i0 : TypeInfo) (z : Value) (ht : P.underlying t = some (.slice e)) {k : IntKind} (hti : P.underlying ti = some (.int k)) (hi : P.info? e = some i0) (hz : i0.zero = some z) (hsz : 0 < i0.size)
 (g n m cap : Nat) (xs : List Value) (hx : xs.length = n * i0.size) (hcells : ∀ j u, xs[j]? = some u → w.cell? ((⟨g, 0, none⟩ : Addr).add j) = some u) (kx : IntKind) (hm : 0 < m) (hcap : cap < n + m) (h63 : n + m ≤ 1000000) (hbytes : (n + m) * i0.bytes ≤ 140737488355328) :
 (Builtin.append_ #[t, ti] ty #[.slice (some ⟨g, 0, none⟩) n cap, .int kx (m : Int)]).run P w =
  .ok (.slice (some ⟨w.heap.size, 0, none⟩) (n + m) (grownCap w (n + m) cap e)) (w.drew.alloc (.cells (xs.toArray ++ Builtin.zeroCells z.cells m ++ Builtin.zeroCells z.cells (grownCap w (n + m) cap e - (n + m))) e)) := by
 have hfo := run_firstCells_some (P := P) w.drew i0.size n ⟨g, 0, none⟩ n cap xs hx (by simpa using hcells)
 have hw : IntKind.i64.wrap (m : Int) = m := by rw [IntKind.wrap_i64]; omega
 have hneg : ¬ ((m : Int) < 0) := by omega
 have hmb : m * i0.bytes ≤ 140737488355328 := Nat.le_trans (Nat.mul_le_mul_right _ (Nat.le_add_left m n)) hbytes
 have hbig : ¬ (281474976710656 < (m : Int) * (i0.bytes : Int)) := by
  rw [← Int.natCast_mul]
  omega
 have hn : ¬ (n + m ≤ cap) := by omega
 have h63' : ¬ (9223372036854775807 < ((n : Int) + (m : Int))) := by omega
 have hfit := growslice_fits hcap hbytes
 have h48' : ¬ (281474976710656 < Builtin.nextslicecap (n + m) cap * i0.bytes) := by omega
 have hmz : ¬ (m * i0.size = 0) := Nat.mul_ne_zero (by omega) (by omega)
 simp [Builtin.append_, run_underlying ht, run_underlying hti, sizeOf, typeInfo, zeroValue, hi, hz, asInt, asIntOf, hw, hneg, hbig, hn, h63', h48', Question.forced, hfo, newRow, grownCap, hmz]
theorem run_copy_row {P : Program} (W : World) (t ty e : TypeId) (g o dl dc sl sc k : Nat) (a : Addr) (cs : List Value) (cur : Array Value) (ht : P.underlying t = some (.slice e)) {sz : Nat} (hsz : (P.info? e).map (·.size) = some sz)
 (hk : Nat.min sl dl = k) (hcs : cs.length = k * sz) (hld : ∀ j u, cs[j]? = some u → W.cell? (a.add j) = some u) (hh : W.heap[g]? = some (.cells cur e (0, 0))) (hf : o + cs.length ≤ cur.size) (h1 : ∀ u ∈ cs, u.oneCell' = true) :
 (Builtin.copy_ #[t, t] ty #[.slice (some ⟨g, o, none⟩) dl dc, .slice (some a) sl sc]).run P W = .ok (goInt k) (W.setRow g (cur.toList.take o ++ cs ++ cur.toList.drop (o + cs.length)).toArray) := by
 obtain ⟨i0, hi, hisz⟩ := Option.map_eq_some_iff.1 hsz
 have hl := run_loadCells_list (P := P) W a cs hld
 have hst := run_storeCells_at P g o e cs 0 cur W hh (by omega) h1
 simp only [Nat.add_zero] at hst
 rw [hcs] at hl
 simp [Builtin.copy_, run_underlying ht, Builtin.lenOf, Builtin.firstCells, sizeOf, typeInfo, hi, hisz, hk, hl, hst]
theorem wpList_copy_run2 {P : Program} {W w' : World} {ops : Array Oper} {rest : List Oper} {o : Oper} {a : Act} {Q : Exit → Act → World → Prop} (hgd : o.guard = none) (d s : Operand) (t : TypeId)
 (ho : o.op = .call { callee := .builtin .copy, args := #[d, s], argTypes := #[t, t] }) (v u : Value) (hd : a.eval d = v) (hs : a.eval s = u) {v' : Value}
 (hr : (Builtin.copy_ #[t, t] o.type #[v, u]).run P W = .ok v' w') (h : wpList P ops Q rest (a.put o.dst v') w') : wpList P ops Q (o :: rest) a W := by
 refine wpList_plain hgd fun K hK => ?_
 unfold Oper.wp execOp
 simp only [ho, resolve, invoke, builtin, Sem.run_bind, Sem.run_pure, Result.andThen_ok, List.map_toArray, List.map_cons, List.map_nil, hd, hs, hr]
 exact hK _ _ h
theorem step_copy_run2 {P : Program} {ops : Array Oper} {o : Oper} {a : Act} {W w' : World} {Kc : Act → World → Prop} {Q : Exit → Act → World → Prop} (hw : Region.wanted o (yielded ops a.tmps) = true) (d s : Operand) (t : TypeId)
 (ho : o.op = .call { callee := .builtin .copy, args := #[d, s], argTypes := #[t, t] }) (v u : Value) (hd : a.eval d = v) (hs : a.eval s = u) {v' : Value}
 (hr : (Builtin.copy_ #[t, t] o.type #[v, u]).run P W = .ok v' w') (h : Kc (a.put o.dst v') w') : if Region.wanted o (yielded ops a.tmps) = true then Oper.wp P o a W Kc Q else Kc (a.put o.dst undef) W := by
 rw [if_pos hw]
 unfold Oper.wp execOp
 simp only [ho, resolve, invoke, builtin, Sem.run_bind, Sem.run_pure, Result.andThen_ok, List.map_toArray, List.map_cons, List.map_nil, hd, hs, hr]
 exact h
theorem row_cells {W : World} {g : Nat} {cur : Array Value} {e : TypeId} (hh : W.heap[g]? = some (.cells cur e (0, 0))) (o : Nat) (cs : List Value) (h : ∀ j u, cs[j]? = some u → cur.toList[o + j]? = some u) : ∀ j u, cs[j]? = some u → W.cell? ((⟨g, o, none⟩ : Addr).add j) = some u := by
 intro j u hj
 rw [Addr.add_lit, cell_of_row W g _ cur e (0, 0) hh, ← Array.getElem?_toList]
 exact h j u hj
/-- in place: what stands behind is moved on, then the new cells are laid -/
theorem ins_shift (L a r b : List Value) (n3 i3 : Nat) (ha : a = (L.take n3).take i3) (hb : b = (L.take n3).drop i3) (hi : i3 ≤ n3) (hr : r.length = 3) (hl : n3 + 3 ≤ L.length) :
 (((L.take (i3 + 3) ++ b ++ L.drop (i3 + 3 + b.length)).take i3 ++ r ++ (L.take (i3 + 3) ++ b ++ L.drop (i3 + 3 + b.length)).drop (i3 + r.length)).take (n3 + 3)) = a ++ r ++ b := by
 have hbl : b.length = n3 - i3 := by rw [hb, List.length_drop, List.length_take]; omega
 have h1 : (L.take (i3 + 3) ++ b ++ L.drop (i3 + 3 + b.length)).take i3 = a := by
  rw [List.append_assoc, List.take_append_of_le_length (by rw [List.length_take]; omega), List.take_take, ha, List.take_take, Nat.min_eq_left (by omega), Nat.min_eq_left (by omega)]
 have h2 : (L.take (i3 + 3) ++ b ++ L.drop (i3 + 3 + b.length)).drop (i3 + r.length) = b ++ L.drop (i3 + 3 + b.length) := by
  rw [List.append_assoc, hr]
  exact List.drop_left' (by rw [List.length_take]; omega)
 rw [h1, h2, ← List.append_assoc]
 exact List.take_left' (by rw [List.length_append, List.length_append, hr, hbl, ha, List.length_take, List.length_take]; omega)
/-- a new row: the new cells, then what stands behind -/
theorem ins_grow (a r b Z : List Value) (i3 : Nat) (ha : a.length = i3) (hr : r.length = 3) (hZ : 3 + b.length ≤ Z.length) :
 ((((a ++ Z).take i3 ++ r ++ (a ++ Z).drop (i3 + r.length)).take (i3 + 3) ++ b ++ ((a ++ Z).take i3 ++ r ++ (a ++ Z).drop (i3 + r.length)).drop (i3 + 3 + b.length)).take (i3 + 3 + b.length)) = a ++ r ++ b := by
 have h1 : (a ++ Z).take i3 = a := List.take_left' ha
 have h2 : (a ++ r ++ (a ++ Z).drop (i3 + r.length)).take (i3 + 3) = a ++ r := List.take_left' (by rw [List.length_append, ha, hr])
 rw [h1, h2]
 exact List.take_left' (by rw [List.length_append, List.length_append, ha, hr])

end Go.Proofs.YtmacedbpdhkagaaDoor.Pure
namespace Go.Proofs.YtmacedbpdhkagaaDoor.Pure
set_option linter.unusedVariables false
set_option linter.unusedSimpArgs false
open Go Go.RowKit Go.Proofs.YtmacedbpdhkagaaDoor.PFnTonaryDrop Go.Proofs.YtmacedbpdhkagaaDoorW.PrintWords Go.Proofs.YtmacedbpdhkagaaDoorW.PrintLast Go.Proofs.YtmacedbpdhkagaaDoorW.PrintMore

def InsOut (w : World) (base n i : Nat) (v : Value) (inner r : List Value) (e : Ending) (w' : World) : Prop :=
 ∃ v', e = .returned v' ∧ w'.ownsRow base 38 3 v' (n + 1) (inner.take (i * 3) ++ r ++ inner.drop (i * 3)) ∧ w.grownBy w' v.ownBlock ∧ (v'.ownBlock = v.ownBlock ∨ ∃ b, v'.ownBlock = some b ∧ w.heap.size ≤ b)
theorem ent_parts : ∃ i0 : TypeInfo, Tryd.prog.info? 38 = some i0 ∧ i0.zero = some (.agg #[.string ⟨#[]⟩, .int .i64 0, .slice none 0 0]) ∧ i0.size = 3 ∧ i0.bytes = 48 := by
 obtain ⟨i0, hi, hzz⟩ := Option.map_eq_some_iff.1 info38
 simp only [Prod.mk.injEq] at hzz
 exact ⟨i0, hi, hzz.1, hzz.2.1, hzz.2.2⟩
theorem ent_sz : (Tryd.prog.info? 38).map (·.size) = some 3 := by
 obtain ⟨i0, hi, _, h, _⟩ := ent_parts
 rw [hi, Option.map_some, h]
theorem news_at {w : World} {gb : Nat} {r : List Value} (hr : w.heap[gb]? = some (.cells r.toArray 38 (0, 0))) : ∀ j u, r[j]? = some u → w.cell? ((⟨gb, 0, none⟩ : Addr).add j) = some u :=
 row_cells hr 0 r (fun j u h => by rw [Nat.zero_add]; simpa using h)
set_option maxHeartbeats 2000000 in
set_option maxRecDepth 100000 in
/-- at the end: an append -/
theorem insert_end (A : Option Addr) (n c gb base : Nat) (inner r : List Value) (w : World) (hown : w.ownsRow base 38 3 (.slice A n c) n inner) (hr : w.heap[gb]? = some (.cells r.toArray 38 (0, 0))) (hrl : r.length = 3) (hr1 : ∀ u ∈ r, u.oneCell' = true) (hn : n ≤ 1000) (hnc : n ≤ c) (hbase : base ≤ w.heap.size) :
 Calls Tryd.prog 54 #[.slice A n c, .int .i64 (n : Int), .slice (some ⟨gb, 0, none⟩) 1 1] w (InsOut w base n n (.slice A n c) inner r) := by
 obtain ⟨i0, hi, hz0, hz1, hz2⟩ := ent_parts
 have HN := Aside0.mk (news_at hr)
 have HO := Aside0.mk hown
 have HR1 := Aside0.mk hr1
 have HB := Aside0.mk hbase
 have HI := Aside0.mk hi
 have HZ0 := Aside0.mk hz0
 have HZ1 := Aside0.mk hz1
 have HZ2 := Aside0.mk hz2
 have HL := Aside0.mk (show inner.length = n * 3 from hown.1)
 have b0 : (0 : Int) ≤ (n : Int) := by omega
 have b1 : (n : Int) ≤ (n : Int) := by omega
 have b2 : (n : Int) ≤ (c : Int) := by omega
 clear hown hr hr1 hbase hi hz0 hz1 hz2
 by_cases hcn : c = n
 all_goals
  go_enter Tryd.func54, Tryd.ntmps54
  go_wp2_with ((with_reducible refine gate_builtin (b := .append) (xs := #[.tmp 23, .tmp 24]) rfl ?_); at_builtin; refine wpList_append_own_at _ rfl (.tmp 23) (.tmp 24) 24 rfl base 38 i0 (.agg #[.string ⟨#[]⟩, .int .i64 0, .slice none 0 0]) 3 48 Tryd.underlying24 HI.out HZ0.out HZ1.out HZ2.out rfl (by decide) (.slice A n c) n inner rfl HO.out ⟨gb, 0, none⟩ 1 1 r rfl (by rw [hrl]) HN.out HR1.out (by unfold maxLen; omega) (by omega) HB.out ?_; intro v' w5 ho5 hg5 _ hat5; have HO5 := Aside0.mk ho5; have HG5 := Aside0.mk hg5; have HA5 := Aside0.mk hat5; clear ho5 hg5 hat5)
  go_ret
  refine ⟨v', rfl, ?_, HG5.out, ?_⟩
  ·
   rw [List.take_of_length_le (by rw [HL.out]; omega), List.drop_of_length_le (by rw [HL.out]; omega), List.append_nil]
   exact HO5.out
  ·
   rcases HA5.out with h | h
   ·
    exact .inl h
   ·
    exact .inr ⟨_, h, Nat.le_refl _⟩
set_option maxHeartbeats 4000000 in
set_option maxRecDepth 100000 in
/-- in the midst, and there is room: in place -/
theorem insert_room (g n c i gb base : Nat) (inner r : List Value) (cur : Array Value) (w : World) (hc : c ≤ maxLen) (hh : w.heap[g]? = some (.cells cur 38 (0, 0))) (hcs : cur.size = c * 3) (htk : cur.toList.take (n * 3) = inner) (hil : inner.length = n * 3) (h1 : ∀ u ∈ inner, u.oneCell' = true) (hr : w.heap[gb]? = some (.cells r.toArray 38 (0, 0))) (hrl : r.length = 3) (hr1 : ∀ u ∈ r, u.oneCell' = true) (hgb : gb ≠ g) (hi : i < n) (hn : n ≤ 1000) (hnc : n + 1 ≤ c) (hb : base ≤ g) :
 Calls Tryd.prog 54 #[.slice (some ⟨g, 0, none⟩) n c, .int .i64 (i : Int), .slice (some ⟨gb, 0, none⟩) 1 1] w (InsOut w base n i (.slice (some ⟨g, 0, none⟩) n c) inner r) := by
 obtain ⟨b, hbd⟩ : ∃ b, b = inner.drop (i * 3) := ⟨_, rfl⟩
 have hbl : b.length = (n - i) * 3 := by rw [hbd, List.length_drop, hil, Nat.sub_mul]
 have hnl : (n + 1) * 3 ≤ c * 3 := Nat.mul_le_mul_right _ hnc
 have hin : i * 3 + 3 ≤ n * 3 := by have := Nat.mul_le_mul_right 3 (show i + 1 ≤ n from hi); omega
 -- the first copy
 obtain ⟨cur1, hcur1⟩ : ∃ cur1 : Array Value, cur1 = (cur.toList.take (i * 3 + 3) ++ b ++ cur.toList.drop (i * 3 + 3 + b.length)).toArray := ⟨_, rfl⟩
 have hs1 : cur1.size = c * 3 := by
  rw [hcur1, List.size_toArray, List.length_append, List.length_append, List.length_take, List.length_drop, Array.length_toList, hcs, hbl, Nat.sub_mul]
  omega
 have hc1 : ∀ (dl sl dc sc : Nat), dl = n - i → sl = n + 1 - i → (Builtin.copy_ #[24, 24] 3 #[.slice (some ⟨g, (i + 1) * 3, none⟩) dl dc, .slice (some ⟨g, i * 3, none⟩) sl sc]).run Tryd.prog w.drew = .ok (goInt ((n - i : Nat) : Int)) (w.drew.setRow g cur1) := by
  intro dl sl dc sc hdl hsl
  subst hdl hsl
  rw [hcur1, Nat.succ_mul]
  refine run_copy_row (P := Tryd.prog) w.drew 24 3 38 g (i * 3 + 3) (n - i) dc (n + 1 - i) sc (n - i) ⟨g, i * 3, none⟩ b cur Tryd.underlying24 ent_sz (Nat.min_eq_right (by omega)) hbl ?_ hh ?_ ?_
  ·
   refine row_cells (W := w.drew) hh (i * 3) b (fun j u hj => ?_)
   rw [hbd, List.getElem?_drop] at hj
   rw [← htk, List.getElem?_take] at hj
   split at hj
   ·
    exact hj
   ·
    cases hj
  ·
   rw [hbl, hcs, Nat.sub_mul]; omega
  ·
   intro u hu
   rw [hbd] at hu
   exact h1 u (List.mem_of_mem_drop hu)
 -- the second
 obtain ⟨cur2, hcur2⟩ : ∃ cur2 : Array Value, cur2 = (cur1.toList.take (i * 3) ++ r ++ cur1.toList.drop (i * 3 + r.length)).toArray := ⟨_, rfl⟩
 have hs2 : cur2.size = c * 3 := by
  rw [hcur2, List.size_toArray, List.length_append, List.length_append, List.length_take, List.length_drop, Array.length_toList, hs1, hrl]
  omega
 obtain ⟨w1, hw1⟩ : ∃ w1, w1 = w.drew.setRow g cur1 := ⟨_, rfl⟩
 have hh1 : w1.heap[g]? = some (.cells cur1 38 (0, 0)) := by rw [hw1]; exact setRow_heap w.drew g cur _ 38 _ hh
 have hr1' : w1.heap[gb]? = some (.cells r.toArray 38 (0, 0)) := by rw [hw1]; exact (setRow_far (W := w.drew) cur1 hgb).trans hr
 have hc2 : ∀ (dl dc : Nat), dl = n + 1 - i → (Builtin.copy_ #[24, 24] 3 #[.slice (some ⟨g, i * 3, none⟩) dl dc, .slice (some ⟨gb, 0, none⟩) 1 1]).run Tryd.prog w1 = .ok (goInt 1) (w1.setRow g cur2) := by
  intro dl dc hdl
  subst hdl
  rw [hcur2]
  exact run_copy_row (P := Tryd.prog) w1 24 3 38 g (i * 3) (n + 1 - i) dc 1 1 1 ⟨gb, 0, none⟩ r cur1 Tryd.underlying24 ent_sz (Nat.min_eq_left (by omega)) (by rw [hrl]) (news_at hr1') hh1 (by rw [hrl, hs1]; omega) hr1
 -- what then stands there
 have hfin : cur2.toList.take ((n + 1) * 3) = inner.take (i * 3) ++ r ++ b := by
  rw [hcur2, hcur1, Nat.succ_mul]
  exact ins_shift cur.toList (inner.take (i * 3)) r b (n * 3) (i * 3) (by rw [htk]) (by rw [htk, hbd]) (by omega) hrl (by rw [Array.length_toList, hcs]; omega)
 have hov : ∀ lb cb, (callFunc 86 #[.slice (some ⟨gb, 0, none⟩) 1 1, .slice (some ⟨g, (i + 1) * 3, none⟩) lb cb]).run Tryd.prog w = .ok (.value (.bool false)) w := fun lb cb => by
  rw [run_callFunc_extern Tryd.func86 (by kernel_rfl) (by kernel_rfl) (by kernel_rfl) (e := Extern.SlicesOverlaps.overlaps #[24, 24] #[4]) (by kernel_rfl),
   Lib.run_overlaps_apart w 24 4 38 Tryd.underlying24 3 (fun w => by kernel_rfl) ⟨gb, 0, none⟩ ⟨g, (i + 1) * 3, none⟩ 1 1 lb cb hgb 38 38 r.toArray.size cur.size (by simp [World.shape?, hr]) (by simp [World.shape?, hh]) (by omega) (by simp [World.frozen?, hr]) (by simp [World.frozen?, hr])]
  rfl
 have HF := Aside0.mk hfin
 have HS2 := Aside0.mk hs2
 have HBD := Aside0.mk hbd
 have HC1 := Aside0.mk hc1
 have HC2 := Aside0.mk hc2
 have HW1 := Aside0.mk hw1
 have HH := Aside0.mk hh
 have HH1 := Aside0.mk hh1
 have HIL := Aside0.mk hil
 have HC := Aside0.mk hc
 have HBG := Aside0.mk hb
 have HRL := Aside0.mk hrl
 have HBL := Aside0.mk hbl
 unfold maxLen at hc
 have b0 : (0 : Int) ≤ (i : Int) := by omega
 have b1 : (i : Int) ≤ (n : Int) := by omega
 have b2 : (n : Int) ≤ (c : Int) := by omega
 have b3 : (n : Int) + 1 ≤ (c : Int) := by omega
 have b4 : ¬ ((i : Int) = (n : Int)) := by omega
 have b5 : ¬ ((c : Int) < (n : Int) + 1) := by omega
 have b6 : (0 : Int) ≤ (n : Int) + 1 := by omega
 have b7 : (0 : Int) ≤ (i : Int) + 1 := by omega
 have b8 : (i : Int) + 1 ≤ (n : Int) + 1 := by omega
 have b9 : (i : Int) ≤ (n : Int) + 1 := by omega
 have b10 : (i : Int) + 1 ≤ ((n + 1 : Nat) : Int) := by omega
 have b11 : ((n + 1 : Nat) : Int) ≤ (c : Int) := by omega
 have b12 : (i : Int) ≤ ((n + 1 : Nat) : Int) := by omega
 have n1 : ¬ (c = i) := by omega
 have n2 : ¬ (c = i + 1) := by omega
 have n3 : n + 1 - (i + 1) = n - i := by omega
 clear hfin hs2 hbd hc1 hc2 hw1 hh1 hil hb hcs htk h1 hr hr1 hr1' hs1 hcur1 hcur2 hh hrl hbl hgb hnl hin
 go_enter Tryd.func54, Tryd.ntmps54
 go_upto_region 15 with (simp only [hov])
 clear b3 b5 b6 b8 b9 b10 b11 b12 n3
 obtain ⟨N, hN⟩ : ∃ N, n + 1 = N := ⟨_, rfl⟩
 have e1 : (0 : Int) ≤ (i : Int) + 1 := by omega
 have e2 : (i : Int) + 1 ≤ (N : Int) := by omega
 have e3 : (N : Int) ≤ (c : Int) := by omega
 have e4 : (i : Int) + 1 ≤ (c : Int) := by omega
 have e5 : (i : Int) ≤ (N : Int) := by omega
 have hwr : IntKind.i64.wrap ((i : Int) + 1) = (i : Int) + 1 := by rw [IntKind.wrap_i64]; omega
 rw [hN]
 have HNN := Aside0.mk hN
 clear hN
 go_region_held3 (fun _ => True) (trivial) (first
  | (refine step_copy_run2 (by rfl) (.tmp 73) (.tmp 76) 24 (by rfl) _ _ (by rfl) (by rfl) (HC1.out _ _ _ _ (by have := HNN.out; omega) (by have := HNN.out; omega)) ?_)
  | fail)
 rw [← HW1.out]
 go_wp2_with ((with_reducible refine gate_builtin (b := .copy) (xs := #[.tmp 80, .tmp 81]) rfl ?_); refine wpList_copy_run2 rfl (.tmp 80) (.tmp 81) 24 rfl _ _ rfl rfl (HC2.out _ _ (by have := HNN.out; omega)) ?_)
 obtain rfl : N = n + 1 := HNN.out.symm
 go_ret
 refine ⟨_, rfl, ⟨?_, .inr ⟨g, c, cur2, rfl, HBG.out, setRow_heap w1 g cur1 _ 38 _ HH1.out, hnc, HC.out, HS2.out, ?_⟩⟩, ?_, .inl rfl⟩
 ·
  rw [← HBD.out, List.length_append, List.length_append, HRL.out, HBL.out, List.length_take, HIL.out, Nat.sub_mul]
  have := Nat.mul_le_mul_right 3 (show i + 1 ≤ n from hi)
  omega
 ·
  rw [← HBD.out]; exact HF.out
 ·
  have h1 : w.grownBy (w.drew) (some g) := drewN_grown w 1 (some g)
  have h2 := setRow_grown w.drew g cur1
  rw [← HW1.out] at h2
  exact (h1.trans h2).trans (setRow_grown w1 g cur2)
set_option maxHeartbeats 4000000 in
set_option maxRecDepth 100000 in
/-- in the midst, and there is no room: a new row -/
theorem insert_grow (g n c i gb base : Nat) (inner r : List Value) (cur : Array Value) (w : World) (hh : w.heap[g]? = some (.cells cur 38 (0, 0))) (hcs : cur.size = c * 3) (htk : cur.toList.take (n * 3) = inner) (hil : inner.length = n * 3) (h1 : ∀ u ∈ inner, u.oneCell' = true) (hr : w.heap[gb]? = some (.cells r.toArray 38 (0, 0))) (hrl : r.length = 3) (hr1 : ∀ u ∈ r, u.oneCell' = true) (hi : i < n) (hn : n ≤ 1000) (hnc : n ≤ c) (hcn : c < n + 1) (hbase : base ≤ w.heap.size) :
 Calls Tryd.prog 54 #[.slice (some ⟨g, 0, none⟩) n c, .int .i64 (i : Int), .slice (some ⟨gb, 0, none⟩) 1 1] w (InsOut w base n i (.slice (some ⟨g, 0, none⟩) n c) inner r) := by
 obtain ⟨i0, hi0, hz0, hz1, hz2⟩ := ent_parts
 obtain ⟨b, hbd⟩ : ∃ b, b = inner.drop (i * 3) := ⟨_, rfl⟩
 have hbl : b.length = (n - i) * 3 := by rw [hbd, List.length_drop, hil, Nat.sub_mul]
 obtain ⟨a, had⟩ : ∃ a, a = inner.take (i * 3) := ⟨_, rfl⟩
 have hin : i * 3 + 3 ≤ n * 3 := by have := Nat.mul_le_mul_right 3 (show i + 1 ≤ n from hi); omega
 have hal : a.length = i * 3 := by rw [had, List.length_take, hil]; omega
 obtain ⟨G, hG⟩ : ∃ G, G = w.heap.size := ⟨_, rfl⟩
 obtain ⟨C, hC⟩ : ∃ C, C = grownCap w (n + 1) c 38 := ⟨_, rfl⟩
 have hCn : n + 1 ≤ C := by rw [hC]; exact grownCap_ge w (n + 1) c 38
 have hCm : C ≤ maxLen := by rw [hC]; exact grownCap_le_maxLen w (n + 1) c 38 (by unfold maxLen; omega)
 have hgl : g < G := by rw [hG]; exact blk_lt hh
 have hbll : gb < G := by rw [hG]; exact blk_lt hr
 -- the append of zeros
 have hrun := run_zeros_grow (P := Tryd.prog) w 24 3 24 38 i0 _ Tryd.underlying24 Tryd.underlying3 hi0 hz0 (by rw [hz1]; decide) g i (n + 1 - i) c a (by rw [hal, hz1])
  (row_cells hh 0 a (fun j u hj => by
   rw [had, List.getElem?_take] at hj
   split at hj
   ·
    rw [← htk, List.getElem?_take] at hj
    split at hj
    ·
     rw [Nat.zero_add]; exact hj
    ·
     cases hj
   ·
    cases hj)) .i64 (by omega) (by omega) (by omega) (by rw [hz2]; omega)
 rw [show i + (n + 1 - i) = n + 1 by omega, ← hC, ← hG] at hrun
 obtain ⟨Z, hZ⟩ : ∃ Z, Z = (Builtin.zeroCells (Value.agg #[.string ⟨#[]⟩, .int .i64 0, .slice none 0 0]).cells (n + 1 - i) ++ Builtin.zeroCells (Value.agg #[.string ⟨#[]⟩, .int .i64 0, .slice none 0 0]).cells (C - (n + 1))).toList := ⟨_, rfl⟩
 have hZl : Z.length = (C - i) * 3 := by
  rw [hZ, Array.length_toList, Array.size_append, size_zeroCells, size_zeroCells, show (Value.agg #[.string ⟨#[]⟩, .int .i64 0, .slice none 0 0]).cells.size = 3 from rfl, ← Nat.add_mul]
  congr 1
  omega
 obtain ⟨cur0, hcur0⟩ : ∃ cur0 : Array Value, cur0 = (a ++ Z).toArray := ⟨_, rfl⟩
 have e0 : a.toArray ++ Builtin.zeroCells (Value.agg #[.string ⟨#[]⟩, .int .i64 0, .slice none 0 0]).cells (n + 1 - i) ++ Builtin.zeroCells (Value.agg #[.string ⟨#[]⟩, .int .i64 0, .slice none 0 0]).cells (C - (n + 1)) = cur0 := by
  rw [hcur0, hZ]
  apply Array.ext'
  simp
 rw [e0] at hrun
 obtain ⟨w0, hw0⟩ : ∃ w0, w0 = w.drew.alloc (.cells cur0 38) := ⟨_, rfl⟩
 rw [← hw0] at hrun
 have hs0 : cur0.size = C * 3 := by
  rw [hcur0, List.size_toArray, List.length_append, hal, hZl, Nat.sub_mul]
  have := Nat.mul_le_mul_right 3 (show i ≤ C by omega)
  omega
 have hh0 : w0.heap[G]? = some (.cells cur0 38 (0, 0)) := by rw [hw0, hG]; exact heap_alloc_new w.drew _
 have hg0 : w0.heap[g]? = some (.cells cur 38 (0, 0)) := by rw [hw0]; exact blk_alloc (w := w.drew) hh _
 have hr0 : w0.heap[gb]? = some (.cells r.toArray 38 (0, 0)) := by rw [hw0]; exact blk_alloc (w := w.drew) hr _
 have hgr0 : w.grownBy w0 none := by
  rw [hw0]
  exact (drewN_grown w 1 none).trans (World.grownBy_alloc w.drew _ none)
 have hge := Nat.mul_le_mul_right 3 hCn
 rw [Nat.succ_mul] at hge
 -- the first copy
 obtain ⟨cur1, hcur1⟩ : ∃ cur1 : Array Value, cur1 = (cur0.toList.take (i * 3) ++ r ++ cur0.toList.drop (i * 3 + r.length)).toArray := ⟨_, rfl⟩
 have hs1 : cur1.size = C * 3 := by
  rw [hcur1, List.size_toArray, List.length_append, List.length_append, List.length_take, List.length_drop, Array.length_toList, hs0, hrl]
  omega
 obtain ⟨w1, hw1⟩ : ∃ w1, w1 = w0.setRow G cur1 := ⟨_, rfl⟩
 have hc1 : ∀ (dl dc : Nat), dl = n + 1 - i → (Builtin.copy_ #[24, 24] 3 #[.slice (some ⟨G, i * 3, none⟩) dl dc, .slice (some ⟨gb, 0, none⟩) 1 1]).run Tryd.prog w0 = .ok (goInt 1) w1 := by
  intro dl dc hdl
  subst hdl
  rw [hw1, hcur1]
  exact run_copy_row (P := Tryd.prog) w0 24 3 38 G (i * 3) (n + 1 - i) dc 1 1 1 ⟨gb, 0, none⟩ r cur0 Tryd.underlying24 ent_sz (Nat.min_eq_left (by omega)) (by rw [hrl]) (news_at hr0) hh0 (by rw [hrl, hs0]; omega) hr1
 have hh1 : w1.heap[G]? = some (.cells cur1 38 (0, 0)) := by rw [hw1]; exact setRow_heap w0 G cur0 _ 38 _ hh0
 have hg1 : w1.heap[g]? = some (.cells cur 38 (0, 0)) := by rw [hw1]; exact (setRow_far (W := w0) cur1 (by omega)).trans hg0
 -- the second
 obtain ⟨cur2, hcur2⟩ : ∃ cur2 : Array Value, cur2 = (cur1.toList.take (i * 3 + 3) ++ b ++ cur1.toList.drop (i * 3 + 3 + b.length)).toArray := ⟨_, rfl⟩
 have hs2 : cur2.size = C * 3 := by
  rw [hcur2, List.size_toArray, List.length_append, List.length_append, List.length_take, List.length_drop, Array.length_toList, hs1, hbl, Nat.sub_mul]
  omega
 have hc2 : ∀ (dl sl dc sc : Nat), dl = n - i → sl = n - i → (Builtin.copy_ #[24, 24] 3 #[.slice (some ⟨G, (i + 1) * 3, none⟩) dl dc, .slice (some ⟨g, i * 3, none⟩) sl sc]).run Tryd.prog w1.drew = .ok (goInt ((n - i : Nat) : Int)) (w1.drew.setRow G cur2) := by
  intro dl sl dc sc hdl hsl
  subst hdl hsl
  rw [hcur2, Nat.succ_mul]
  refine run_copy_row (P := Tryd.prog) w1.drew 24 3 38 G (i * 3 + 3) (n - i) dc (n - i) sc (n - i) ⟨g, i * 3, none⟩ b cur1 Tryd.underlying24 ent_sz (Nat.min_self _) hbl ?_ hh1 ?_ ?_
  ·
   refine row_cells (W := w1.drew) hg1 (i * 3) b (fun j u hj => ?_)
   rw [hbd, List.getElem?_drop] at hj
   rw [← htk, List.getElem?_take] at hj
   split at hj
   ·
    exact hj
   ·
    cases hj
  ·
   rw [hbl, hs1, Nat.sub_mul]; omega
  ·
   intro u hu
   rw [hbd] at hu
   exact h1 u (List.mem_of_mem_drop hu)
 have hfin : cur2.toList.take ((n + 1) * 3) = a ++ r ++ b := by
  rw [show (n + 1) * 3 = i * 3 + 3 + b.length by rw [hbl, Nat.sub_mul, Nat.succ_mul]; omega, hcur2, hcur1, hcur0]
  exact ins_grow a r b Z (i * 3) hal hrl (by rw [hZl, hbl, Nat.sub_mul, Nat.sub_mul]; omega)
 have HF := Aside0.mk hfin
 have HS2 := Aside0.mk hs2
 have HAD := Aside0.mk had
 have HBD := Aside0.mk hbd
 have HC1 := Aside0.mk hc1
 have HC2 := Aside0.mk hc2
 have HH1 := Aside0.mk hh1
 have HAL := Aside0.mk hal
 have HBL := Aside0.mk hbl
 have HRL := Aside0.mk hrl
 have HCM := Aside0.mk hCm
 have HG := Aside0.mk hG
 have HGB := Aside0.mk hbase
 have HG0 := Aside0.mk hgr0
 have HW1 := Aside0.mk hw1
 have HRUN := Aside0.mk (show (Builtin.append_ #[24, 3] 24 #[.slice (some ⟨g, 0, none⟩) i c, .int .i64 ((n : Int) + 1 - (i : Int))]).run Tryd.prog w = .ok (.slice (some ⟨G, 0, none⟩) (n + 1) C) w0 by
  rw [show (n : Int) + 1 - (i : Int) = ((n + 1 - i : Nat) : Int) by omega]; exact hrun)
 unfold maxLen at hCm
 clear hfin hs2 had hbd hc1 hc2 hh1 hal hbl hrl hG hbase hgr0 hw1 hrun hcs htk hil h1 hr hr1 hh hcur0 hcur1 hcur2 hs0 hs1 hh0 hg0 hr0 hg1 hw0 hZl hZ e0 hge hin hi0 hz0 hz1 hz2 hC
 have b0 : (0 : Int) ≤ (i : Int) := by omega
 have b1 : (i : Int) ≤ (n : Int) := by omega
 have b2 : (n : Int) ≤ (c : Int) := by omega
 have b3 : (c : Int) < (n : Int) + 1 := by omega
 have b4 : ¬ ((i : Int) = (n : Int)) := by omega
 have b5 : (i : Int) ≤ (c : Int) := by omega
 have n1 : ¬ (c = i) := by omega
 have hwr : IntKind.i64.wrap ((i : Int) + 1) = (i : Int) + 1 := by rw [IntKind.wrap_i64]; omega
 go_enter Tryd.func54, Tryd.ntmps54
 go_upto_region 10 with ((with_reducible refine gate_builtin (b := .append) (xs := #[.tmp 34, .tmp 39]) rfl ?_); at_builtin; refine Lib.wpList_append_run _ rfl (.tmp 34) (.tmp 39) 24 3 rfl _ _ rfl rfl _ _ HRUN.out ?_)
 obtain ⟨N, hN⟩ : ∃ N, n + 1 = N := ⟨_, rfl⟩
 have e0 : (0 : Int) ≤ (i : Int) + 1 := by omega
 have e1 : (i : Int) ≤ (N : Int) := by omega
 have e2 : (i : Int) + 1 ≤ (N : Int) := by omega
 have e3 : (N : Int) ≤ (C : Int) := by omega
 have e4 : (i : Int) + 1 ≤ (C : Int) := by omega
 have e5 : (i : Int) ≤ (C : Int) := by omega
 have e6 : ¬ (C = i) := by omega
 have e7 : ¬ (C = i + 1) := by omega
 rw [hN]
 have HNN := Aside0.mk hN
 clear hN b3
 go_upto_region 11 with ((with_reducible refine gate_builtin (b := .copy) (xs := #[.tmp 43, .tmp 44]) rfl ?_); refine wpList_copy_run2 rfl (.tmp 43) (.tmp 44) 24 rfl _ _ rfl rfl (HC1.out _ _ (by have := HNN.out; omega)) ?_)
 go_region_held3 (fun _ => True) (trivial) (first
  | (refine step_copy_run2 (by rfl) (.tmp 50) (.tmp 53) 24 (by rfl) _ _ (by rfl) (by rfl) (HC2.out _ _ _ _ (by have := HNN.out; omega) (by have := HNN.out; omega)) ?_)
  | fail)
 obtain rfl : N = n + 1 := HNN.out.symm
 go_wp2
 go_ret
 refine ⟨_, rfl, ⟨?_, .inr ⟨G, C, cur2, rfl, by rw [HG.out]; exact HGB.out, setRow_heap w1.drew G cur1 _ 38 _ HH1.out, hCn, HCM.out, HS2.out, ?_⟩⟩, ?_, .inr ⟨G, rfl, by rw [HG.out]; exact Nat.le_refl _⟩⟩
 ·
  rw [← HAD.out, ← HBD.out, List.length_append, List.length_append, HRL.out, HBL.out, HAL.out, Nat.sub_mul]
  have := Nat.mul_le_mul_right 3 (show i + 1 ≤ n from hi)
  omega
 ·
  rw [← HAD.out, ← HBD.out]; exact HF.out
 ·
  have hG := HG.out
  have h1 : w0.grownBy w1 (some G) := by rw [HW1.out]; exact setRow_grown w0 G cur1
  have h2 : w1.grownBy (w1.drew.setRow G cur2) (some G) := (drewN_grown w1 1 (some G)).trans (setRow_grown w1.drew G cur2)
  have h3 := HG0.out
  have h4 := h1.trans h2
  exact ⟨h4.os.trans h3.os, h4.tape.trans h3.tape, h4.output.trans h3.output, Nat.le_trans h3.size h4.size, fun k hk _ => (h4.block k (Nat.lt_of_lt_of_le hk h3.size) (fun e => by cases e; omega)).trans (h3.block k hk (by simp))⟩
/-- one element is put into a row of one's own -/
theorem insert_calls (A : Option Addr) (n c i gb base : Nat) (inner r : List Value) (w : World) (hown : w.ownsRow base 38 3 (.slice A n c) n inner) (h1 : ∀ u ∈ inner, u.oneCell' = true) (hr : w.heap[gb]? = some (.cells r.toArray 38 (0, 0))) (hrl : r.length = 3) (hr1 : ∀ u ∈ r, u.oneCell' = true) (hgb : (Value.slice A n c).ownBlock ≠ some gb) (hi : i ≤ n) (hn : n ≤ 1000) (hbase : base ≤ w.heap.size) :
 Calls Tryd.prog 54 #[.slice A n c, .int .i64 (i : Int), .slice (some ⟨gb, 0, none⟩) 1 1] w (InsOut w base n i (.slice A n c) inner r) := by
 rcases hown.2 with ⟨hv, hn0⟩ | ⟨g, cap, cur, hv, hb, hh, hnc, hcm, hcs, htk⟩
 ·
  injection hv with _ hn1 hc1
  subst hn1 hc1
  obtain rfl : i = 0 := by omega
  exact insert_end A 0 0 gb base inner r w hown hr hrl hr1 (by omega) (Nat.le_refl _) hbase
 ·
  injection hv with hA _ hc
  subst hA hc
  have hil : inner.length = n * 3 := hown.1
  by_cases hin : i = n
  ·
   subst hin
   exact insert_end _ i c gb base inner r w hown hr hrl hr1 hn hnc hbase
  ·
   by_cases hroom : n + 1 ≤ c
   ·
    exact insert_room g n c i gb base inner r cur w hcm hh hcs htk hil h1 hr hrl hr1 (fun e => hgb (by simp [Value.ownBlock, e])) (by omega) hn hroom hb
   ·
    exact insert_grow g n c i gb base inner r cur w hh hcs htk hil h1 hr hrl hr1 (by omega) hn hnc (by omega) hbase

end Go.Proofs.YtmacedbpdhkagaaDoor.Pure
namespace Go.Proofs.YtmacedbpdhkagaaDoor.Pure
set_option linter.unusedVariables false
set_option linter.unusedSimpArgs false
open Go Go.RowKit Go.Proofs.YtmacedbpdhkagaaDoor.PFnTonaryDrop Go.Proofs.YtmacedbpdhkagaaDoorW.PrintWords Go.Proofs.YtmacedbpdhkagaaDoorW.PrintLast Go.Proofs.YtmacedbpdhkagaaDoorW.PrintMore

theorem ins_lo (inner r : List Value) (i j : Nat) (h : i * 3 ≤ inner.length) (hj : j < i) : ((inner.take (i * 3) ++ r ++ inner.drop (i * 3)).drop (j * 3)).take 3 = (inner.drop (j * 3)).take 3 := by
 have := Nat.mul_le_mul_right 3 (show j + 1 ≤ i from hj)
 rw [List.append_assoc, List.drop_append_of_le_length (by rw [List.length_take]; omega), List.take_append_of_le_length (by rw [List.length_drop, List.length_take]; omega), List.drop_take, List.take_take, Nat.min_eq_left (by omega)]
theorem ins_mid (inner r : List Value) (i : Nat) (h : i * 3 ≤ inner.length) (hr : r.length = 3) : ((inner.take (i * 3) ++ r ++ inner.drop (i * 3)).drop (i * 3)).take 3 = r := by
 rw [List.append_assoc, List.drop_left' (by rw [List.length_take]; omega)]
 exact List.take_left' hr
theorem ins_hi (inner r : List Value) (i j : Nat) (h : i * 3 ≤ inner.length) (hr : r.length = 3) (hj : i ≤ j) : ((inner.take (i * 3) ++ r ++ inner.drop (i * 3)).drop ((j + 1) * 3)).take 3 = (inner.drop (j * 3)).take 3 := by
 have := Nat.mul_le_mul_right 3 hj
 have hl : (inner.take (i * 3) ++ r).length = i * 3 + 3 := by rw [List.length_append, List.length_take, hr]; omega
 rw [List.drop_append, List.drop_of_length_le (by rw [hl]; omega), List.nil_append, hl, List.drop_drop]
 congr 2
 omega
open Classical in
theorem insert_S (v : Value) (xs : List S38) (x : S38) (i gb base : Nat) (r : List Value) (ok okp ok' : Nat → Prop) (w : World) (hS : Kd.S k38 38 w base ok v xs) (hM : k38.M w base okp x r) (hdis : ∀ k, okp k → ¬ ok k) (h1 : ∀ k, ok k → ok' k) (h2 : ∀ k, okp k → ok' k) (h3 : ∀ k, w.heap.size ≤ k → ok' k)
 (hr : w.heap[gb]? = some (.cells r.toArray 38 (0, 0))) (hgb : v.ownBlock ≠ some gb) (hi : i ≤ xs.length) (hn : xs.length ≤ 1000) (hbase : base ≤ w.heap.size) :
 Calls Tryd.prog 54 #[v, .int .i64 (i : Int), .slice (some ⟨gb, 0, none⟩) 1 1] w fun e w' => ∃ v', e = .returned v' ∧ Kd.S k38 38 w' base ok' v' (xs.take i ++ x :: xs.drop i) ∧ w.grownBy w' v.ownBlock ∧ (v'.ownBlock = v.ownBlock ∨ ∃ b, v'.ownBlock = some b ∧ w.heap.size ≤ b) := by
 obtain ⟨A, c, hv⟩ := Kd.S_slice hS
 obtain ⟨f, h0, inner, hown, hrr⟩ := hS
 rw [List.length_zipIdx] at hown
 have hrl : r.length = 3 := k38.K_len (k38.K_of_M hM)
 have hr1 := k38.K_one (k38.K_of_M hM)
 have hil : inner.length = xs.length * 3 := hown.1
 have hones := ones_of (d := Kd.tag f k38) (Nat.zero_lt_succ 2) hrr
 have hile : i * 3 ≤ inner.length := by rw [hil]; exact Nat.mul_le_mul_right 3 hi
 subst hv
 refine (insert_calls A xs.length c i gb base inner r w hown hones hr hrl hr1 hgb hi hn hbase).mono ?_
 rintro e w' ⟨v', rfl, ho, hg, hat⟩
 have hne : ∀ k, some k ≠ (Value.slice A xs.length c).ownBlock → k < w.heap.size → some k ≠ v'.ownBlock := by
  intro k hk hlt
  rcases hat with hat | ⟨b, hb, hle⟩
  ·
   rw [hat]; exact hk
  ·
   rw [hb]
   intro he
   injection he with he
   omega
 have step : ∀ {q : S38} {cs : List Value} {o : Nat → Prop}, k38.M w base o q cs → (∀ k, o k → some k ≠ (Value.slice A xs.length c).ownBlock) → k38.M w' base (fun k => o k ∧ some k ≠ v'.ownBlock) q cs := by
  intro q cs o hq hh
  have h1 := k38.M_move (w1 := w') (fun k hk => hg.block k hk.2.2.1 (hh k hk.1)) (k38.M_bound hq)
  exact k38.M_mono (fun k hk => ⟨hk.1, hne k (hh k hk.1) hk.2.2.1⟩) h1
 have hlen : (xs.take i ++ x :: xs.drop i).length = xs.length + 1 := by rw [List.length_append, List.length_cons, List.length_take, List.length_drop]; omega
 refine ⟨v', rfl, ⟨fun k => if okp k then i else if f k < i then f k else f k + 1, fun k hk => ?_, _, by rw [List.length_zipIdx, hlen]; exact ho, by rw [List.length_zipIdx, hlen]; exact ho.1, fun j p hj => ?_⟩, hg, hat⟩
 ·
  rcases hat with hat | ⟨b, hb, hle⟩
  ·
   exact h1 k (h0 k (hat ▸ hk))
  ·
   rw [hb] at hk
   injection hk with hk
   exact h3 k (by omega)
 ·
  rw [List.getElem?_zipIdx, Nat.zero_add] at hj
  obtain ⟨q, hq, rfl⟩ := Option.map_eq_some_iff.1 hj
  rcases Nat.lt_trichotomy j i with hji | rfl | hji
  ·
   have hq' : xs[j]? = some q := by
    rw [List.getElem?_append_left (by rw [List.length_take]; omega), List.getElem?_take, if_pos hji] at hq
    exact hq
   have hm := hrr.2 j (q, j) (by rw [List.getElem?_zipIdx, hq']; simp)
   show k38.M w' base _ q _
   rw [show (Kd.tag f k38).sz = 3 from rfl] at hm
   have e1 := ins_lo inner r i j hile hji
   refine k38.M_mono (fun k hk => ?_) ((congrArg (k38.M w' base _ q) e1).mpr (step hm (fun k hk => hk.1.2)))
   refine ⟨⟨h1 k hk.1.1.1, hk.2⟩, ?_⟩
   have hf : f k = j := hk.1.2
   show (if okp k then i else if f k < i then f k else f k + 1) = j
   rw [if_neg (fun h => hdis k h hk.1.1.1), if_pos (by omega)]; exact hf
  ·
   have hq' : q = x := by
    rw [List.getElem?_append_right (by rw [List.length_take]; omega), List.length_take, Nat.min_eq_left hi, Nat.sub_self] at hq
    exact (Option.some.inj hq).symm
   subst hq'
   show k38.M w' base _ q _
   have e1 := ins_mid inner r j hile hrl
   refine k38.M_mono (fun k hk => ?_) ((congrArg (k38.M w' base _ q) e1).mpr (step hM (fun k hk e => hdis k hk (h0 k e.symm))))
   refine ⟨⟨h2 k hk.1, hk.2⟩, ?_⟩
   show (if okp k then j else if f k < j then f k else f k + 1) = j
   rw [if_pos hk.1]
  ·
   obtain ⟨j, rfl⟩ : ∃ j', j = j' + 1 := ⟨j - 1, by omega⟩
   have hq' : xs[j]? = some q := by
    rw [List.getElem?_append_right (by rw [List.length_take]; omega), List.length_take, Nat.min_eq_left hi, show j + 1 - i = (j - i) + 1 by omega, List.getElem?_cons_succ, List.getElem?_drop] at hq
    rw [← hq]; congr 1; omega
   have hm := hrr.2 j (q, j) (by rw [List.getElem?_zipIdx, hq']; simp)
   show k38.M w' base _ q _
   rw [show (Kd.tag f k38).sz = 3 from rfl] at hm
   have e1 := ins_hi inner r i j hile hrl (by omega)
   refine k38.M_mono (fun k hk => ?_) ((congrArg (k38.M w' base _ q) e1).mpr (step hm (fun k hk => hk.1.2)))
   refine ⟨⟨h1 k hk.1.1.1, hk.2⟩, ?_⟩
   have hf : f k = j := hk.1.2
   show (if okp k then i else if f k < i then f k else f k + 1) = j + 1
   rw [if_neg (fun h => hdis k h hk.1.1.1), if_neg (by omega), hf]

end Go.Proofs.YtmacedbpdhkagaaDoor.Pure
namespace Go.Proofs.YtmacedbpdhkagaaDoor.Pure
set_option linter.unusedVariables false
set_option linter.unusedSimpArgs false
open Go Go.RowKit Go.Proofs.YtmacedbpdhkagaaDoor.PFnTonaryDrop Go.Proofs.YtmacedbpdhkagaaDoorW.PrintWords Go.Proofs.YtmacedbpdhkagaaDoorW.PrintLast Go.Proofs.YtmacedbpdhkagaaDoorW.PrintMore

def tonAddI (L : List S38) (e : S38) : List S38 × Bool :=
 if tonOk L = true then
  if entOk e = true then
   if L.length = 20 then ([], false)
   else if nmHas (L.filter (fun x => x.f1 == e.f1)) e.f0 = true then ([], false)
   else (catM (fun j => if j = e.f1 then (L.filter (fun x => x.f1 == e.f1)).take (nmAt (L.filter (fun x => x.f1 == e.f1)) e.f0) ++ e :: (L.filter (fun x => x.f1 == e.f1)).drop (nmAt (L.filter (fun x => x.f1 == e.f1)) e.f0) else L.filter (fun x => x.f1 == j)) 8, true)
  else ([], false)
 else ([], false)
set_option maxHeartbeats 4000000 in
set_option maxRecDepth 100000 in
theorem impl_TonaryAdd_calls (L : List S38) (e : S38) (A0 : Option Addr) (c0 : Nat) (Ae : Option Addr) (ce : Nat) (w : World) (ht : MTab w) (hr0 : Kd.C k38 w A0 L.length L) (hc0 : L.length ≤ c0) (hre : Kd.C k90 w Ae e.f2.length e.f2) (hce : e.f2.length ≤ ce) (hz : entSz L = true) (hze : e.f0.size ≤ 9000000000000000 ∧ e.f2.length ≤ 1000000000000) :
 Calls Tryd.prog 38 #[.slice A0 L.length c0, .agg #[.string e.f0, .int .i64 e.f1, .slice Ae e.f2.length ce]] w fun r w' => ∃ v, r = .returned (.tuple #[v, .bool (tonAddI L e).2]) ∧ Kd.S k38 38 w' w.heap.size (fun _ => True) v (tonAddI L e).1 ∧ Below w.heap.size w w' := by
 have hu1 := Tryd.underlying38
 have HT := Aside0.mk ht
 have HR0 := Aside0.mk hr0
 have HC0 := Aside0.mk hc0
 have HRE := Aside0.mk hre
 have HCE := Aside0.mk hce
 have HZ := Aside0.mk (entSz_all hz)
 have hfl : e.f2.length ≤ 1000000000000 := hze.2
 obtain ⟨kv, hkv⟩ := Ev.rounds (impl_Entry_valid_ev e (by have := hze.1; omega))
 have HKV := Aside0.mk hkv
 have HOF := Aside0.mk (fun (w3 : World) (hb : Below w.heap.size w w3) => impl_tonaryOf_calls L A0 c0 w3 (ht.below hb) (Kd.C_below hr0 hb) hc0 (entSz_all hz))
 clear ht hr0 hc0 hre hce hz hze hkv
 unfold tonAddI
 cases hk : tonOk L
 ·
  rw [hk] at HOF
  rw [if_neg (by decide)]
  clear hk
  go_enter Tryd.func38, Tryd.ntmps38
  go_wp2_with (first
   | ((with_reducible refine gate_dst (N := 3) rfl ?_); refine box_event ?hg (N := 3) ?hd (cs := #[.string e.f0, .int .i64 e.f1, .slice Ae e.f2.length ce]) (t := 38) ?hr ?_; (case hd => rfl); (case hg => rfl); (case hr => first | (go_simp; done) | (go_simp; rfl)); intro g3 hg w3 hbox hb; have HK3 := Aside0.mk hbox; have HB3 := Aside0.mk hb; have N3 := Aside0.mk (show w.heap.size ≤ g3 from (by rw [hg]; exact Nat.le_refl _)); have N33 := Aside0.mk (blk_lt hbox); clear hg hbox hb)
   | (go_at_call 52; refine (HOF.out _ HB3.out).mono ?_; rintro e_ w1 ⟨p, rfl, hm, hb⟩; have HB := Aside0.mk hb; have HM0 := Aside0.mk hm; clear hm hb))
  go_ret2
  exact ⟨_, rfl, Kd.S_nil _ _ _ _ _, below_step HB3.out HB.out⟩
 rw [hk] at HOF
 rw [if_pos rfl]
 have HOK := Aside0.mk ((tonOk_iff L).1 hk)
 clear hk
 cases hve : entOk e
 ·
  rw [hve] at HKV
  rw [if_neg (by decide)]
  clear hve
  go_enter Tryd.func38, Tryd.ntmps38
  go_upto_region 2 with (first
   | ((with_reducible refine gate_dst (N := 3) rfl ?_); refine box_event ?hg (N := 3) ?hd (cs := #[.string e.f0, .int .i64 e.f1, .slice Ae e.f2.length ce]) (t := 38) ?hr ?_; (case hd => rfl); (case hg => rfl); (case hr => first | (go_simp; done) | (go_simp; rfl)); intro g3 hg w3 hbox hb; have HK3 := Aside0.mk hbox; have HB3 := Aside0.mk hb; have N3 := Aside0.mk (show w.heap.size ≤ g3 from (by rw [hg]; exact Nat.le_refl _)); have N33 := Aside0.mk (blk_lt hbox); clear hg hbox hb)
   | (go_at_call 52; refine (HOF.out _ HB3.out).mono ?_; rintro e_ w1 ⟨p, rfl, hm, hb⟩; obtain ⟨M, rfl, own, F, hta⟩ := hm rfl; have HB := Aside0.mk hb; have HTA := Aside0.mk hta; clear hm hb hta))
  have K1 := Aside0.mk (blk_below HK3.out HB.out)
  have y0 : w1.cell? ⟨g3, 0, none⟩ = some (.string e.f0) := (blk_cell K1.out 0).trans rfl
  have y1 : w1.cell? ⟨g3, 1, none⟩ = some (.int .i64 e.f1) := (blk_cell K1.out 1).trans rfl
  have y2 : w1.cell? ⟨g3, 2, none⟩ = some (.slice Ae e.f2.length ce) := (blk_cell K1.out 2).trans rfl
  have HB13 := Aside0.mk (below_step HB3.out HB.out)
  go_wp2_with (go_at_call 73; refine (impl_Entry_valid.calls kv e.f0 e.f1 Ae ce e.f2 false _ (HT.out.below HB13.out) (Kd.C_below HRE.out HB13.out) HCE.out HKV.out).mono ?_; rintro e_ w8 ⟨rfl, hb8⟩; have HB8 := Aside0.mk hb8; clear hb8)
  go_ret2
  exact ⟨_, rfl, Kd.S_nil _ _ _ _ _, below_step HB13.out HB8.out⟩
 rw [hve] at HKV
 rw [if_pos rfl]
 clear hve
 by_cases h20 : L.length = 20
 ·
  rw [if_pos h20]
  have d20 : ((L.length : Int) == 20) = true := by rw [h20]; rfl
  have i20 : (L.length : Int) = 20 := by omega
  clear h20
  go_enter Tryd.func38, Tryd.ntmps38
  go_upto_region 2 with (first
   | ((with_reducible refine gate_dst (N := 3) rfl ?_); refine box_event ?hg (N := 3) ?hd (cs := #[.string e.f0, .int .i64 e.f1, .slice Ae e.f2.length ce]) (t := 38) ?hr ?_; (case hd => rfl); (case hg => rfl); (case hr => first | (go_simp; done) | (go_simp; rfl)); intro g3 hg w3 hbox hb; have HK3 := Aside0.mk hbox; have HB3 := Aside0.mk hb; have N3 := Aside0.mk (show w.heap.size ≤ g3 from (by rw [hg]; exact Nat.le_refl _)); have N33 := Aside0.mk (blk_lt hbox); clear hg hbox hb)
   | (go_at_call 52; refine (HOF.out _ HB3.out).mono ?_; rintro e_ w1 ⟨p, rfl, hm, hb⟩; obtain ⟨M, rfl, own, F, hta⟩ := hm rfl; have HB := Aside0.mk hb; have HTA := Aside0.mk hta; clear hm hb hta))
  have K1 := Aside0.mk (blk_below HK3.out HB.out)
  have y0 : w1.cell? ⟨g3, 0, none⟩ = some (.string e.f0) := (blk_cell K1.out 0).trans rfl
  have y1 : w1.cell? ⟨g3, 1, none⟩ = some (.int .i64 e.f1) := (blk_cell K1.out 1).trans rfl
  have y2 : w1.cell? ⟨g3, 2, none⟩ = some (.slice Ae e.f2.length ce) := (blk_cell K1.out 2).trans rfl
  have HB13 := Aside0.mk (below_step HB3.out HB.out)
  go_wp2_with (go_at_call 73; refine (impl_Entry_valid.calls kv e.f0 e.f1 Ae ce e.f2 true _ (HT.out.below HB13.out) (Kd.C_below HRE.out HB13.out) HCE.out HKV.out).mono ?_; rintro e_ w8 ⟨rfl, hb8⟩; have HB8 := Aside0.mk hb8; clear hb8)
  go_ret2
  exact ⟨_, rfl, Kd.S_nil _ _ _ _ _, below_step HB13.out HB8.out⟩
 rw [if_neg h20]
 have i20 : ¬ ((L.length : Int) = 20) := by omega
 clear h20
 obtain ⟨X, hX⟩ : ∃ X, X = L.filter (fun x => x.f1 == e.f1) := ⟨_, rfl⟩
 rw [← hX]
 have hXl : X.length ≤ 20 := by rw [hX]; exact Nat.le_trans (List.length_filter_le _ _) HOK.out.1
 have HX := Aside0.mk hX
 have hfc := fun (w1 : World) (base M : Nat) (own : Nat → Int) (F : Int → Option Value) (hta : TonAt w1 base M own F (fun k => L.filter (fun x => x.f1 == k))) => find_calls w1 base M own F _ e.f1 e.f0 hta (by rw [← HX.out]; omega) (srt_names HOK.out.2.2 e.f1)
 rw [← hX] at hfc
 obtain ⟨i, hi⟩ : ∃ i, i = nmAt X e.f0 := ⟨_, rfl⟩
 have hil : i ≤ X.length := by rw [hi]; exact nmAt_le X e.f0
 rw [← hi] at hfc ⊢
 have HFC := Aside0.mk hfc
 clear hfc hX hi
 cases hf : nmHas X e.f0
 ·
  rw [hf] at HFC
  rw [if_neg (by decide)]
  clear hf
  go_enter Tryd.func38, Tryd.ntmps38
  go_upto_region 2 with (first
   | ((with_reducible refine gate_dst (N := 3) rfl ?_); refine box_event ?hg (N := 3) ?hd (cs := #[.string e.f0, .int .i64 e.f1, .slice Ae e.f2.length ce]) (t := 38) ?hr ?_; (case hd => rfl); (case hg => rfl); (case hr => first | (go_simp; done) | (go_simp; rfl)); intro g3 hg w3 hbox hb; have HK3 := Aside0.mk hbox; have HB3 := Aside0.mk hb; have N3 := Aside0.mk (show w.heap.size ≤ g3 from (by rw [hg]; exact Nat.le_refl _)); have N33 := Aside0.mk (blk_lt hbox); clear hg hbox hb)
   | (go_at_call 52; refine (HOF.out _ HB3.out).mono ?_; rintro e_ w1 ⟨p, rfl, hm, hb⟩; obtain ⟨M, rfl, own, F, hta⟩ := hm rfl; have HB := Aside0.mk hb; have HTA := Aside0.mk hta; clear hm hb hta))
  have K1 := Aside0.mk (blk_below HK3.out HB.out)
  have y0 : w1.cell? ⟨g3, 0, none⟩ = some (.string e.f0) := (blk_cell K1.out 0).trans rfl
  have y1 : w1.cell? ⟨g3, 1, none⟩ = some (.int .i64 e.f1) := (blk_cell K1.out 1).trans rfl
  have y2 : w1.cell? ⟨g3, 2, none⟩ = some (.slice Ae e.f2.length ce) := (blk_cell K1.out 2).trans rfl
  have HB13 := Aside0.mk (below_step HB3.out HB.out)
  go_upto_region 4 with (go_at_call 73; refine (impl_Entry_valid.calls kv e.f0 e.f1 Ae ce e.f2 true _ (HT.out.below HB13.out) (Kd.C_below HRE.out HB13.out) HCE.out HKV.out).mono ?_; rintro e_ w8 ⟨rfl, hb8⟩; have HB8 := Aside0.mk hb8; clear hb8)
  have HTA8 := Aside0.mk (HTA.out.below HB8.out)
  have K8 := Aside0.mk (blk_below K1.out HB8.out)
  have HB138 := Aside0.mk (below_step HB13.out HB8.out)
  clear y0 y1 y2
  have y0 : w8.cell? ⟨g3, 0, none⟩ = some (.string e.f0) := (blk_cell K8.out 0).trans rfl
  have y1 : w8.cell? ⟨g3, 1, none⟩ = some (.int .i64 e.f1) := (blk_cell K8.out 1).trans rfl
  go_upto_region 7 with (go_at_call 53; refine (HFC.out _ _ M own F HTA8.out).mono ?_; rintro e_ w2 ⟨rfl, hb2⟩; have HB2 := Aside0.mk hb2; clear hb2)
  have HTA2 := Aside0.mk (HTA8.out.below HB2.out)
  have K2 := Aside0.mk (blk_below K8.out HB2.out)
  have HB32 := Aside0.mk (below_step HB.out (below_step HB8.out HB2.out))
  have HBW2 := Aside0.mk (below_step HB138.out HB2.out)
  clear y0 y1 HB13 HB138 HTA8 K8 K1 HK3 HTA HB
  have y0 : w2.drew.cell? ⟨g3, 0, none⟩ = some (.string e.f0) := (blk_cell K2.out 0).trans rfl
  have y1 : w2.drew.cell? ⟨g3, 1, none⟩ = some (.int .i64 e.f1) := (blk_cell K2.out 1).trans rfl
  have y2 : w2.drew.cell? ⟨g3, 2, none⟩ = some (.slice Ae e.f2.length ce) := (blk_cell K2.out 2).trans rfl
  obtain ⟨v0, hv0⟩ : ∃ v0, v0 = (F e.f1).getD (.slice none 0 0) := ⟨_, rfl⟩
  have HV0 := Aside0.mk hv0
  clear hv0
  have lkA : (Instr.lookup 72 (.map (some M)) (.int .i64 e.f1) false).run Tryd.prog w2.drew = .ok v0 w2.drew := by rw [HV0.out]; exact (HTA2.out.below (below_drew1 (Below.refl _ _))).look e.f1
  have HCP := Aside0.mk (show impl_Entry_copied.f e.f0 e.f1 e.f2 = some (e.f0, e.f1, e.f2) by unfold impl_Entry_copied.f impl_copiedTones.f; rw [if_pos hfl]; rfl)
  have HGD := Aside0.mk (show Kd.C k90 w2.drew Ae e.f2.length e.f2 from Kd.C_drew (Kd.C_below HRE.out HBW2.out))
  have N32 := Aside0.mk (show g3 < w2.heap.size from Nat.lt_of_lt_of_le (blk_lt K2.out) (Nat.le_refl _))
  have NE3 : Aside0 (some g3 ≠ v0.ownBlock) := ⟨fun h => by
   have h1 := Kd.S_base (HTA2.out.row e.f1) g3 (by rw [← HV0.out]; exact h.symm)
   have h2 := N33.out
   omega⟩
  have NM3 : Aside0 (g3 ≠ M) := ⟨by have h1 := HTA2.out.1; have h2 := N33.out; omega⟩
  go_region_held3 (fun w' => w'.cell? ⟨g3, 0, none⟩ = some (.string e.f0) ∧ w'.cell? ⟨g3, 1, none⟩ = some (.int .i64 e.f1) ∧ w'.cell? ⟨g3, 2, none⟩ = some (.slice Ae e.f2.length ce))
   (first
    | exact ⟨y0, y1, y2⟩
    | go_keep
    | exact ⟨pw_cell_below hb12 y0, pw_cell_below hb12 y1, pw_cell_below hb12 y2⟩
    | exact ⟨pw_cell_below (below_alloc (Below.refl _ _) _) (pw_cell_below hb12 y0), pw_cell_below (below_alloc (Below.refl _ _) _) (pw_cell_below hb12 y1), pw_cell_below (below_alloc (Below.refl _ _) _) (pw_cell_below hb12 y2)⟩
    | exact ⟨cell_grown hg13 (pw_cell_below (below_alloc (Below.refl _ _) _) (pw_cell_below hb12 y0)) NE3.out, cell_grown hg13 (pw_cell_below (below_alloc (Below.refl _ _) _) (pw_cell_below hb12 y1)) NE3.out, cell_grown hg13 (pw_cell_below (below_alloc (Below.refl _ _) _) (pw_cell_below hb12 y2)) NE3.out⟩
    | exact ⟨cell_setBlock (cell_grown hg13 (pw_cell_below (below_alloc (Below.refl _ _) _) (pw_cell_below hb12 y0)) NE3.out) NM3.out, cell_setBlock (cell_grown hg13 (pw_cell_below (below_alloc (Below.refl _ _) _) (pw_cell_below hb12 y1)) NE3.out) NM3.out, cell_setBlock (cell_grown hg13 (pw_cell_below (below_alloc (Below.refl _ _) _) (pw_cell_below hb12 y2)) NE3.out) NM3.out⟩
    | fail)
   (first
    | (go_at_call 55; (with_reducible refine (impl_Entry_copied.calls e.f0 e.f1 Ae ce e.f2 e.f0 e.f1 e.f2 w2.drew HGD.out HCE.out HCP.out).mono ?_); rintro e_ w12 ⟨v2, rfl, ho2, hb12⟩; obtain ⟨Av, cv, rfl⟩ := Kd.R_slice ho2; have hbW : Below w2.heap.size w2 w12 := below_step (below_drew1 (Below.refl _ _)) hb12; have lkB := (HTA2.out.below hbW).look e.f1; rw [← HV0.out] at lkB; have hbA : Below w2.heap.size w2 (w12.alloc (.cells #[.string e.f0, .int .i64 e.f1, .slice Av e.f2.length cv] 38 (0, 0))) := below_step hbW (below_alloc (Below.refl _ _) _); have lkC := (HTA2.out.below hbA).look e.f1; rw [← HV0.out] at lkC; have HM2 := Aside0.mk (Kd.M_alloc (k38_mkM w12 w3.heap.size (fun b => w2.heap.size ≤ b) e (Kd.R_lower (Kd.R_mono (Kd.R_bound ho2) (fun b hb => hb.2.1)) HB32.out.size)) (.cells #[.string e.f0, .int .i64 e.f1, .slice Av e.f2.length cv] 38 (0, 0))); have HO12 := Aside0.mk (show Kd.S k38 38 (w12.alloc (.cells #[.string e.f0, .int .i64 e.f1, .slice Av e.f2.length cv] 38 (0, 0))) w3.heap.size (fun b => (own b = e.f1 ∧ b ≠ M) ∧ b < w2.heap.size) v0 X by (rw [HV0.out, HX.out]; exact Kd.S_below (TonAt.bound (HTA2.out.row e.f1)) hbA)); have HBA := Aside0.mk hbA; have HBWW := Aside0.mk hbW; clear ho2 hbW hbA)
    | (go_at_call 54; refine (insert_S v0 X e i w12.heap.size w3.heap.size [.string e.f0, .int .i64 e.f1, .slice Av e.f2.length cv] (fun b => (own b = e.f1 ∧ b ≠ M) ∧ b < w2.heap.size) (fun b => w2.heap.size ≤ b) (fun b => (own b = e.f1 ∧ b ≠ M) ∨ w2.heap.size ≤ b) _ HO12.out HM2.out (fun k hk h => by omega) (fun k hk => .inl hk.1) (fun k hk => .inr hk) (fun k hk => .inr (Nat.le_trans HBA.out.size hk)) (blk_new w12 _) (fun h => HTA2.out.ne e.f1 w12.heap.size HBWW.out.size (by rw [← HV0.out]; exact h.symm)) hil (by omega) (Nat.le_trans HB32.out.size HBA.out.size)).mono ?_; rintro e_ w13 ⟨v13, rfl, ho13, hg13, hat13⟩; obtain ⟨es, clk, hput, hmap⟩ := TonAt.append HTA2.out HBA.out (by rw [← HV0.out]; exact hg13) ho13; have HMAP := Aside0.mk hmap; have HB13 := Aside0.mk (pw_below_grown (below_step HB32.out HBA.out) _ (below_step HB32.out HBA.out).size hg13 (fun k e_ => Kd.S_base HO12.out k e_)); clear hmap ho13 hat13)
    | fail)
  all_goals
   have HBE := Aside0.mk (below_setBlock HB13.out HTA2.out.1 (o := .map es clk))
   have HMX := Aside0.mk (HMAP.out.cong (G' := fun j => if j = e.f1 then X.take i ++ e :: X.drop i else L.filter (fun x => x.f1 == j)) (fun j => rfl))
   clear HB13 HMAP hput hg13 hb12
   generalize ChangeMaps.setBlock w13 M (.map es clk) = w14 at HBE HMX ⊢
   have HL := Aside0.mk (impl_list_calls w3 w14 M _ HBE.out HMX.out (fun k => by
    show (if k = e.f1 then X.take i ++ e :: X.drop i else L.filter (fun x => x.f1 == k)).length ≤ 1000
    split
    ·
     rw [List.length_append, List.length_cons, List.length_take, List.length_drop]; omega
    ·
     exact Nat.le_trans (List.length_filter_le _ _) (by have := HOK.out.1; omega)))
   go_wp2_with (go_at_call 57; refine HL.out.mono ?_; rintro e_ w7 ⟨v, rfl, ho7, hb7⟩; have HO7 := Aside0.mk ho7; have HB7 := Aside0.mk hb7; clear ho7 hb7)
   go_ret2
   exact ⟨_, rfl, Kd.S_lower HO7.out HB3.out.size, below_step HB3.out HB7.out⟩
 ·
  rw [hf] at HFC
  rw [if_pos rfl]
  clear hf
  go_enter Tryd.func38, Tryd.ntmps38
  go_upto_region 2 with (first
   | ((with_reducible refine gate_dst (N := 3) rfl ?_); refine box_event ?hg (N := 3) ?hd (cs := #[.string e.f0, .int .i64 e.f1, .slice Ae e.f2.length ce]) (t := 38) ?hr ?_; (case hd => rfl); (case hg => rfl); (case hr => first | (go_simp; done) | (go_simp; rfl)); intro g3 hg w3 hbox hb; have HK3 := Aside0.mk hbox; have HB3 := Aside0.mk hb; have N3 := Aside0.mk (show w.heap.size ≤ g3 from (by rw [hg]; exact Nat.le_refl _)); have N33 := Aside0.mk (blk_lt hbox); clear hg hbox hb)
   | (go_at_call 52; refine (HOF.out _ HB3.out).mono ?_; rintro e_ w1 ⟨p, rfl, hm, hb⟩; obtain ⟨M, rfl, own, F, hta⟩ := hm rfl; have HB := Aside0.mk hb; have HTA := Aside0.mk hta; clear hm hb hta))
  have K1 := Aside0.mk (blk_below HK3.out HB.out)
  have y0 : w1.cell? ⟨g3, 0, none⟩ = some (.string e.f0) := (blk_cell K1.out 0).trans rfl
  have y1 : w1.cell? ⟨g3, 1, none⟩ = some (.int .i64 e.f1) := (blk_cell K1.out 1).trans rfl
  have y2 : w1.cell? ⟨g3, 2, none⟩ = some (.slice Ae e.f2.length ce) := (blk_cell K1.out 2).trans rfl
  have HB13 := Aside0.mk (below_step HB3.out HB.out)
  go_upto_region 4 with (go_at_call 73; refine (impl_Entry_valid.calls kv e.f0 e.f1 Ae ce e.f2 true _ (HT.out.below HB13.out) (Kd.C_below HRE.out HB13.out) HCE.out HKV.out).mono ?_; rintro e_ w8 ⟨rfl, hb8⟩; have HB8 := Aside0.mk hb8; clear hb8)
  have HTA8 := Aside0.mk (HTA.out.below HB8.out)
  have K8 := Aside0.mk (blk_below K1.out HB8.out)
  have HB138 := Aside0.mk (below_step HB13.out HB8.out)
  clear y0 y1 y2
  have y0 : w8.cell? ⟨g3, 0, none⟩ = some (.string e.f0) := (blk_cell K8.out 0).trans rfl
  have y1 : w8.cell? ⟨g3, 1, none⟩ = some (.int .i64 e.f1) := (blk_cell K8.out 1).trans rfl
  go_wp2_with (go_at_call 53; refine (HFC.out _ _ M own F HTA8.out).mono ?_; rintro e_ w2 ⟨rfl, hb2⟩; have HB2 := Aside0.mk hb2; clear hb2)
  go_ret2
  exact ⟨_, rfl, Kd.S_nil _ _ _ _ _, below_step HB138.out HB2.out⟩

def tonDrop (L : List S38) (mode : Int) (nm : ByteArray) : List S38 × Bool :=
 if tonOk L = true then
  if nmHas (L.filter (fun e => e.f1 == mode)) nm = true then (catM (fun j => if j = mode then (L.filter (fun e => e.f1 == mode)).eraseIdx (nmAt (L.filter (fun e => e.f1 == mode)) nm) else L.filter (fun e => e.f1 == j)) 8, true)
  else ([], false)
 else ([], false)
theorem S_cap {α : Type} {d : Kd α} {e base n c : Nat} {a : Addr} {ok : Nat → Prop} {W : World} {xs : List α} (h : Kd.S d e W base ok (.slice (some a) n c) xs) : c ≤ maxLen := by
 obtain ⟨inner, hown⟩ := Kd.S_own h
 rcases hown.2 with ⟨hv, _⟩ | ⟨g', cap', cur, hv, hb, hh, hnc', hcm, hcs, htake⟩
 ·
  cases hv
 ·
  injection hv with _ _ hc
  rw [hc]; exact hcm
set_option maxHeartbeats 2000000 in
set_option maxRecDepth 100000 in
theorem impl_TonaryDrop_calls (L : List S38) (mode : Int) (nm : ByteArray) (A0 : Option Addr) (c0 : Nat) (w : World) (ht : MTab w) (hr0 : Kd.C k38 w A0 L.length L) (hc0 : L.length ≤ c0) (hz : entSz L = true) :
 Calls Tryd.prog 27 #[.slice A0 L.length c0, .int .i64 mode, .string nm] w fun e w' => ∃ v, e = .returned (.tuple #[v, .bool (tonDrop L mode nm).2]) ∧ Kd.S k38 38 w' w.heap.size (fun _ => True) v (tonDrop L mode nm).1 ∧ Below w.heap.size w w' := by
 have HT := Aside0.mk ht
 have HR0 := Aside0.mk hr0
 have HC0 := Aside0.mk hc0
 have HZ := Aside0.mk (entSz_all hz)
 have hc := impl_tonaryOf_calls L A0 c0 w HT.out HR0.out HC0.out HZ.out
 clear ht hr0 hc0 hz
 unfold tonDrop
 cases hk : tonOk L
 ·
  rw [hk] at hc
  rw [if_neg (by decide)]
  clear hk
  go_enter Tryd.func27, Tryd.ntmps27
  go_wp2_with (go_at_call 52; refine hc.mono ?_; rintro e w1 ⟨p, rfl, hm, hb⟩; have HB := Aside0.mk hb; clear hm hb hc)
  go_ret2
  exact ⟨_, rfl, Kd.S_nil _ _ _ _ _, HB.out⟩
 ·
  rw [hk] at hc
  rw [if_pos rfl]
  have HOK := Aside0.mk ((tonOk_iff L).1 hk)
  clear hk
  obtain ⟨X, hX⟩ : ∃ X, X = L.filter (fun e => e.f1 == mode) := ⟨_, rfl⟩
  rw [← hX]
  have hXl : X.length ≤ 20 := by rw [hX]; exact Nat.le_trans (List.length_filter_le _ _) HOK.out.1
  have HX := Aside0.mk hX
  have hfc := fun (w1 : World) (base M : Nat) (own : Nat → Int) (F : Int → Option Value) (hta : TonAt w1 base M own F (fun k => L.filter (fun e => e.f1 == k))) => find_calls w1 base M own F _ mode nm hta (by rw [← HX.out]; omega) (srt_names HOK.out.2.2 mode)
  rw [← hX] at hfc
  have HFC := Aside0.mk hfc
  obtain ⟨i, hi⟩ : ∃ i, i = nmAt X nm := ⟨_, rfl⟩
  have hil : i ≤ X.length := by rw [hi]; exact nmAt_le X nm
  rw [← hi] at hfc ⊢
  have HI := Aside0.mk hi
  clear HFC hX hi
  have HFC := Aside0.mk hfc
  clear hfc
  cases hf : nmHas X nm
  ·
   rw [if_neg (by decide)]
   rw [hf] at HFC
   clear hf
   go_enter Tryd.func27, Tryd.ntmps27
   go_wp2_with (first
    | (go_at_call 52; refine hc.mono ?_; rintro e w1 ⟨p, rfl, hm, hb⟩; obtain ⟨M, rfl, own, F, hta⟩ := hm rfl; have HB := Aside0.mk hb; have HTA := Aside0.mk hta; clear hm hb hc hta)
    | (go_at_call 53; refine (HFC.out _ _ M own F HTA.out).mono ?_; rintro e w2 ⟨rfl, hb2⟩; have HB2 := Aside0.mk (below_step HB.out hb2); clear hb2))
   go_ret2
   exact ⟨_, rfl, Kd.S_nil _ _ _ _ _, HB2.out⟩
  ·
   rw [if_pos rfl]
   rw [hf] at HFC
   have hlt : i < X.length := by
    unfold nmHas at hf
    rw [Bool.and_eq_true, ← HI.out] at hf
    exact of_decide_eq_true hf.1
   have HNE : Aside0 (X ≠ []) := ⟨fun e => by rw [e] at hlt; exact Nat.not_lt_zero _ hlt⟩
   clear hf
   go_enter Tryd.func27, Tryd.ntmps27
   go_upto_region 7 with (first
    | (go_at_call 52; refine hc.mono ?_; rintro e w1 ⟨p, rfl, hm, hb⟩; obtain ⟨M, rfl, own, F, hta⟩ := hm rfl; have HB := Aside0.mk hb; have HTA := Aside0.mk hta; clear hm hb hc hta)
    | (go_at_call 53; refine (HFC.out _ _ M own F HTA.out).mono ?_; rintro e w2 ⟨rfl, hb2⟩; have HB2 := Aside0.mk (below_step HB.out hb2); have HTA2 := Aside0.mk (HTA.out.below hb2); clear hb2))
   obtain ⟨v0, hv0⟩ : ∃ v0, v0 = (F mode).getD (.slice none 0 0) := ⟨_, rfl⟩
   have hrow := HTA2.out.row mode
   have lk := HTA2.out.look mode
   rw [← hv0] at hrow lk
   have hrow2 : Kd.S k38 38 w2 w.heap.size (fun b => own b = mode ∧ b ≠ M) v0 X := by rw [HX.out]; exact hrow
   obtain ⟨g, cap, rfl, hgb, hgl, _⟩ := Kd.S_form hrow2 (by omega)
   have HD := Aside0.mk (delete_calls X g cap i w.heap.size _ w2 hrow2 HB2.out.size hlt (by omega) (S_cap hrow2))
   have HGB := Aside0.mk hgb
   have HV := Aside0.mk hv0
   have HW := Aside0.mk (w64 (x := (i : Int) + 1) (by omega) (by omega))
   have hil0 : (i : Int) + 1 ≤ 100 := by omega
   clear hrow hrow2 hv0 hgb hgl HTA HB
   go_upto_region 8 with (go_at_call 66; refine HD.out.mono ?_; rintro e w5 ⟨rfl, ho5, hg5⟩; obtain ⟨es, clk, hput, hmap⟩ := TonAt.append (k := mode) HTA2.out (Below.refl _ _) (w2 := w5) (by rw [← HV.out]; exact hg5) (Kd.S_mono ho5 (fun b hb => .inl hb)); have HMAP := Aside0.mk hmap; have HB5 := Aside0.mk (pw_below_grown HB2.out (some g) HB2.out.size hg5 (fun k e => by cases e; exact HGB.out)); clear hmap ho5 hg5)
   have HBE := Aside0.mk (below_setBlock HB5.out HTA2.out.1 (o := .map es clk))
   have HMX := Aside0.mk (HMAP.out.cong (G' := fun j => if j = mode then X.eraseIdx i else L.filter (fun e => e.f1 == j)) (fun j => rfl))
   clear HB5 HMAP hput
   generalize ChangeMaps.setBlock w5 M (.map es clk) = w6 at HBE HMX ⊢
   have HL := Aside0.mk (impl_list_calls w w6 M _ HBE.out HMX.out (fun k => by
    show (if k = mode then X.eraseIdx i else L.filter (fun e => e.f1 == k)).length ≤ 1000
    split
    ·
     exact Nat.le_trans (List.length_eraseIdx_le _ _) (by omega)
    ·
     exact Nat.le_trans (List.length_filter_le _ _) (by have := HOK.out.1; omega)))
   go_wp2_with (go_at_call 57; refine HL.out.mono ?_; rintro e w7 ⟨v, rfl, ho7, hb7⟩; have HO7 := Aside0.mk ho7; have HB7 := Aside0.mk hb7; clear ho7 hb7)
   go_ret2
   exact ⟨_, rfl, HO7.out, HB7.out⟩

end Go.Proofs.YtmacedbpdhkagaaDoor.Pure
namespace Go.Proofs.YtmacedbpdhkagaaDoor.Pure
set_option linter.unusedVariables false
set_option linter.unusedSimpArgs false
open Go Go.RowKit Go.Proofs.YtmacedbpdhkagaaDoor.PFnTonaryDrop Go.Proofs.YtmacedbpdhkagaaDoorW.PrintWords Go.Proofs.YtmacedbpdhkagaaDoorW.PrintLast Go.Proofs.YtmacedbpdhkagaaDoorW.PrintMore

theorem tl_inj (a b : ByteArray) : a.toList = b.toList ↔ a = b :=
 ⟨fun h => Go.WideShapes.bytes_inj (by rw [← Lib.toList_data, ← Lib.toList_data]; exact h), fun h => by rw [h]⟩
theorem nm_ne {a b : ByteArray} (h : nmLt a b = true) : a ≠ b := fun e => by rw [e, nmLt_irrefl] at h; cases h
theorem nmHas_iff {X : List S38} (hp : X.Pairwise (fun a b => nmLt a.f0 b.f0 = true)) (nm : ByteArray) : nmHas X nm = true ↔ ∃ e ∈ X, e.f0 = nm := by
 unfold nmHas
 rw [Bool.and_eq_true, decide_eq_true_iff, decide_eq_true_iff]
 constructor
 ·
  rintro ⟨h1, h2⟩
  exact ⟨_, rd_ent X _ h1, h2⟩
 ·
  rintro ⟨e, he, hn⟩
  obtain ⟨j, hj, rfl⟩ := List.mem_iff_getElem.1 he
  have hrj : rd_T38 X (j : Int) = X[j] := by unfold rd_T38; rw [Int.toNat_natCast, List.getD_eq_getElem?_getD, List.getElem?_eq_getElem hj]; rfl
  have h1 := nmAt_mono X hp nm j hj
  rw [hrj, hn, nmLt_irrefl] at h1
  have hji : nmAt X nm ≤ j := Nat.not_lt.1 (of_decide_eq_false h1.symm)
  have hlt : nmAt X nm < X.length := by omega
  refine ⟨hlt, ?_⟩
  rcases Nat.lt_or_ge (nmAt X nm) j with h2 | h2
  ·
   have h3 := nmAt_mono X hp nm _ hlt
   have h4 := List.pairwise_iff_getElem.1 hp _ _ hlt hj h2
   have hri : rd_T38 X (nmAt X nm : Int) = X[nmAt X nm] := by unfold rd_T38; rw [Int.toNat_natCast, List.getD_eq_getElem?_getD, List.getElem?_eq_getElem hlt]; rfl
   rw [hn] at h4
   rw [hri, h4] at h3
   exact absurd (of_decide_eq_true h3.symm) (Nat.lt_irrefl _)
  ·
   have : nmAt X nm = j := by omega
   rw [this, hrj, hn]

def insAt (L : List S38) (n : Nat) (e : S38) : List S38 := L.take n ++ e :: L.drop n
def befN (L : List S38) (e : S38) : Nat := (L.takeWhile (fun x => befE x e)).length
def tonRes (Z : List S38) : List S38 × Bool := if tonOk Z = true then (Z, true) else ([], false)
def tonAdd (L : List S38) (e : S38) : List S38 × Bool := if tonOk L = true then tonRes (insAt L (befN L e) e) else ([], false)
theorem insAt_len (L : List S38) (n : Nat) (e : S38) : (insAt L n e).length = L.length + 1 := by
 unfold insAt
 rw [List.length_append, List.length_cons, List.length_take, List.length_drop]; omega

theorem befN_split (e : S38) : ∀ L : List S38, Srt L → ∃ A B, L = A ++ B ∧ A.length = befN L e ∧ (∀ x ∈ A, befE x e = true) ∧ (∀ x ∈ B, befE x e = false)
 | [], _ => ⟨[], [], rfl, rfl, fun _ h => (by cases h), fun _ h => (by cases h)⟩
 | x :: L, hs => by
  obtain ⟨h1, h2⟩ := List.pairwise_cons.1 hs
  cases hx : befE x e
  ·
   refine ⟨[], x :: L, rfl, by unfold befN; rw [List.takeWhile_cons, hx]; rfl, fun _ h => (by cases h), fun y hy => ?_⟩
   rcases List.mem_cons.1 hy with rfl | hy
   ·
    exact hx
   ·
    cases hye : befE y e
    ·
     rfl
    ·
     rw [befE_trans (h1 y hy) hye] at hx; cases hx
  ·
   obtain ⟨A, B, hL, hl, hA, hB⟩ := befN_split e L h2
   refine ⟨x :: A, B, by rw [hL]; rfl, ?_, fun y hy => ?_, hB⟩
   ·
    unfold befN
    rw [List.takeWhile_cons, hx, if_pos rfl, List.length_cons, List.length_cons, hl]; rfl
   ·
    rcases List.mem_cons.1 hy with rfl | hy
    ·
     exact hx
    ·
     exact hA y hy
theorem key_same {a b : S38} (h1 : befE a b = false) (h2 : befE b a = false) : a.f1 = b.f1 ∧ a.f0 = b.f0 := by
 have n1 : ¬ (a.f1 < b.f1 ∨ (a.f1 = b.f1 ∧ nmLt a.f0 b.f0 = true)) := fun h => by rw [(befE_iff a b).2 h] at h1; cases h1
 have n2 : ¬ (b.f1 < a.f1 ∨ (b.f1 = a.f1 ∧ nmLt b.f0 a.f0 = true)) := fun h => by rw [(befE_iff b a).2 h] at h2; cases h2
 have e1 : a.f1 = b.f1 := by omega
 refine ⟨e1, nm_eq_of ?_ ?_⟩
 ·
  cases h : nmLt a.f0 b.f0
  ·
   rfl
  ·
   exact absurd (.inr ⟨e1, h⟩) n1
 ·
  cases h : nmLt b.f0 a.f0
  ·
   rfl
  ·
   exact absurd (.inr ⟨e1.symm, h⟩) n2
theorem nmAt_split (A B : List S38) (nm : ByteArray) (hA : ∀ x ∈ A, nmLt x.f0 nm = true) (hB : ∀ x ∈ B, nmLt x.f0 nm = false) : nmAt (A ++ B) nm = A.length := by
 unfold nmAt
 rw [List.takeWhile_append_of_pos (by simpa using hA)]
 cases B with
 | nil => simp
 | cons b B => rw [List.takeWhile_cons, hB b List.mem_cons_self]; simp

theorem tonAddI_eq (L : List S38) (e : S38) : tonAddI L e = tonAdd L e := by
 unfold tonAddI tonAdd
 by_cases hk : tonOk L = true
 ·
  rw [if_pos hk, if_pos hk]
  obtain ⟨hlen, hok, hs⟩ := (tonOk_iff L).1 hk
  have hp := srt_names hs e.f1
  obtain ⟨A, B, hL, hAl, hA, hB⟩ := befN_split e L hs
  have hins : insAt L (befN L e) e = A ++ e :: B := by
   unfold insAt
   rw [← hAl, hL, List.take_left' rfl, List.drop_left' rfl]
  rw [hins]
  have hil : (A ++ e :: B).length = L.length + 1 := by rw [hL, List.length_append, List.length_append, List.length_cons]; omega
  have hmem : ∀ x, x ∈ A ++ e :: B ↔ x ∈ L ∨ x = e := by
   intro x
   rw [hL, List.mem_append, List.mem_cons, List.mem_append]
   constructor
   ·
    rintro (h | h | h)
    ·
     exact .inl (.inl h)
    ·
     exact .inr h
    ·
     exact .inl (.inr h)
   ·
    rintro ((h | h) | h)
    ·
     exact .inl h
    ·
     exact .inr (.inr h)
    ·
     exact .inr (.inl h)
  unfold tonRes
  by_cases he : entOk e = true
  ·
   rw [if_pos he]
   by_cases h20 : L.length = 20
   ·
    rw [if_pos h20, if_neg]
    rw [tonOk_iff, hil]
    rintro ⟨h, _⟩
    omega
   ·
    rw [if_neg h20]
    by_cases hh : nmHas (L.filter (fun x => x.f1 == e.f1)) e.f0 = true
    ·
     rw [if_pos hh, if_neg]
     rw [tonOk_iff]
     rintro ⟨_, _, hs2⟩
     obtain ⟨x, hx, hn⟩ := (nmHas_iff hp e.f0).1 hh
     rw [List.mem_filter] at hx
     have hm : x.f1 = e.f1 := by simpa using hx.2
     have n1 : befE x e = false := by
      cases h : befE x e
      ·
       rfl
      ·
       rw [befE_iff, hn, nmLt_irrefl] at h
       rcases h with h | ⟨_, h⟩
       ·
        omega
       ·
        cases h
     have hxB : x ∈ B := by
      have := hx.1
      rw [hL, List.mem_append] at this
      rcases this with h | h
      ·
       rw [hA x h] at n1; cases n1
      ·
       exact h
     have h2 := (List.pairwise_cons.1 (List.pairwise_append.1 hs2).2.1).1 x hxB
     rw [befE_iff, hn, nmLt_irrefl] at h2
     rcases h2 with h | ⟨_, h⟩
     ·
      omega
     ·
      cases h
    ·
     rw [if_neg hh]
     have hBe : ∀ x ∈ B, befE e x = true := by
      intro x hx
      cases h : befE e x
      ·
       exfalso
       obtain ⟨k1, k2⟩ := key_same (hB x hx) h
       exact hh ((nmHas_iff hp e.f0).2 ⟨x, by rw [List.mem_filter, hL]; exact ⟨List.mem_append_right _ hx, by simp [k1]⟩, k2⟩)
      ·
       rfl
     have hs2 : Srt (A ++ e :: B) := by
      rw [hL] at hs
      obtain ⟨s1, s2, s3⟩ := List.pairwise_append.1 hs
      refine List.pairwise_append.2 ⟨s1, List.pairwise_cons.2 ⟨hBe, s2⟩, fun a ha b hb => ?_⟩
      rcases List.mem_cons.1 hb with rfl | hb
      ·
       exact hA a ha
      ·
       exact s3 a ha b hb
     have hoks : ∀ x ∈ A ++ e :: B, entOk x = true := fun x hx => by
      rcases (hmem x).1 hx with h | rfl
      ·
       exact hok x h
      ·
       exact he
     rw [if_pos ((tonOk_iff _).2 ⟨by rw [hil]; omega, hoks, hs2⟩)]
     refine Prod.ext ?_ rfl
     refine (catM_cong 8 (fun k h1 h2 => ?_)).trans (catM_eq hs2 (fun x hx => entOk_mode (hoks x hx)))
     rw [List.filter_append]
     by_cases hke : k = e.f1
     ·
      subst hke
      have hAf : ∀ x ∈ A.filter (fun x => x.f1 == e.f1), nmLt x.f0 e.f0 = true := by
       intro x hx
       rw [List.mem_filter] at hx
       have h1 := (befE_iff x e).1 (hA x hx.1)
       have h2 : x.f1 = e.f1 := by simpa using hx.2
       rcases h1 with h | h
       ·
        omega
       ·
        exact h.2
      have hBf : ∀ x ∈ B.filter (fun x => x.f1 == e.f1), nmLt x.f0 e.f0 = false := by
       intro x hx
       rw [List.mem_filter] at hx
       have h2 : x.f1 = e.f1 := by simpa using hx.2
       cases h : nmLt x.f0 e.f0
       ·
        rfl
       ·
        have := (befE_iff x e).2 (.inr ⟨h2, h⟩)
        rw [hB x hx.1] at this; cases this
      rw [if_pos rfl, hL, List.filter_append, nmAt_split _ _ _ hAf hBf, List.take_left' rfl, List.drop_left' rfl, List.filter_cons_of_pos (by simp)]
     ·
      rw [if_neg hke, hL, List.filter_append, List.filter_cons_of_neg (by simp; exact fun h => hke h.symm)]
  ·
   rw [if_neg he, if_neg]
   rw [tonOk_iff]
   rintro ⟨_, h, _⟩
   exact he (h e ((hmem e).2 (.inr rfl)))
 ·
  rw [if_neg hk, if_neg hk]

def notE (mode : Int) (nm : ByteArray) (e : S38) : Bool := !(e.f1 == mode && decide (e.f0 = nm))
theorem erase_filter : ∀ (X : List S38), X.Pairwise (fun a b => nmLt a.f0 b.f0 = true) → ∀ (i : Nat) (nm : ByteArray), i < X.length → (rd_T38 X (i : Int)).f0 = nm → X.eraseIdx i = X.filter (fun e => !decide (e.f0 = nm))
 | [], _, i, _, hi, _ => absurd hi (Nat.not_lt_zero i)
 | e :: X, hp, 0, nm, _, hn => by
  obtain ⟨h1, h2⟩ := List.pairwise_cons.1 hp
  have hn : e.f0 = nm := hn
  rw [List.eraseIdx_cons_zero, List.filter_cons_of_neg (by simp [hn])]
  refine (List.filter_eq_self.2 (fun x hx => ?_)).symm
  have := nm_ne (h1 x hx)
  rw [hn] at this
  simp [Ne.symm this]
 | e :: X, hp, i + 1, nm, hi, hn => by
  obtain ⟨h1, h2⟩ := List.pairwise_cons.1 hp
  have hl : i < X.length := by simp at hi; omega
  rw [rd_cons_succ] at hn
  have := nm_ne (h1 _ (rd_ent X i hl))
  rw [hn] at this
  rw [List.eraseIdx_cons_succ, List.filter_cons_of_pos (by simp [this]), erase_filter X h2 i nm hl hn]
theorem tonDrop_eq (L : List S38) (mode : Int) (nm : ByteArray) : tonDrop L mode nm = if tonOk L = true then (if (L.filter (notE mode nm)).length = L.length then ([], false) else (L.filter (notE mode nm), true)) else ([], false) := by
 unfold tonDrop
 by_cases hk : tonOk L = true
 ·
  rw [if_pos hk, if_pos hk]
  obtain ⟨hlen, hok, hs⟩ := (tonOk_iff L).1 hk
  have hp := srt_names hs mode
  obtain ⟨X, hX⟩ : ∃ X, X = L.filter (fun e => e.f1 == mode) := ⟨_, rfl⟩
  rw [← hX] at hp ⊢
  by_cases hh : nmHas X nm = true
  ·
   rw [if_pos hh]
   obtain ⟨e, he, hn⟩ := (nmHas_iff hp nm).1 hh
   rw [hX, List.mem_filter] at he
   have hne : ¬ (L.filter (notE mode nm)).length = L.length := fun h => by
    have := List.length_filter_eq_length_iff.1 h e he.1
    unfold notE at this
    rw [he.2, hn] at this
    simp at this
   rw [if_neg hne]
   unfold nmHas at hh
   rw [Bool.and_eq_true] at hh
   have herase := erase_filter X hp (nmAt X nm) nm (of_decide_eq_true hh.1) (of_decide_eq_true hh.2)
   rw [herase]
   have hsub : (L.filter (notE mode nm)).Sublist L := List.filter_sublist
   refine Prod.ext ?_ rfl
   refine (catM_cong 8 (fun k h1 h2 => ?_)).trans (catM_eq (List.Pairwise.sublist hsub hs) (fun e he => entOk_mode (hok e (hsub.subset he))))
   rw [List.filter_filter]
   by_cases e : k = mode
   ·
    subst e
    rw [if_pos rfl, hX, List.filter_filter]
    refine List.filter_congr fun x _ => ?_
    unfold notE
    cases x.f1 == k <;> simp
   ·
    rw [if_neg e]
    refine List.filter_congr fun x _ => ?_
    unfold notE
    by_cases e2 : x.f1 = k
    ·
     have : ¬ k = mode := e
     simp [e2, this]
    ·
     simp [e2]
  ·
   rw [if_neg hh]
   have hall : (L.filter (notE mode nm)).length = L.length := by
    refine List.length_filter_eq_length_iff.2 fun e he => ?_
    unfold notE
    by_cases h1 : e.f1 = mode
    ·
     have : ¬ e.f0 = nm := fun h2 => hh ((nmHas_iff hp nm).2 ⟨e, by rw [hX, List.mem_filter]; exact ⟨he, by simp [h1]⟩, h2⟩)
     simp [this]
    ·
     simp [h1]
   rw [if_pos hall]
 ·
  rw [if_neg hk, if_neg hk]

end Go.Proofs.YtmacedbpdhkagaaDoor.Pure
namespace Go.Proofs.YtmacedbpdhkagaaDoor.PFnTonaryDrop
set_option linter.unusedVariables false
set_option linter.unusedSimpArgs false
open Go Go.RowKit Go.Proofs.YtmacedbpdhkagaaDoor.Pure Go.Proofs.YtmacedbpdhkagaaDoorW.PrintWords Go.Proofs.YtmacedbpdhkagaaDoorW.PrintLast Go.Proofs.YtmacedbpdhkagaaDoorW.PrintMore
def impl_TonaryDrop.f (l0 : List S38) (a1 : Int) (a2 : ByteArray) : Option (List S38 × Bool) := if entSz l0 = true then some (tonDrop l0 a1 a2) else none
theorem impl_TonaryDrop.calls (A0 : Option Addr) (c0 : Nat) (l0 : List S38) (a1 : Int) (a2 : ByteArray) (r1 : List S38) (r2 : Bool) (w : World) (ht : MTab w) (hr0 : Kd.C k38 w A0 l0.length l0) (hc0 : l0.length ≤ c0) (h : impl_TonaryDrop.f l0 a1 a2 = some (r1, r2)) :
 Calls Tryd.prog 27 #[.slice A0 l0.length c0, .int .i64 a1, .string a2] w fun e w' => ∃ v0_ : Value, e = .returned (.tuple #[v0_, .bool r2]) ∧ Kd.S k38 38 w' w.heap.size (fun _ => True) v0_ r1 ∧ Below w.heap.size w w' := by
 unfold impl_TonaryDrop.f at h; split at h
 ·
  rename_i hh
  injection h with h
  have := impl_TonaryDrop_calls l0 a1 a2 A0 c0 w ht hr0 hc0 hh; rw [h] at this; exact this
 ·
  cases h

end Go.Proofs.YtmacedbpdhkagaaDoor.PFnTonaryDrop
namespace Go.Proofs.YtmacedbpdhkagaaDoor.PFnTonaryDrop
open Go.RowKit Go.Proofs.YtmacedbpdhkagaaDoorW.PrintWords Go.Proofs.YtmacedbpdhkagaaDoorW.PrintLast Go.Proofs.YtmacedbpdhkagaaDoorW.PrintMore
attribute [local go_sem] max2_int min2_int max_two min_two max_three min_three max_four min_four   -- for this text's walks alone
set_option linter.unusedVariables false
set_option linter.unusedSimpArgs false

/-- A state of type 112 at block g of W; what its slices lead to came in by w0. -/
def IsS112 (w0 W : World) (g : Nat) (f0 : List Int) (f1 : Int) : Prop := ∃ A0 c0, W.heap[g]? = some (.cells #[.slice A0 f0.length c0, .int .i64 f1] 112 (0, 0)) ∧ w0.heap.size ≤ g ∧ Kd.C (Kd.int .u8) w0 A0 f0.length f0
theorem IsS112.grown {w0 W : World} {g : Nat} {f0 : List Int} {f1 : Int} {W1 : World} {row : Option Nat} (h : IsS112 w0 W g f0 f1) (hw : W.grownBy W1 row) (hne : some g ≠ row) : IsS112 w0 W1 g f0 f1 := by
 obtain ⟨A0, c0, hb, hg, hr0⟩ := h; exact ⟨A0, c0, blk_grown hb hw hne, hg, hr0⟩
theorem IsS112.own_neN {w0 W : World} {g : Nat} {f0 : List Int} {f1 : Int} {α : Type} {d : Kd α} {e : Nat} {base : Nat} {ok : Nat → Prop} {v : Value} {xs : List α} (h : IsS112 w0 W g f0 f1) (ho : Kd.N d e W base ok v xs) (ht : e ≠ 112) : some g ≠ v.ownBlock := by
 obtain ⟨A0, c0, hb, hg, hr0⟩ := h; exact Kd.N_ne ho hb ht
theorem IsS112.fresh {w0 W : World} {g : Nat} {f0 : List Int} {f1 : Int} (h : IsS112 w0 W g f0 f1) : ∀ k, W.heap.size ≤ k → k ≠ g := by
 obtain ⟨A0, c0, hb, hg, hr0⟩ := h; exact Kd.freshB hb
theorem IsS112.below {w0 W : World} {g : Nat} {f0 : List Int} {f1 : Int} {W1 : World} (h : IsS112 w0 W g f0 f1) (hw : Below W.heap.size W W1) : IsS112 w0 W1 g f0 f1 := h.grown (grown_of_below hw none) (by simp)
theorem IsS112.drewN {w0 W : World} {g : Nat} {f0 : List Int} {f1 : Int} (h : IsS112 w0 W g f0 f1) (m : Nat) : IsS112 w0 (W.drewN m) g f0 f1 := h
theorem IsS112.apart {w0 W : World} {g : Nat} {f0 : List Int} {f1 : Int} {α : Type} {d : Kd α} {e : Nat} {base : Nat} {ok : Nat → Prop} {v : Value} {xs : List α} (h : IsS112 w0 W g f0 f1) (ho : d.R e W base ok v xs) (ht : ∀ q, q ∈ e :: d.E → q ≠ 112) : d.R e W base (fun k => ok k ∧ k ≠ g) v xs := by
 obtain ⟨A0, c0, hb, hg, hr0⟩ := h; exact Kd.R_types ho hb ht
theorem IsS112.own_ne {w0 W : World} {g : Nat} {f0 : List Int} {f1 : Int} {α : Type} {d : Kd α} {e : Nat} {base : Nat} {ok : Nat → Prop} {v : Value} {xs : List α} (h : IsS112 w0 W g f0 f1) (ho : d.R e W base ok v xs) (ht : e ≠ 112) : some g ≠ v.ownBlock := by
 obtain ⟨A0, c0, hb, hg, hr0⟩ := h; exact Kd.R_ne ho hb ht
theorem IsS112.lt {w0 W : World} {g : Nat} {f0 : List Int} {f1 : Int} (h : IsS112 w0 W g f0 f1) : g < W.heap.size := by
 obtain ⟨A0, c0, hb, hg, hr0⟩ := h; exact blk_lt hb
theorem IsS112.ge {w0 W : World} {g : Nat} {f0 : List Int} {f1 : Int} (h : IsS112 w0 W g f0 f1) : w0.heap.size ≤ g := by
 obtain ⟨A0, c0, hb, hg, hr0⟩ := h; exact hg
theorem IsS112.far {w0 W : World} {g : Nat} {f0 : List Int} {f1 : Int} {p : Addr} (h : IsS112 w0 W g f0 f1) (hne : g ≠ p.block) (u : Value) : IsS112 w0 (W.setCell p u) g f0 f1 := by
 obtain ⟨A0, c0, hb, hg, hr0⟩ := h; exact ⟨A0, c0, blk_far hb hne u, hg, hr0⟩
theorem cellS112_0 {W : World} {g : Nat} {A0 : Option Addr} {c0 : Nat} {f0 : List Int} {f1 : Int} (h : W.heap[g]? = some (.cells #[.slice A0 f0.length c0, .int .i64 f1] 112 (0, 0))) : W.cell? ⟨g, 0, none⟩ = some (.slice A0 f0.length c0) := (blk_cell h 0).trans rfl
theorem cellS112_1 {W : World} {g : Nat} {A0 : Option Addr} {c0 : Nat} {f0 : List Int} {f1 : Int} (h : W.heap[g]? = some (.cells #[.slice A0 f0.length c0, .int .i64 f1] 112 (0, 0))) : W.cell? ⟨g, 1, none⟩ = some (.int .i64 f1) := (blk_cell h 1).trans rfl
theorem IsS112.set_1 {w0 W : World} {g : Nat} {f0 : List Int} {f1 : Int} (h : IsS112 w0 W g f0 f1) (x : Int) : IsS112 w0 (W.setCell ⟨g, 1, none⟩ (.int .i64 x)) g f0 x := by
 obtain ⟨A0, c0, hb, hg, hr0⟩ := h; exact ⟨A0, c0, by simpa using blk_set hb 1 (.int .i64 x), hg, hr0⟩
def spec_l6Open.f (l0 : List Int) : Option (List Int × Int) := if (l0.length : Int) > 2000 then (if 2000 ≤ (l0.length : Int) then (some (l0.take 2000, 0)) else (none)) else (some (l0, 0))
set_option maxHeartbeats 8000000 in
set_option maxRecDepth 100000 in
theorem spec_l6Open.calls (A0 : Option Addr) (c0 : Nat) (l0 : List Int) (r1 : List Int) (r2 : Int) (w0 w : World) (hB : Below w0.heap.size w0 w) (hr0 : Kd.C (Kd.int .u8) w0 A0 l0.length l0) (hc0 : l0.length ≤ c0) (h : spec_l6Open.f l0 = some (r1, r2)) :
 Calls Tryd.prog 61 #[.slice A0 l0.length c0] w fun e w' => ∃ g_ : Nat, e = .returned (.pointer (some ⟨g_, 0, none⟩)) ∧ IsS112 w0 w' g_ r1 r2 ∧ Below w0.heap.size w0 w' ∧ Below w.heap.size w w' := by
 have hu112 := Tryd.underlying112; have HR0 := Aside0.mk hr0; have HC0 := Aside0.mk hc0; clear hr0 hc0; have HBW := Aside0.mk (Below.refl w.heap.size w); have HW0 := Aside0.mk hB.size; have HB := Aside0.mk hB; clear hB; have H : (if (l0.length : Int) > 2000 then (if 2000 ≤ (l0.length : Int) then (some (l0.take 2000, 0)) else (none)) else (some (l0, 0))) = some (r1, r2) := h; clear h; by_cases c2 : (l0.length : Int) > 2000
 ·
  rw [if_pos c2] at H; have c2b0 : decide (2000 < (l0.length : Int)) = true := decide_eq_true c2; have c2b1 : decide (2000 < l0.length) = true := decide_eq_true (by omega); clear c2; by_cases c3 : 2000 ≤ (l0.length : Int)
  ·
   rw [if_pos c3] at H; have c3b0 := eq_true c3; have c3b1 : decide (2000 ≤ (l0.length : Int)) = true := decide_eq_true c3; clear c3; simp only [Option.some.injEq, Prod.mk.injEq] at H; obtain ⟨rfl, rfl⟩ := H; obtain ⟨i04, hi04, _, hsz4, _⟩ := info_parts info5; obtain ⟨hcut4, hA4, hC4⟩ := print_take_of (P := Tryd.prog) (Value.int .u8) 0 33 5 .i64 Tryd.underlying33 hi04 hsz4 A0 c0 l0 2000 (by omega) (of_decide_eq_true (by first | (with_reducible assumption) | assumption)) HC0.out; have HR197 := Aside0.mk (Kd.C_of_reads (h1 := fun _ => rfl) (hA4 _ (Kd.reads_of_C HR0.out))); have HC197 := Aside0.mk hC4; clear hA4 hC4 hi04 hsz4; go_enter Tryd.func61, Tryd.ntmps61
   go_wp2_with (first | ((with_reducible refine gate_dst (N := 10) rfl ?_); refine box_event ?hg (N := 10) ?hd (cs := #[.slice A0 (l0.take 2000).length c0, .int .i64 0]) (t := 112) ?hr ?_; (case hd => rfl); (case hg => rfl); (case hr => first | (go_simp; done) | (go_simp; rfl)); intro gb198 hg w5 hbox hb; have n0_ := Aside0.mk (below_step HBW.out hb); have n1_ := Aside0.mk (below_step (by repeat (first | (with_reducible first | exact HB.out | apply below_alloc | apply pw_below_drewN | apply below_drew1) | exact HB.out)) hb); have n2_ := Aside0.mk (hbox); have n3_ := Aside0.mk ((by rw [hg]; exact (below_size (by repeat (first | (with_reducible first | exact HBW.out | apply below_alloc | apply pw_below_drewN | apply below_drew1) | exact HBW.out))) : w.heap.size ≤ gb198)); have n4_ := Aside0.mk ((Nat.le_trans HW0.out (by rw [hg]; exact (below_size (by repeat (first | (with_reducible first | exact HBW.out | apply below_alloc | apply pw_below_drewN | apply below_drew1) | exact HBW.out))) : w.heap.size ≤ gb198) : w0.heap.size ≤ gb198)); clear HBW; clear HB; have HBW := n0_; have HB := n1_; have BK198 := n2_; have GW198 := n3_; have GE198 := n4_; clear n0_ n1_ n2_ n3_ n4_; clear hb hbox hg))
   go_ret
   exact ⟨_, rfl, (show IsS112 w0 _ gb198 (l0.take 2000) 0 from ⟨_, _, by (with_reducible repeat (first | refine blk_drewN ?_ _ | refine blk_drew ?_ | refine blk_alloc ?_ _)); exact BK198.out, GE198.out, HR197.out⟩), by repeat (first | (with_reducible first | exact HB.out | apply below_alloc | apply pw_below_drewN | apply below_drew1 | refine below_set ?_ GE198.out) | exact HB.out), by repeat (first | (with_reducible first | exact HBW.out | apply below_alloc | apply pw_below_drewN | apply below_drew1 | refine below_set ?_ GW198.out) | exact HBW.out)⟩
  ·
   rw [if_neg c3] at H; exact absurd H (by simp)
 ·
  rw [if_neg c2] at H; have c2b0 : decide (2000 < (l0.length : Int)) = false := decide_eq_false c2; have c2b1 : decide (2000 < l0.length) = false := decide_eq_false (by omega); clear c2; simp only [Option.some.injEq, Prod.mk.injEq] at H; obtain ⟨rfl, rfl⟩ := H; go_enter Tryd.func61, Tryd.ntmps61
  go_wp2_with (first | ((with_reducible refine gate_dst (N := 10) rfl ?_); refine box_event ?hg (N := 10) ?hd (cs := #[.slice A0 l0.length c0, .int .i64 0]) (t := 112) ?hr ?_; (case hd => rfl); (case hg => rfl); (case hr => first | (go_simp; done) | (go_simp; rfl)); intro gb199 hg w6 hbox hb; have n0_ := Aside0.mk (below_step HBW.out hb); have n1_ := Aside0.mk (below_step (by repeat (first | (with_reducible first | exact HB.out | apply below_alloc | apply pw_below_drewN | apply below_drew1) | exact HB.out)) hb); have n2_ := Aside0.mk (hbox); have n3_ := Aside0.mk ((by rw [hg]; exact (below_size (by repeat (first | (with_reducible first | exact HBW.out | apply below_alloc | apply pw_below_drewN | apply below_drew1) | exact HBW.out))) : w.heap.size ≤ gb199)); have n4_ := Aside0.mk ((Nat.le_trans HW0.out (by rw [hg]; exact (below_size (by repeat (first | (with_reducible first | exact HBW.out | apply below_alloc | apply pw_below_drewN | apply below_drew1) | exact HBW.out))) : w.heap.size ≤ gb199) : w0.heap.size ≤ gb199)); clear HBW; clear HB; have HBW := n0_; have HB := n1_; have BK199 := n2_; have GW199 := n3_; have GE199 := n4_; clear n0_ n1_ n2_ n3_ n4_; clear hb hbox hg))
  go_ret
  exact ⟨_, rfl, (show IsS112 w0 _ gb199 l0 0 from ⟨_, _, by (with_reducible repeat (first | refine blk_drewN ?_ _ | refine blk_drew ?_ | refine blk_alloc ?_ _)); exact BK199.out, GE199.out, HR0.out⟩), by repeat (first | (with_reducible first | exact HB.out | apply below_alloc | apply pw_below_drewN | apply below_drew1 | refine below_set ?_ GE199.out) | exact HB.out), by repeat (first | (with_reducible first | exact HBW.out | apply below_alloc | apply pw_below_drewN | apply below_drew1 | refine below_set ?_ GW199.out) | exact HBW.out)⟩

end Go.Proofs.YtmacedbpdhkagaaDoor.PFnTonaryDrop
namespace Go.Proofs.YtmacedbpdhkagaaDoor.PFnTonaryDrop
open Go.RowKit Go.Proofs.YtmacedbpdhkagaaDoorW.PrintWords Go.Proofs.YtmacedbpdhkagaaDoorW.PrintLast Go.Proofs.YtmacedbpdhkagaaDoorW.PrintMore
attribute [local go_sem] max2_int min2_int max_two min_two max_three min_three max_four min_four   -- for this text's walks alone
set_option linter.unusedVariables false
set_option linter.unusedSimpArgs false

def spec_l6Rd_pick.j0 : Nat → Int → Bool → List Int → Int → Option (Int × Int)
 | 0, _, _, _, _ => none
 | k + 1, x1, x24, x1000, x1001 => if x24 = true then (some (0, x1001)) else (if (wrap64 (x1001 - 1)) < (x1000.length : Int) then (if 0 ≤ (wrap64 (x1001 - 1)) then (if x1 = 0 then (none) else (some (Int.tmod (wrap64 (rd x1000 (wrap64 (x1001 - 1)))) x1, x1001))) else (none)) else (if (x1000.length : Int) = 0 then (none) else (if 0 ≤ (Int.tmod (wrap64 (x1001 - 1)) (x1000.length : Int)) then (if (Int.tmod (wrap64 (x1001 - 1)) (x1000.length : Int)) < (x1000.length : Int) then (if 0 ≤ (Int.tmod (wrap64 ((wrap64 ((wrap64 (x1001 - 1)) * 7)) + 3)) (x1000.length : Int)) then (if (Int.tmod (wrap64 ((wrap64 ((wrap64 (x1001 - 1)) * 7)) + 3)) (x1000.length : Int)) < (x1000.length : Int) then (if x1 = 0 then (none) else (some (Int.tmod (Go.bits .xor .i64 (wrap64 ((wrap64 ((wrap64 ((wrap64 ((wrap64 (rd x1000 (Int.tmod (wrap64 (x1001 - 1)) (x1000.length : Int)))) * 131)) + (wrap64 ((wrap64 (rd x1000 (Int.tmod (wrap64 ((wrap64 ((wrap64 (x1001 - 1)) * 7)) + 3)) (x1000.length : Int)))) * 1117)))) + (wrap64 ((wrap64 (x1001 - 1)) * 29)))) + (wrap64 ((wrap64 (Int.tdiv (wrap64 (x1001 - 1)) (x1000.length : Int))) * 53)))) (wrap64 (Int.tdiv (wrap64 ((wrap64 ((wrap64 ((wrap64 ((wrap64 (rd x1000 (Int.tmod (wrap64 (x1001 - 1)) (x1000.length : Int)))) * 131)) + (wrap64 ((wrap64 (rd x1000 (Int.tmod (wrap64 ((wrap64 ((wrap64 (x1001 - 1)) * 7)) + 3)) (x1000.length : Int)))) * 1117)))) + (wrap64 ((wrap64 (x1001 - 1)) * 29)))) + (wrap64 ((wrap64 (Int.tdiv (wrap64 (x1001 - 1)) (x1000.length : Int))) * 53)))) 64))) x1, x1001))) else (none)) else (none)) else (none)) else (none))))
def spec_l6Rd_pick.f (k : Nat) (s0_0 : List Int) (s0_1 : Int) (a1 : Int) : Option (Int × Int) := if a1 < 1 then (spec_l6Rd_pick.j0 k a1 true s0_0 (wrap64 (s0_1 + 1))) else (spec_l6Rd_pick.j0 k a1 ((s0_0.length : Int) == 0) s0_0 (wrap64 (s0_1 + 1)))
set_option maxHeartbeats 8000000 in
set_option maxRecDepth 100000 in
theorem spec_l6Rd_pick.calls (k : Nat) (g : Nat) (s0_0 : List Int) (s0_1 : Int) (a1 : Int) (r1 : Int) (r2 : Int) (w0 w : World) (hI : IsS112 w0 w g s0_0 s0_1) (hB : Below w0.heap.size w0 w) (h : spec_l6Rd_pick.f k s0_0 s0_1 a1 = some (r1, r2)) :
 Calls Tryd.prog 63 #[.pointer (some ⟨g, 0, none⟩), .int .i64 a1] w fun e w' => e = .returned (.int .i64 r1) ∧ IsS112 w0 w' g s0_0 r2 ∧ Below w0.heap.size w0 w' ∧ KeepBut w w' g none := by
 have HI0 := Aside0.mk hI; have HK := Aside0.mk (KeepBut.refl w g none); have HL := Aside0.mk hB.size; clear hI; have HW0 := Aside0.mk hB.size; have HB := Aside0.mk hB; clear hB; have H : (if a1 < 1 then (spec_l6Rd_pick.j0 k a1 true s0_0 (wrap64 (s0_1 + 1))) else (spec_l6Rd_pick.j0 k a1 ((s0_0.length : Int) == 0) s0_0 (wrap64 (s0_1 + 1)))) = some (r1, r2) := h; clear h; have HC3 := Aside0.mk H; clear H; obtain ⟨ASz4_0, cSz4_0, HGz4, hgz4, HSz4_0⟩ := HI0.out; have hcz4_0 := cellS112_0 HGz4; have hcz4_1 := cellS112_1 HGz4; have hfz4_1 := blk_frozen HGz4 1; clear HGz4 hgz4; go_enter Tryd.func63, Tryd.ntmps63
 go_upto_region 2 with (fail)
 repeat (go_quiet (fail); go_upto_region 2 with (fail))
 go_cut [24] (fun v24 wc => ∃ (kq : Nat) (x24_2 : Bool), v24 = .bool x24_2 ∧ Aside0 (spec_l6Rd_pick.j0 kq a1 x24_2 s0_0 (wrap64 (s0_1 + 1)) = some (r1, r2)) ∧ Aside0 (kq ≤ k) ∧ Aside0 (IsS112 w0 wc g s0_0 (wrap64 (s0_1 + 1))) ∧ Aside0 (KeepBut w wc g none) ∧ Aside0 (Below w0.heap.size w0 wc))
 case first =>
  have H := HC3.out; clear HC3; by_cases c5 : a1 < 1
  ·
   rw [if_pos c5] at H; have c5b0 : decide (a1 < 1) = true := decide_eq_true c5; clear c5; (first | rw [c5b0] | (simp only [i64_w, i32_w]; rw [c5b0]) | skip)
   have H' := Aside0.mk H; clear H; go_wp2; repeat (go_quiet (fail); try go_wp2)
   go_meet
   case rel => exact ⟨_, (true), (by first | rfl | (simp; done) | (simp [*]; done)), H', ⟨by first | omega | exact Nat.le_refl _⟩, ⟨by repeat (first | (with_reducible first | exact HI0.out | apply IsS112.alloc | apply IsS112.drewN | apply IsS112.drew | apply IsS112.set_1) | exact HI0.out)⟩, ⟨by repeat (first | (with_reducible first | exact HK.out | apply KeepBut.set_ | apply keep_drewN | apply keep_drew | apply keep_alloc) | exact HK.out)⟩, ⟨by repeat (first | (with_reducible first | exact HB.out | apply below_alloc | apply pw_below_drewN | apply below_drew1 | refine below_set ?_ (IsS112.ge HI0.out)) | exact HB.out)⟩⟩
  ·
   rw [if_neg c5] at H; have c5b0 : decide (a1 < 1) = false := decide_eq_false c5; clear c5; (first | rw [c5b0] | (simp only [i64_w, i32_w]; rw [c5b0]) | skip)
   have H' := Aside0.mk H; clear H; obtain ⟨ASz6_0, cSz6_0, HGz6, hgz6, HSz6_0⟩ := HI0.out; have hcz6_0 := cellS112_0 HGz6; have hcz6_1 := cellS112_1 HGz6; have hfz6_1 := blk_frozen HGz6 1; clear HGz6 hgz6; go_wp2; repeat (go_quiet (fail); try go_wp2)
   go_meet
   case rel => exact ⟨_, (((s0_0.length : Int) == 0)), (by first | rfl | (simp; done) | (simp [*]; done)), H', ⟨by first | omega | exact Nat.le_refl _⟩, ⟨by repeat (first | (with_reducible first | exact HI0.out | apply IsS112.alloc | apply IsS112.drewN | apply IsS112.drew | apply IsS112.set_1) | exact HI0.out)⟩, ⟨by repeat (first | (with_reducible first | exact HK.out | apply KeepBut.set_ | apply keep_drewN | apply keep_drew | apply keep_alloc) | exact HK.out)⟩, ⟨by repeat (first | (with_reducible first | exact HB.out | apply below_alloc | apply pw_below_drewN | apply below_drew1 | refine below_set ?_ (IsS112.ge HI0.out)) | exact HB.out)⟩⟩
 case rest =>
  clear HC3; try clear p2
  try clear c5
  try clear c5b0
  try clear c6
  try clear p6
  try clear hcz4_0
  try clear hcz4_1
  try clear hcz6_0
  try clear hcz6_1
  try clear hfz4_1
  try clear hfz6_1
  obtain ⟨kq, x24_2, rfl, HA, HJ2, HI0, HK, HB⟩ := hcut; cases kq with
  | zero => exact absurd HA.out (by simp [spec_l6Rd_pick.j0])
  | succ kj2 =>
   have H := HA.out; clear HA; simp only [spec_l6Rd_pick.j0] at H; by_cases c7 : x24_2 = true
   ·
    subst c7; have H1 : (some (0, (wrap64 (s0_1 + 1)))) = some (r1, r2) := by rw [if_pos rfl] at H; exact H
    clear H; have H := H1; clear H1; simp only [Option.some.injEq, Prod.mk.injEq] at H; obtain ⟨rfl, rfl⟩ := H; go_wp2; repeat (go_quiet (fail); try go_wp2)
    go_ret
    exact ⟨by first | rfl | (simp [errW_none, errW_some] <;> rfl) | (simp [*, errW_none, errW_some] <;> rfl), by repeat (first | (with_reducible first | exact HI0.out | apply IsS112.alloc | apply IsS112.drewN | apply IsS112.drew | apply IsS112.set_1) | exact HI0.out), by repeat (first | (with_reducible first | exact HB.out | apply below_alloc | apply pw_below_drewN | apply below_drew1 | refine below_set ?_ (IsS112.ge HI0.out)) | exact HB.out), by repeat (first | (with_reducible first | exact HK.out | apply KeepBut.set_ | apply keep_drewN | apply keep_drew | apply keep_alloc) | exact HK.out)⟩
   ·
    replace c7 := Bool.eq_false_iff.mpr c7; subst c7; have H1 : (if (wrap64 ((wrap64 (s0_1 + 1)) - 1)) < (s0_0.length : Int) then (if 0 ≤ (wrap64 ((wrap64 (s0_1 + 1)) - 1)) then (if a1 = 0 then (none) else (some (Int.tmod (wrap64 (rd s0_0 (wrap64 ((wrap64 (s0_1 + 1)) - 1)))) a1, (wrap64 (s0_1 + 1))))) else (none)) else (if (s0_0.length : Int) = 0 then (none) else (if 0 ≤ (Int.tmod (wrap64 ((wrap64 (s0_1 + 1)) - 1)) (s0_0.length : Int)) then (if (Int.tmod (wrap64 ((wrap64 (s0_1 + 1)) - 1)) (s0_0.length : Int)) < (s0_0.length : Int) then (if 0 ≤ (Int.tmod (wrap64 ((wrap64 ((wrap64 ((wrap64 (s0_1 + 1)) - 1)) * 7)) + 3)) (s0_0.length : Int)) then (if (Int.tmod (wrap64 ((wrap64 ((wrap64 ((wrap64 (s0_1 + 1)) - 1)) * 7)) + 3)) (s0_0.length : Int)) < (s0_0.length : Int) then (if a1 = 0 then (none) else (some (Int.tmod (Go.bits .xor .i64 (wrap64 ((wrap64 ((wrap64 ((wrap64 ((wrap64 (rd s0_0 (Int.tmod (wrap64 ((wrap64 (s0_1 + 1)) - 1)) (s0_0.length : Int)))) * 131)) + (wrap64 ((wrap64 (rd s0_0 (Int.tmod (wrap64 ((wrap64 ((wrap64 ((wrap64 (s0_1 + 1)) - 1)) * 7)) + 3)) (s0_0.length : Int)))) * 1117)))) + (wrap64 ((wrap64 ((wrap64 (s0_1 + 1)) - 1)) * 29)))) + (wrap64 ((wrap64 (Int.tdiv (wrap64 ((wrap64 (s0_1 + 1)) - 1)) (s0_0.length : Int))) * 53)))) (wrap64 (Int.tdiv (wrap64 ((wrap64 ((wrap64 ((wrap64 ((wrap64 (rd s0_0 (Int.tmod (wrap64 ((wrap64 (s0_1 + 1)) - 1)) (s0_0.length : Int)))) * 131)) + (wrap64 ((wrap64 (rd s0_0 (Int.tmod (wrap64 ((wrap64 ((wrap64 ((wrap64 (s0_1 + 1)) - 1)) * 7)) + 3)) (s0_0.length : Int)))) * 1117)))) + (wrap64 ((wrap64 ((wrap64 (s0_1 + 1)) - 1)) * 29)))) + (wrap64 ((wrap64 (Int.tdiv (wrap64 ((wrap64 (s0_1 + 1)) - 1)) (s0_0.length : Int))) * 53)))) 64))) a1, (wrap64 (s0_1 + 1))))) else (none)) else (none)) else (none)) else (none)))) = some (r1, r2) := by rw [if_neg (show ¬ (false = true) by decide)] at H; exact H
    clear H; have H := H1; clear H1; by_cases c8 : (wrap64 ((wrap64 (s0_1 + 1)) - 1)) < (s0_0.length : Int)
    ·
     rw [if_pos c8] at H; have c8b0 : decide ((wrap64 ((wrap64 (s0_1 + 1)) - 1)) < (s0_0.length : Int)) = true := decide_eq_true c8; clear c8; obtain ⟨ji9, hji9⟩ : ∃ j_ : Int, (wrap64 ((wrap64 (s0_1 + 1)) - 1)) = j_ := ⟨_, rfl⟩
     replace H : (if 0 ≤ (ji9) then (if a1 = 0 then (none) else (some (Int.tmod (wrap64 (rd s0_0 (ji9))) a1, (wrap64 (s0_1 + 1))))) else (none)) = some (r1, r2) := by first | (rw [hji9] at H; exact H) | (simp only [hji9] at H ⊢; exact H)
     (try rw [hji9] at c8b0)
     have hji9w : (IntKind.i64.wrap ((wrap64 (s0_1 + 1)) - 1)) = ji9 := (i64_w _).trans hji9; by_cases c10 : 0 ≤ (ji9)
     ·
      rw [if_pos c10] at H; have c10b0 : decide (0 ≤ (ji9)) = true := decide_eq_true c10; clear c10; by_cases c11 : a1 = 0
      ·
       rw [if_pos c11] at H; exact absurd H (by simp)
      ·
       rw [if_neg c11] at H; have c11b0 : (a1 == 0) = false := beq_eq_false_iff_ne.mpr c11; have c11b1 : (a1 != 0) = true := bne_iff_ne.mpr c11; simp only [Option.some.injEq, Prod.mk.injEq] at H; obtain ⟨rfl, rfl⟩ := H; obtain ⟨ASz12_0, cSz12_0, HGz12, hgz12, HSz12_0⟩ := HI0.out; have hcz12_0 := cellS112_0 HGz12; have hcz12_1 := cellS112_1 HGz12; have hfz12_1 := blk_frozen HGz12 1; clear HGz12 hgz12; have p249 : 0 ≤ ((ji9) : Int) := of_decide_eq_true (by first | (with_reducible assumption) | assumption); have q249 : (ji9) < (s0_0.length : Int) := of_decide_eq_true (by first | (with_reducible assumption) | assumption); obtain ⟨ad249, e249, hx249_0⟩ := Kd.at_int HSz12_0 (ji9) p249 q249; cases e249; replace hx249_0 := pw_cell_below HB.out hx249_0; replace p249 := eq_true p249; replace q249 := eq_true q249; go_wp2; repeat (go_quiet (fail); try go_wp2)
       go_ret
       exact ⟨by first | rfl | (simp [errW_none, errW_some] <;> rfl) | (simp only [← hji9]; first | rfl | (simp [errW_none, errW_some] <;> rfl)) | (simp [*, errW_none, errW_some] <;> rfl), by repeat (first | (with_reducible first | exact HI0.out | apply IsS112.alloc | apply IsS112.drewN | apply IsS112.drew | apply IsS112.set_1) | exact HI0.out), by repeat (first | (with_reducible first | exact HB.out | apply below_alloc | apply pw_below_drewN | apply below_drew1 | refine below_set ?_ (IsS112.ge HI0.out)) | exact HB.out), by repeat (first | (with_reducible first | exact HK.out | apply KeepBut.set_ | apply keep_drewN | apply keep_drew | apply keep_alloc) | exact HK.out)⟩
     ·
      rw [if_neg c10] at H; exact absurd H (by simp)
    ·
     rw [if_neg c8] at H; have c8b0 : decide ((wrap64 ((wrap64 (s0_1 + 1)) - 1)) < (s0_0.length : Int)) = false := decide_eq_false c8; clear c8; by_cases c13 : (s0_0.length : Int) = 0
     ·
      rw [if_pos c13] at H; exact absurd H (by simp)
     ·
      rw [if_neg c13] at H; have c13b0 : ((s0_0.length : Int) == 0) = false := beq_eq_false_iff_ne.mpr c13; have c13b1 : ((s0_0.length : Int) != 0) = true := bne_iff_ne.mpr c13; have c13b2 : ¬ (s0_0 = []) := fun h_ => c13 (by rw [h_]; rfl)
      obtain ⟨ji14, hji14⟩ : ∃ j_ : Int, (Int.tmod (wrap64 ((wrap64 (s0_1 + 1)) - 1)) (s0_0.length : Int)) = j_ := ⟨_, rfl⟩
      replace H : (if 0 ≤ (ji14) then (if (ji14) < (s0_0.length : Int) then (if 0 ≤ (Int.tmod (wrap64 ((wrap64 ((wrap64 ((wrap64 (s0_1 + 1)) - 1)) * 7)) + 3)) (s0_0.length : Int)) then (if (Int.tmod (wrap64 ((wrap64 ((wrap64 ((wrap64 (s0_1 + 1)) - 1)) * 7)) + 3)) (s0_0.length : Int)) < (s0_0.length : Int) then (if a1 = 0 then (none) else (some (Int.tmod (Go.bits .xor .i64 (wrap64 ((wrap64 ((wrap64 ((wrap64 ((wrap64 (rd s0_0 (ji14))) * 131)) + (wrap64 ((wrap64 (rd s0_0 (Int.tmod (wrap64 ((wrap64 ((wrap64 ((wrap64 (s0_1 + 1)) - 1)) * 7)) + 3)) (s0_0.length : Int)))) * 1117)))) + (wrap64 ((wrap64 ((wrap64 (s0_1 + 1)) - 1)) * 29)))) + (wrap64 ((wrap64 (Int.tdiv (wrap64 ((wrap64 (s0_1 + 1)) - 1)) (s0_0.length : Int))) * 53)))) (wrap64 (Int.tdiv (wrap64 ((wrap64 ((wrap64 ((wrap64 ((wrap64 (rd s0_0 (ji14))) * 131)) + (wrap64 ((wrap64 (rd s0_0 (Int.tmod (wrap64 ((wrap64 ((wrap64 ((wrap64 (s0_1 + 1)) - 1)) * 7)) + 3)) (s0_0.length : Int)))) * 1117)))) + (wrap64 ((wrap64 ((wrap64 (s0_1 + 1)) - 1)) * 29)))) + (wrap64 ((wrap64 (Int.tdiv (wrap64 ((wrap64 (s0_1 + 1)) - 1)) (s0_0.length : Int))) * 53)))) 64))) a1, (wrap64 (s0_1 + 1))))) else (none)) else (none)) else (none)) else (none)) = some (r1, r2) := by first | (rw [hji14] at H; exact H) | (simp only [hji14] at H ⊢; exact H)
      by_cases c15 : 0 ≤ (ji14)
      ·
       rw [if_pos c15] at H; have c15b0 : decide (0 ≤ (ji14)) = true := decide_eq_true c15; clear c15; by_cases c16 : (ji14) < (s0_0.length : Int)
       ·
        rw [if_pos c16] at H; have c16b0 : decide ((ji14) < (s0_0.length : Int)) = true := decide_eq_true c16; clear c16; obtain ⟨ji17, hji17⟩ : ∃ j_ : Int, (Int.tmod (wrap64 ((wrap64 ((wrap64 ((wrap64 (s0_1 + 1)) - 1)) * 7)) + 3)) (s0_0.length : Int)) = j_ := ⟨_, rfl⟩
        replace H : (if 0 ≤ (ji17) then (if (ji17) < (s0_0.length : Int) then (if a1 = 0 then (none) else (some (Int.tmod (Go.bits .xor .i64 (wrap64 ((wrap64 ((wrap64 ((wrap64 ((wrap64 (rd s0_0 (ji14))) * 131)) + (wrap64 ((wrap64 (rd s0_0 (ji17))) * 1117)))) + (wrap64 ((wrap64 ((wrap64 (s0_1 + 1)) - 1)) * 29)))) + (wrap64 ((wrap64 (Int.tdiv (wrap64 ((wrap64 (s0_1 + 1)) - 1)) (s0_0.length : Int))) * 53)))) (wrap64 (Int.tdiv (wrap64 ((wrap64 ((wrap64 ((wrap64 ((wrap64 (rd s0_0 (ji14))) * 131)) + (wrap64 ((wrap64 (rd s0_0 (ji17))) * 1117)))) + (wrap64 ((wrap64 ((wrap64 (s0_1 + 1)) - 1)) * 29)))) + (wrap64 ((wrap64 (Int.tdiv (wrap64 ((wrap64 (s0_1 + 1)) - 1)) (s0_0.length : Int))) * 53)))) 64))) a1, (wrap64 (s0_1 + 1))))) else (none)) else (none)) = some (r1, r2) := by first | (rw [hji17] at H; exact H) | (simp only [hji17] at H ⊢; exact H)
        by_cases c18 : 0 ≤ (ji17)
        ·
         rw [if_pos c18] at H; have c18b0 : decide (0 ≤ (ji17)) = true := decide_eq_true c18; clear c18; by_cases c19 : (ji17) < (s0_0.length : Int)
         ·
          rw [if_pos c19] at H; have c19b0 : decide ((ji17) < (s0_0.length : Int)) = true := decide_eq_true c19; clear c19; by_cases c20 : a1 = 0
          ·
           rw [if_pos c20] at H; exact absurd H (by simp)
          ·
           rw [if_neg c20] at H; have c20b0 : (a1 == 0) = false := beq_eq_false_iff_ne.mpr c20; have c20b1 : (a1 != 0) = true := bne_iff_ne.mpr c20; simp only [Option.some.injEq, Prod.mk.injEq] at H; obtain ⟨rfl, rfl⟩ := H; obtain ⟨ASz21_0, cSz21_0, HGz21, hgz21, HSz21_0⟩ := HI0.out; have hcz21_0 := cellS112_0 HGz21; have hcz21_1 := cellS112_1 HGz21; have hfz21_1 := blk_frozen HGz21 1; clear HGz21 hgz21; have p250 : 0 ≤ ((ji14) : Int) := of_decide_eq_true (by first | (with_reducible assumption) | assumption); have q250 : (ji14) < (s0_0.length : Int) := of_decide_eq_true (by first | (with_reducible assumption) | assumption); obtain ⟨ad250, e250, hx250_0⟩ := Kd.at_int HSz21_0 (ji14) p250 q250; cases e250; replace hx250_0 := pw_cell_below HB.out hx250_0; replace p250 := eq_true p250; replace q250 := eq_true q250; have p251 : 0 ≤ ((ji17) : Int) := of_decide_eq_true (by first | (with_reducible assumption) | assumption); have q251 : (ji17) < (s0_0.length : Int) := of_decide_eq_true (by first | (with_reducible assumption) | assumption); obtain ⟨ad251, e251, hx251_0⟩ := Kd.at_int HSz21_0 (ji17) p251 q251; obtain rfl : ad250 = ad251 := (by injection e251)
           replace hx251_0 := pw_cell_below HB.out hx251_0; replace p251 := eq_true p251; replace q251 := eq_true q251; go_wp2; repeat (go_quiet (fail); try go_wp2)
           go_ret
           exact ⟨by first | rfl | (simp [errW_none, errW_some] <;> rfl) | (simp only [← hji14, ← hji17]; first | rfl | (simp [errW_none, errW_some] <;> rfl)) | (simp [*, errW_none, errW_some] <;> rfl), by repeat (first | (with_reducible first | exact HI0.out | apply IsS112.alloc | apply IsS112.drewN | apply IsS112.drew | apply IsS112.set_1) | exact HI0.out), by repeat (first | (with_reducible first | exact HB.out | apply below_alloc | apply pw_below_drewN | apply below_drew1 | refine below_set ?_ (IsS112.ge HI0.out)) | exact HB.out), by repeat (first | (with_reducible first | exact HK.out | apply KeepBut.set_ | apply keep_drewN | apply keep_drew | apply keep_alloc) | exact HK.out)⟩
         ·
          rw [if_neg c19] at H; exact absurd H (by simp)
        ·
         rw [if_neg c18] at H; exact absurd H (by simp)
       ·
        rw [if_neg c16] at H; exact absurd H (by simp)
      ·
       rw [if_neg c15] at H; exact absurd H (by simp)

end Go.Proofs.YtmacedbpdhkagaaDoor.PFnTonaryDrop
namespace Go.Proofs.YtmacedbpdhkagaaDoor.PFnTonaryDrop
open Go.RowKit Go.Proofs.YtmacedbpdhkagaaDoorW.PrintWords Go.Proofs.YtmacedbpdhkagaaDoorW.PrintLast Go.Proofs.YtmacedbpdhkagaaDoorW.PrintMore
attribute [local go_sem] max2_int min2_int max_two min_two max_three min_three max_four min_four   -- for this text's walks alone
set_option linter.unusedVariables false
set_option linter.unusedSimpArgs false

def spec_l6Rd_of.f (k : Nat) (s0_0 : List Int) (s0_1 : Int) (l1 : List ByteArray) : Option (ByteArray × Int) := (spec_l6Rd_pick.f k s0_0 s0_1 (l1.length : Int)).bind fun bt252 => (if 0 ≤ bt252.1 then (if bt252.1 < (l1.length : Int) then (some (rdOf ByteArray.empty l1 bt252.1, bt252.2)) else (none)) else (none))
set_option maxHeartbeats 8000000 in
set_option maxRecDepth 100000 in
theorem spec_l6Rd_of.calls (k : Nat) (g : Nat) (s0_0 : List Int) (s0_1 : Int) (A1 : Option Addr) (c1 : Nat) (l1 : List ByteArray) (r1 : ByteArray) (r2 : Int) (w0 w : World) (hI : IsS112 w0 w g s0_0 s0_1) (hB : Below w0.heap.size w0 w) (hr1 : Kd.C Kd.string w A1 l1.length l1) (hc1 : l1.length ≤ c1) (hf1 : ∀ ad, A1 = some ad → 0 < l1.length → ad.block ≠ g) (h : spec_l6Rd_of.f k s0_0 s0_1 l1 = some (r1, r2)) :
 Calls Tryd.prog 72 #[.pointer (some ⟨g, 0, none⟩), .slice A1 l1.length c1] w fun e w' => e = .returned (.string r1) ∧ IsS112 w0 w' g s0_0 r2 ∧ Below w0.heap.size w0 w' ∧ KeepBut w w' g none := by
 have HR1 := Aside0.mk hr1; have HC1 := Aside0.mk hc1; clear hr1 hc1; have HI0 := Aside0.mk hI; have HK := Aside0.mk (KeepBut.refl w g none); have HL := Aside0.mk hB.size; clear hI; have HW0 := Aside0.mk hB.size; have HB := Aside0.mk hB; clear hB; have H : ((spec_l6Rd_pick.f k s0_0 s0_1 (l1.length : Int)).bind fun bt252 => (if 0 ≤ bt252.1 then (if bt252.1 < (l1.length : Int) then (some (rdOf ByteArray.empty l1 bt252.1, bt252.2)) else (none)) else (none))) = some (r1, r2) := h; clear h; replace H := Option.bind_eq_some_iff.mp H; obtain ⟨⟨t252, t253⟩, A30, H⟩ := H; replace H : (if 0 ≤ t252 then (if t252 < (l1.length : Int) then (some (rdOf ByteArray.empty l1 t252, t253)) else (none)) else (none)) = some (r1, r2) := H; have A3 := Aside0.mk A30; clear A30; by_cases c4 : 0 ≤ t252
 ·
  rw [if_pos c4] at H; have c4b0 : decide (0 ≤ t252) = true := decide_eq_true c4; clear c4; by_cases c5 : t252 < (l1.length : Int)
  ·
   rw [if_pos c5] at H; have c5b0 : decide (t252 < (l1.length : Int)) = true := decide_eq_true c5; clear c5; simp only [Option.some.injEq, Prod.mk.injEq] at H; obtain ⟨rfl, rfl⟩ := H; go_enter Tryd.func72, Tryd.ntmps72
   go_wp2_with (first | ((with_reducible refine gate_callee (f := 63) rfl ?_); refine goesL_ (some 9) rfl rfl Tryd.func63 (by kernel_rfl) rfl #[.pointer (some ⟨g, 0, none⟩), .int .i64 (l1.length : Int)] rfl (by (try simp only [List.map_toArray, List.map_cons, List.map_nil]); first | done | rfl | (simp only [List.length_drop, List.length_take]; rfl)) ?_; (with_reducible refine (spec_l6Rd_pick.calls k g s0_0 s0_1 (l1.length : Int) t252 t253 w0 _ ?side1 ?side2 A3.out).mono ?_); (case side1 => repeat (first | (with_reducible first | exact HI0.out | apply IsS112.alloc | apply IsS112.drewN | apply IsS112.drew | apply IsS112.set_1) | exact HI0.out)); (case side2 => repeat (first | (with_reducible first | exact HB.out | apply below_alloc | apply pw_below_drewN | apply below_drew1 | refine below_set ?_ (IsS112.ge HI0.out)) | exact HB.out)); rintro e w6 ⟨rfl, hi, hb, hk⟩; refine ⟨_, rfl, ?_⟩; have n0_ := Aside0.mk (KeepBut.trans (by repeat (first | (with_reducible first | exact HK.out | apply KeepBut.set_ | apply keep_drewN | apply keep_drew | apply keep_alloc) | exact HK.out)) hk (.inl rfl)); have n1_ := Aside0.mk (hb); have n2_ := Aside0.mk (hi); clear HK; clear HB; clear HI0; have HK := n0_; have HB := n1_; have HI0 := n2_; clear n0_ n1_ n2_; (try clear hb); (try clear hb2); (try clear hk); (try clear hi); have p254 : 0 ≤ (t252 : Int) := of_decide_eq_true (by first | (with_reducible assumption) | assumption); have q254 : t252 < (l1.length : Int) := of_decide_eq_true (by first | (with_reducible assumption) | assumption); obtain ⟨ad254, e254, hx254_0⟩ := Kd.at_string HR1.out t252 p254 q254; cases e254; replace hx254_0 := keep_cell HK.out hx254_0 (by first | (rw [add_block]; exact hf1 _ rfl (by omega)) | exact hf1 _ rfl (by omega) | exact hf1 ad254 rfl (by omega)); replace p254 := eq_true p254; replace q254 := eq_true q254))
   go_ret
   exact ⟨by first | rfl | (simp [errW_none, errW_some] <;> rfl) | (simp [*, errW_none, errW_some] <;> rfl), by repeat (first | (with_reducible first | exact HI0.out | apply IsS112.alloc | apply IsS112.drewN | apply IsS112.drew | apply IsS112.set_1) | exact HI0.out), by repeat (first | (with_reducible first | exact HB.out | apply below_alloc | apply pw_below_drewN | apply below_drew1 | refine below_set ?_ (IsS112.ge HI0.out)) | exact HB.out), by repeat (first | (with_reducible first | exact HK.out | apply KeepBut.set_ | apply keep_drewN | apply keep_drew | apply keep_alloc) | exact HK.out)⟩
  ·
   rw [if_neg c5] at H; exact absurd H (by simp)
 ·
  rw [if_neg c4] at H; exact absurd H (by simp)

end Go.Proofs.YtmacedbpdhkagaaDoor.PFnTonaryDrop
