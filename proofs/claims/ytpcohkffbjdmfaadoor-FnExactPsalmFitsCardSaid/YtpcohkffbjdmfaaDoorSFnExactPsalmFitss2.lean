/- Lemmas for the law FnExactPsalmFits. -/
import Derived.BigRegion
import Derived.Deep.Slices
import Derived.Laws.CopyOwn
import Derived.Shelf.Strings.SlTrimAscii
import Derived.Shelf.Strings.Cut
import Derived.Test.YtpcohkffbjdmfaaDoorSFnExactPsalmFitss1
namespace Go.Proofs.YtpcohkffbjdmfaaDoor.PFnExactPsalmFits
open Go.RowKit Go.Proofs.YtpcohkffbjdmfaaDoorW.PrintWords Go.Proofs.YtpcohkffbjdmfaaDoorW.PrintLast Go.Proofs.YtpcohkffbjdmfaaDoorW.PrintMore
attribute [local go_sem] max2_int min2_int max_two min_two max_three min_three max_four min_four   -- for this text's walks alone
set_option linter.unusedVariables false
set_option linter.unusedSimpArgs false

def spec_PsalmFits.f (k : Nat) (l0_0 : List (S29)) (a0_1 : Int) (a0_2 : Bool) (l0_3 : List (S29)) (l0_4 : List (S29)) (a1 : ByteArray) : Option (Bool) := (spec_l4Halves.f k a1).bind fun bt157 => ((spec_PsalmValid.f k l0_0 a0_1 a0_2 l0_3 l0_4).bind fun t159 => (if t159 = true then ((spec_VerseValid.f k a1).bind fun t160 => (if t160 = true then (if (bt157.1.size : Int) ≥ (wrap64 ((l0_0.length : Int) + (l0_3.length : Int))) then (some (decide ((bt157.2.size : Int) ≥ (l0_4.length : Int)))) else (some false)) else (some false))) else (some false)))
set_option maxHeartbeats 8000000 in
set_option maxRecDepth 100000 in
theorem spec_PsalmFits.calls (k : Nat) (A0_0 : Option Addr) (c0_0 : Nat) (l0_0 : List (S29)) (a0_1 : Int) (a0_2 : Bool) (A0_3 : Option Addr) (c0_3 : Nat) (l0_3 : List (S29)) (A0_4 : Option Addr) (c0_4 : Nat) (l0_4 : List (S29)) (a1 : ByteArray) (r : Bool) (w : World) (hr0_0 : Kd.C k29 w A0_0 l0_0.length l0_0) (hc0_0 : l0_0.length ≤ c0_0) (hr0_3 : Kd.C k29 w A0_3 l0_3.length l0_3) (hc0_3 : l0_3.length ≤ c0_3) (hr0_4 : Kd.C k29 w A0_4 l0_4.length l0_4) (hc0_4 : l0_4.length ≤ c0_4) (h : spec_PsalmFits.f k l0_0 a0_1 a0_2 l0_3 l0_4 a1 = some r) :
 Calls Tryd.prog 16 #[.agg #[.slice A0_0 l0_0.length c0_0, .int .i64 a0_1, .bool a0_2, .slice A0_3 l0_3.length c0_3, .slice A0_4 l0_4.length c0_4], .string a1] w fun e w' => e = .returned (.bool r) ∧ Below w.heap.size w w' := by
 have hu31 := Tryd.underlying31; have HR0_0 := Aside0.mk hr0_0; have HC0_0 := Aside0.mk hc0_0; clear hr0_0 hc0_0; have HR0_3 := Aside0.mk hr0_3; have HC0_3 := Aside0.mk hc0_3; clear hr0_3 hc0_3; have HR0_4 := Aside0.mk hr0_4; have HC0_4 := Aside0.mk hc0_4; clear hr0_4 hc0_4; have HB := Aside0.mk (Below.refl w.heap.size w); have H : ((spec_l4Halves.f k a1).bind fun bt157 => ((spec_PsalmValid.f k l0_0 a0_1 a0_2 l0_3 l0_4).bind fun t159 => (if t159 = true then ((spec_VerseValid.f k a1).bind fun t160 => (if t160 = true then (if (bt157.1.size : Int) ≥ (wrap64 ((l0_0.length : Int) + (l0_3.length : Int))) then (some (decide ((bt157.2.size : Int) ≥ (l0_4.length : Int)))) else (some false)) else (some false))) else (some false)))) = some r := h; clear h; replace H := Option.bind_eq_some_iff.mp H; obtain ⟨⟨t157, t158⟩, A30, H⟩ := H; replace H : ((spec_PsalmValid.f k l0_0 a0_1 a0_2 l0_3 l0_4).bind fun t159 => (if t159 = true then ((spec_VerseValid.f k a1).bind fun t160 => (if t160 = true then (if (t157.size : Int) ≥ (wrap64 ((l0_0.length : Int) + (l0_3.length : Int))) then (some (decide ((t158.size : Int) ≥ (l0_4.length : Int)))) else (some false)) else (some false))) else (some false))) = some r := H; have A3 := Aside0.mk A30; clear A30; replace H := Option.bind_eq_some_iff.mp H; obtain ⟨t159, A40, H⟩ := H; replace H : (if t159 = true then ((spec_VerseValid.f k a1).bind fun t160 => (if t160 = true then (if (t157.size : Int) ≥ (wrap64 ((l0_0.length : Int) + (l0_3.length : Int))) then (some (decide ((t158.size : Int) ≥ (l0_4.length : Int)))) else (some false)) else (some false))) else (some false)) = some r := H; have A4 := Aside0.mk A40; clear A40; by_cases c5 : t159 = true
 ·
  subst c5; have H1 : ((spec_VerseValid.f k a1).bind fun t160 => (if t160 = true then (if (t157.size : Int) ≥ (wrap64 ((l0_0.length : Int) + (l0_3.length : Int))) then (some (decide ((t158.size : Int) ≥ (l0_4.length : Int)))) else (some false)) else (some false))) = some r := by rw [if_pos rfl] at H; exact H
  clear H; have H := H1; clear H1; replace H := Option.bind_eq_some_iff.mp H; obtain ⟨t160, A60, H⟩ := H; replace H : (if t160 = true then (if (t157.size : Int) ≥ (wrap64 ((l0_0.length : Int) + (l0_3.length : Int))) then (some (decide ((t158.size : Int) ≥ (l0_4.length : Int)))) else (some false)) else (some false)) = some r := H; have A6 := Aside0.mk A60; clear A60; by_cases c7 : t160 = true
  ·
   subst c7; have H1 : (if (t157.size : Int) ≥ (wrap64 ((l0_0.length : Int) + (l0_3.length : Int))) then (some (decide ((t158.size : Int) ≥ (l0_4.length : Int)))) else (some false)) = some r := by rw [if_pos rfl] at H; exact H
   clear H; have H := H1; clear H1; by_cases c8 : (t157.size : Int) ≥ (wrap64 ((l0_0.length : Int) + (l0_3.length : Int)))
   ·
    rw [if_pos c8] at H; have c8b0 : decide ((wrap64 ((l0_0.length : Int) + (l0_3.length : Int))) ≤ (t157.size : Int)) = true := decide_eq_true c8; clear c8; obtain rfl := Option.some.inj H; go_enter Tryd.func16, Tryd.ntmps16
    go_wp2_with (first | ((with_reducible refine gate_dst (N := 2) rfl ?_); (try (refine gate_guard (by rfl) ?_; dsimp only)); refine box_event ?hg (N := 2) ?hd (cs := #[.slice A0_0 l0_0.length c0_0, .int .i64 a0_1, .bool a0_2, .slice A0_3 l0_3.length c0_3, .slice A0_4 l0_4.length c0_4]) (t := 31) ?hr ?_; (case hd => rfl); (case hg => rfl); (case hr => first | (go_simp; done) | (go_simp; rfl)); intro gb156 hg w9 hbox hb; have n0_ := Aside0.mk (below_step (by repeat (first | (with_reducible first | exact HB.out | apply below_alloc | apply pw_below_drewN | apply below_drew1) | exact HB.out)) hb); have n1_ := Aside0.mk (hbox); have n2_ := Aside0.mk ((by rw [hg]; exact (below_size (by repeat (first | (with_reducible first | exact HB.out | apply below_alloc | apply pw_below_drewN | apply below_drew1) | exact HB.out))) : w.heap.size ≤ gb156)); have n3_ := Aside0.mk ((by rw [hg]; exact (below_size (by repeat (first | (with_reducible first | exact HB.out | apply below_alloc | apply pw_below_drewN | apply below_drew1) | exact HB.out))) : w.heap.size ≤ gb156)); clear HB; have HB := n0_; have BK156 := n1_; have GW156 := n2_; have GE156 := n3_; clear n0_ n1_ n2_ n3_; clear hb hbox hg) | ((with_reducible refine gate_callee (f := 52) rfl ?_); refine goesL_ (some 9) rfl rfl Tryd.func52 (by kernel_rfl) rfl #[.string a1] rfl (by (try simp only [List.map_toArray, List.map_cons, List.map_nil]); first | done | rfl | (simp only [List.length_drop, List.length_take]; rfl)) ?_; (with_reducible refine (spec_l4Halves.calls k a1 t157 t158 _ A3.out).mono ?_); rintro e w' ⟨rfl, ⟨nd, rfl⟩⟩; refine ⟨_, rfl, ?_⟩; have hcz10_0 : w9.cell? ⟨gb156, 0, none⟩ = some (.slice A0_0 l0_0.length c0_0) := (blk_cell BK156.out 0).trans rfl; have hcz10_1 : w9.cell? ⟨gb156, 1, none⟩ = some (.int .i64 a0_1) := (blk_cell BK156.out 1).trans rfl; have hcz10_2 : w9.cell? ⟨gb156, 2, none⟩ = some (.bool a0_2) := (blk_cell BK156.out 2).trans rfl; have hcz10_3 : w9.cell? ⟨gb156, 3, none⟩ = some (.slice A0_3 l0_3.length c0_3) := (blk_cell BK156.out 3).trans rfl; have hcz10_4 : w9.cell? ⟨gb156, 4, none⟩ = some (.slice A0_4 l0_4.length c0_4) := (blk_cell BK156.out 4).trans rfl; have hfz10_0 := blk_frozen BK156.out 0; have hfz10_1 := blk_frozen BK156.out 1; have hfz10_2 := blk_frozen BK156.out 2; have hfz10_3 := blk_frozen BK156.out 3; have hfz10_4 := blk_frozen BK156.out 4) | ((with_reducible refine gate_callee (f := 44) rfl ?_); refine goesL_ (some 13) rfl rfl Tryd.func44 (by kernel_rfl) rfl #[.agg #[.slice A0_0 l0_0.length c0_0, .int .i64 a0_1, .bool a0_2, .slice A0_3 l0_3.length c0_3, .slice A0_4 l0_4.length c0_4]] rfl (by (try simp only [List.map_toArray, List.map_cons, List.map_nil]); first | done | rfl | (simp only [List.length_drop, List.length_take]; rfl)) ?_; (with_reducible refine (spec_PsalmValid.calls k _ _ l0_0 a0_1 a0_2 _ _ l0_3 _ _ l0_4 true _ ?side1 ?side2 ?side3 ?side4 ?side5 ?side6 A4.out).mono ?_); (case side1 => repeat (first | exact (Kd.C_below HR0_0.out (by repeat (first | (with_reducible first | exact HB.out | apply below_alloc | apply pw_below_drewN | apply below_drew1 | refine below_set ?_ GE156.out) | exact HB.out))) | (with_reducible refine Kd.C_alloc ?_ _) | (with_reducible refine Kd.C_drewN ?_ _) | (with_reducible refine Kd.C_drew ?_))); (case side2 => exact HC0_0.out); (case side3 => repeat (first | exact (Kd.C_below HR0_3.out (by repeat (first | (with_reducible first | exact HB.out | apply below_alloc | apply pw_below_drewN | apply below_drew1 | refine below_set ?_ GE156.out) | exact HB.out))) | (with_reducible refine Kd.C_alloc ?_ _) | (with_reducible refine Kd.C_drewN ?_ _) | (with_reducible refine Kd.C_drew ?_))); (case side4 => exact HC0_3.out); (case side5 => repeat (first | exact (Kd.C_below HR0_4.out (by repeat (first | (with_reducible first | exact HB.out | apply below_alloc | apply pw_below_drewN | apply below_drew1 | refine below_set ?_ GE156.out) | exact HB.out))) | (with_reducible refine Kd.C_alloc ?_ _) | (with_reducible refine Kd.C_drewN ?_ _) | (with_reducible refine Kd.C_drew ?_))); (case side6 => exact HC0_4.out); rintro e w11 ⟨rfl, hb⟩; refine ⟨_, rfl, ?_⟩; have n0_ := Aside0.mk (blk_below (g := gb156) (o := .cells #[.slice A0_0 l0_0.length c0_0, .int .i64 a0_1, .bool a0_2, .slice A0_3 l0_3.length c0_3, .slice A0_4 l0_4.length c0_4] 31 (0, 0)) (by (with_reducible repeat (first | refine blk_drewN ?_ _ | refine blk_drew ?_ | refine blk_alloc ?_ _)); exact BK156.out) hb); have n1_ := Aside0.mk (below_step (by repeat (first | (with_reducible first | exact HB.out | apply below_alloc | apply pw_below_drewN | apply below_drew1 | refine below_set ?_ GE156.out) | exact HB.out)) hb); clear BK156; clear HB; have BK156 := n0_; have HB := n1_; clear n0_ n1_; (try clear hb); (try clear hb2); (try clear hk); (try clear hi)) | (go_at_call 53; (with_reducible refine (spec_VerseValid.calls k a1 true _ A6.out).mono ?_); rintro e w' ⟨rfl, ⟨nd, rfl⟩⟩; have hcz12_0 : w11.cell? ⟨gb156, 0, none⟩ = some (.slice A0_0 l0_0.length c0_0) := (blk_cell BK156.out 0).trans rfl; have hcz12_1 : w11.cell? ⟨gb156, 1, none⟩ = some (.int .i64 a0_1) := (blk_cell BK156.out 1).trans rfl; have hcz12_2 : w11.cell? ⟨gb156, 2, none⟩ = some (.bool a0_2) := (blk_cell BK156.out 2).trans rfl; have hcz12_3 : w11.cell? ⟨gb156, 3, none⟩ = some (.slice A0_3 l0_3.length c0_3) := (blk_cell BK156.out 3).trans rfl; have hcz12_4 : w11.cell? ⟨gb156, 4, none⟩ = some (.slice A0_4 l0_4.length c0_4) := (blk_cell BK156.out 4).trans rfl; have hfz12_0 := blk_frozen BK156.out 0; have hfz12_1 := blk_frozen BK156.out 1; have hfz12_2 := blk_frozen BK156.out 2; have hfz12_3 := blk_frozen BK156.out 3; have hfz12_4 := blk_frozen BK156.out 4))
    go_ret
    exact ⟨by first | rfl | (simp [errW_none, errW_some] <;> rfl) | (simp [*, errW_none, errW_some] <;> rfl), by repeat (first | (with_reducible first | exact HB.out | apply below_alloc | apply pw_below_drewN | apply below_drew1 | refine below_set ?_ GE156.out) | exact HB.out)⟩
   ·
    rw [if_neg c8] at H; have c8b0 : decide ((wrap64 ((l0_0.length : Int) + (l0_3.length : Int))) ≤ (t157.size : Int)) = false := decide_eq_false c8; clear c8; obtain rfl := Option.some.inj H; go_enter Tryd.func16, Tryd.ntmps16
    go_wp2_with (first | ((with_reducible refine gate_dst (N := 2) rfl ?_); (try (refine gate_guard (by rfl) ?_; dsimp only)); refine box_event ?hg (N := 2) ?hd (cs := #[.slice A0_0 l0_0.length c0_0, .int .i64 a0_1, .bool a0_2, .slice A0_3 l0_3.length c0_3, .slice A0_4 l0_4.length c0_4]) (t := 31) ?hr ?_; (case hd => rfl); (case hg => rfl); (case hr => first | (go_simp; done) | (go_simp; rfl)); intro gb156 hg w13 hbox hb; have n0_ := Aside0.mk (below_step (by repeat (first | (with_reducible first | exact HB.out | apply below_alloc | apply pw_below_drewN | apply below_drew1) | exact HB.out)) hb); have n1_ := Aside0.mk (hbox); have n2_ := Aside0.mk ((by rw [hg]; exact (below_size (by repeat (first | (with_reducible first | exact HB.out | apply below_alloc | apply pw_below_drewN | apply below_drew1) | exact HB.out))) : w.heap.size ≤ gb156)); have n3_ := Aside0.mk ((by rw [hg]; exact (below_size (by repeat (first | (with_reducible first | exact HB.out | apply below_alloc | apply pw_below_drewN | apply below_drew1) | exact HB.out))) : w.heap.size ≤ gb156)); clear HB; have HB := n0_; have BK156 := n1_; have GW156 := n2_; have GE156 := n3_; clear n0_ n1_ n2_ n3_; clear hb hbox hg) | ((with_reducible refine gate_callee (f := 52) rfl ?_); refine goesL_ (some 9) rfl rfl Tryd.func52 (by kernel_rfl) rfl #[.string a1] rfl (by (try simp only [List.map_toArray, List.map_cons, List.map_nil]); first | done | rfl | (simp only [List.length_drop, List.length_take]; rfl)) ?_; (with_reducible refine (spec_l4Halves.calls k a1 t157 t158 _ A3.out).mono ?_); rintro e w' ⟨rfl, ⟨nd, rfl⟩⟩; refine ⟨_, rfl, ?_⟩; have hcz14_0 : w13.cell? ⟨gb156, 0, none⟩ = some (.slice A0_0 l0_0.length c0_0) := (blk_cell BK156.out 0).trans rfl; have hcz14_1 : w13.cell? ⟨gb156, 1, none⟩ = some (.int .i64 a0_1) := (blk_cell BK156.out 1).trans rfl; have hcz14_2 : w13.cell? ⟨gb156, 2, none⟩ = some (.bool a0_2) := (blk_cell BK156.out 2).trans rfl; have hcz14_3 : w13.cell? ⟨gb156, 3, none⟩ = some (.slice A0_3 l0_3.length c0_3) := (blk_cell BK156.out 3).trans rfl; have hcz14_4 : w13.cell? ⟨gb156, 4, none⟩ = some (.slice A0_4 l0_4.length c0_4) := (blk_cell BK156.out 4).trans rfl; have hfz14_0 := blk_frozen BK156.out 0; have hfz14_1 := blk_frozen BK156.out 1; have hfz14_2 := blk_frozen BK156.out 2; have hfz14_3 := blk_frozen BK156.out 3; have hfz14_4 := blk_frozen BK156.out 4) | ((with_reducible refine gate_callee (f := 44) rfl ?_); refine goesL_ (some 13) rfl rfl Tryd.func44 (by kernel_rfl) rfl #[.agg #[.slice A0_0 l0_0.length c0_0, .int .i64 a0_1, .bool a0_2, .slice A0_3 l0_3.length c0_3, .slice A0_4 l0_4.length c0_4]] rfl (by (try simp only [List.map_toArray, List.map_cons, List.map_nil]); first | done | rfl | (simp only [List.length_drop, List.length_take]; rfl)) ?_; (with_reducible refine (spec_PsalmValid.calls k _ _ l0_0 a0_1 a0_2 _ _ l0_3 _ _ l0_4 true _ ?side1 ?side2 ?side3 ?side4 ?side5 ?side6 A4.out).mono ?_); (case side1 => repeat (first | exact (Kd.C_below HR0_0.out (by repeat (first | (with_reducible first | exact HB.out | apply below_alloc | apply pw_below_drewN | apply below_drew1 | refine below_set ?_ GE156.out) | exact HB.out))) | (with_reducible refine Kd.C_alloc ?_ _) | (with_reducible refine Kd.C_drewN ?_ _) | (with_reducible refine Kd.C_drew ?_))); (case side2 => exact HC0_0.out); (case side3 => repeat (first | exact (Kd.C_below HR0_3.out (by repeat (first | (with_reducible first | exact HB.out | apply below_alloc | apply pw_below_drewN | apply below_drew1 | refine below_set ?_ GE156.out) | exact HB.out))) | (with_reducible refine Kd.C_alloc ?_ _) | (with_reducible refine Kd.C_drewN ?_ _) | (with_reducible refine Kd.C_drew ?_))); (case side4 => exact HC0_3.out); (case side5 => repeat (first | exact (Kd.C_below HR0_4.out (by repeat (first | (with_reducible first | exact HB.out | apply below_alloc | apply pw_below_drewN | apply below_drew1 | refine below_set ?_ GE156.out) | exact HB.out))) | (with_reducible refine Kd.C_alloc ?_ _) | (with_reducible refine Kd.C_drewN ?_ _) | (with_reducible refine Kd.C_drew ?_))); (case side6 => exact HC0_4.out); rintro e w15 ⟨rfl, hb⟩; refine ⟨_, rfl, ?_⟩; have n0_ := Aside0.mk (blk_below (g := gb156) (o := .cells #[.slice A0_0 l0_0.length c0_0, .int .i64 a0_1, .bool a0_2, .slice A0_3 l0_3.length c0_3, .slice A0_4 l0_4.length c0_4] 31 (0, 0)) (by (with_reducible repeat (first | refine blk_drewN ?_ _ | refine blk_drew ?_ | refine blk_alloc ?_ _)); exact BK156.out) hb); have n1_ := Aside0.mk (below_step (by repeat (first | (with_reducible first | exact HB.out | apply below_alloc | apply pw_below_drewN | apply below_drew1 | refine below_set ?_ GE156.out) | exact HB.out)) hb); clear BK156; clear HB; have BK156 := n0_; have HB := n1_; clear n0_ n1_; (try clear hb); (try clear hb2); (try clear hk); (try clear hi)) | (go_at_call 53; (with_reducible refine (spec_VerseValid.calls k a1 true _ A6.out).mono ?_); rintro e w' ⟨rfl, ⟨nd, rfl⟩⟩; have hcz16_0 : w15.cell? ⟨gb156, 0, none⟩ = some (.slice A0_0 l0_0.length c0_0) := (blk_cell BK156.out 0).trans rfl; have hcz16_1 : w15.cell? ⟨gb156, 1, none⟩ = some (.int .i64 a0_1) := (blk_cell BK156.out 1).trans rfl; have hcz16_2 : w15.cell? ⟨gb156, 2, none⟩ = some (.bool a0_2) := (blk_cell BK156.out 2).trans rfl; have hcz16_3 : w15.cell? ⟨gb156, 3, none⟩ = some (.slice A0_3 l0_3.length c0_3) := (blk_cell BK156.out 3).trans rfl; have hcz16_4 : w15.cell? ⟨gb156, 4, none⟩ = some (.slice A0_4 l0_4.length c0_4) := (blk_cell BK156.out 4).trans rfl; have hfz16_0 := blk_frozen BK156.out 0; have hfz16_1 := blk_frozen BK156.out 1; have hfz16_2 := blk_frozen BK156.out 2; have hfz16_3 := blk_frozen BK156.out 3; have hfz16_4 := blk_frozen BK156.out 4))
    go_ret
    exact ⟨by first | rfl | (simp [errW_none, errW_some] <;> rfl) | (simp [*, errW_none, errW_some] <;> rfl), by repeat (first | (with_reducible first | exact HB.out | apply below_alloc | apply pw_below_drewN | apply below_drew1 | refine below_set ?_ GE156.out) | exact HB.out)⟩
  ·
   replace c7 := Bool.eq_false_iff.mpr c7; subst c7; have H1 : (some false) = some r := by rw [if_neg (show ¬ (false = true) by decide)] at H; exact H
   clear H; have H := H1; clear H1; obtain rfl := Option.some.inj H; go_enter Tryd.func16, Tryd.ntmps16
   go_wp2_with (first | ((with_reducible refine gate_dst (N := 2) rfl ?_); (try (refine gate_guard (by rfl) ?_; dsimp only)); refine box_event ?hg (N := 2) ?hd (cs := #[.slice A0_0 l0_0.length c0_0, .int .i64 a0_1, .bool a0_2, .slice A0_3 l0_3.length c0_3, .slice A0_4 l0_4.length c0_4]) (t := 31) ?hr ?_; (case hd => rfl); (case hg => rfl); (case hr => first | (go_simp; done) | (go_simp; rfl)); intro gb156 hg w17 hbox hb; have n0_ := Aside0.mk (below_step (by repeat (first | (with_reducible first | exact HB.out | apply below_alloc | apply pw_below_drewN | apply below_drew1) | exact HB.out)) hb); have n1_ := Aside0.mk (hbox); have n2_ := Aside0.mk ((by rw [hg]; exact (below_size (by repeat (first | (with_reducible first | exact HB.out | apply below_alloc | apply pw_below_drewN | apply below_drew1) | exact HB.out))) : w.heap.size ≤ gb156)); have n3_ := Aside0.mk ((by rw [hg]; exact (below_size (by repeat (first | (with_reducible first | exact HB.out | apply below_alloc | apply pw_below_drewN | apply below_drew1) | exact HB.out))) : w.heap.size ≤ gb156)); clear HB; have HB := n0_; have BK156 := n1_; have GW156 := n2_; have GE156 := n3_; clear n0_ n1_ n2_ n3_; clear hb hbox hg) | ((with_reducible refine gate_callee (f := 52) rfl ?_); refine goesL_ (some 9) rfl rfl Tryd.func52 (by kernel_rfl) rfl #[.string a1] rfl (by (try simp only [List.map_toArray, List.map_cons, List.map_nil]); first | done | rfl | (simp only [List.length_drop, List.length_take]; rfl)) ?_; (with_reducible refine (spec_l4Halves.calls k a1 t157 t158 _ A3.out).mono ?_); rintro e w' ⟨rfl, ⟨nd, rfl⟩⟩; refine ⟨_, rfl, ?_⟩; have hcz18_0 : w17.cell? ⟨gb156, 0, none⟩ = some (.slice A0_0 l0_0.length c0_0) := (blk_cell BK156.out 0).trans rfl; have hcz18_1 : w17.cell? ⟨gb156, 1, none⟩ = some (.int .i64 a0_1) := (blk_cell BK156.out 1).trans rfl; have hcz18_2 : w17.cell? ⟨gb156, 2, none⟩ = some (.bool a0_2) := (blk_cell BK156.out 2).trans rfl; have hcz18_3 : w17.cell? ⟨gb156, 3, none⟩ = some (.slice A0_3 l0_3.length c0_3) := (blk_cell BK156.out 3).trans rfl; have hcz18_4 : w17.cell? ⟨gb156, 4, none⟩ = some (.slice A0_4 l0_4.length c0_4) := (blk_cell BK156.out 4).trans rfl; have hfz18_0 := blk_frozen BK156.out 0; have hfz18_1 := blk_frozen BK156.out 1; have hfz18_2 := blk_frozen BK156.out 2; have hfz18_3 := blk_frozen BK156.out 3; have hfz18_4 := blk_frozen BK156.out 4) | ((with_reducible refine gate_callee (f := 44) rfl ?_); refine goesL_ (some 13) rfl rfl Tryd.func44 (by kernel_rfl) rfl #[.agg #[.slice A0_0 l0_0.length c0_0, .int .i64 a0_1, .bool a0_2, .slice A0_3 l0_3.length c0_3, .slice A0_4 l0_4.length c0_4]] rfl (by (try simp only [List.map_toArray, List.map_cons, List.map_nil]); first | done | rfl | (simp only [List.length_drop, List.length_take]; rfl)) ?_; (with_reducible refine (spec_PsalmValid.calls k _ _ l0_0 a0_1 a0_2 _ _ l0_3 _ _ l0_4 true _ ?side1 ?side2 ?side3 ?side4 ?side5 ?side6 A4.out).mono ?_); (case side1 => repeat (first | exact (Kd.C_below HR0_0.out (by repeat (first | (with_reducible first | exact HB.out | apply below_alloc | apply pw_below_drewN | apply below_drew1 | refine below_set ?_ GE156.out) | exact HB.out))) | (with_reducible refine Kd.C_alloc ?_ _) | (with_reducible refine Kd.C_drewN ?_ _) | (with_reducible refine Kd.C_drew ?_))); (case side2 => exact HC0_0.out); (case side3 => repeat (first | exact (Kd.C_below HR0_3.out (by repeat (first | (with_reducible first | exact HB.out | apply below_alloc | apply pw_below_drewN | apply below_drew1 | refine below_set ?_ GE156.out) | exact HB.out))) | (with_reducible refine Kd.C_alloc ?_ _) | (with_reducible refine Kd.C_drewN ?_ _) | (with_reducible refine Kd.C_drew ?_))); (case side4 => exact HC0_3.out); (case side5 => repeat (first | exact (Kd.C_below HR0_4.out (by repeat (first | (with_reducible first | exact HB.out | apply below_alloc | apply pw_below_drewN | apply below_drew1 | refine below_set ?_ GE156.out) | exact HB.out))) | (with_reducible refine Kd.C_alloc ?_ _) | (with_reducible refine Kd.C_drewN ?_ _) | (with_reducible refine Kd.C_drew ?_))); (case side6 => exact HC0_4.out); rintro e w19 ⟨rfl, hb⟩; refine ⟨_, rfl, ?_⟩; have n0_ := Aside0.mk (blk_below (g := gb156) (o := .cells #[.slice A0_0 l0_0.length c0_0, .int .i64 a0_1, .bool a0_2, .slice A0_3 l0_3.length c0_3, .slice A0_4 l0_4.length c0_4] 31 (0, 0)) (by (with_reducible repeat (first | refine blk_drewN ?_ _ | refine blk_drew ?_ | refine blk_alloc ?_ _)); exact BK156.out) hb); have n1_ := Aside0.mk (below_step (by repeat (first | (with_reducible first | exact HB.out | apply below_alloc | apply pw_below_drewN | apply below_drew1 | refine below_set ?_ GE156.out) | exact HB.out)) hb); clear BK156; clear HB; have BK156 := n0_; have HB := n1_; clear n0_ n1_; (try clear hb); (try clear hb2); (try clear hk); (try clear hi)) | (go_at_call 53; (with_reducible refine (spec_VerseValid.calls k a1 false _ A6.out).mono ?_); rintro e w' ⟨rfl, ⟨nd, rfl⟩⟩))
   go_ret
   exact ⟨by first | rfl | (simp [errW_none, errW_some] <;> rfl) | (simp [*, errW_none, errW_some] <;> rfl), by repeat (first | (with_reducible first | exact HB.out | apply below_alloc | apply pw_below_drewN | apply below_drew1 | refine below_set ?_ GE156.out) | exact HB.out)⟩
 ·
  replace c5 := Bool.eq_false_iff.mpr c5; subst c5; have H1 : (some false) = some r := by rw [if_neg (show ¬ (false = true) by decide)] at H; exact H
  clear H; have H := H1; clear H1; obtain rfl := Option.some.inj H; go_enter Tryd.func16, Tryd.ntmps16
  go_wp2_with (first | ((with_reducible refine gate_dst (N := 2) rfl ?_); (try (refine gate_guard (by rfl) ?_; dsimp only)); refine box_event ?hg (N := 2) ?hd (cs := #[.slice A0_0 l0_0.length c0_0, .int .i64 a0_1, .bool a0_2, .slice A0_3 l0_3.length c0_3, .slice A0_4 l0_4.length c0_4]) (t := 31) ?hr ?_; (case hd => rfl); (case hg => rfl); (case hr => first | (go_simp; done) | (go_simp; rfl)); intro gb156 hg w20 hbox hb; have n0_ := Aside0.mk (below_step (by repeat (first | (with_reducible first | exact HB.out | apply below_alloc | apply pw_below_drewN | apply below_drew1) | exact HB.out)) hb); have n1_ := Aside0.mk (hbox); have n2_ := Aside0.mk ((by rw [hg]; exact (below_size (by repeat (first | (with_reducible first | exact HB.out | apply below_alloc | apply pw_below_drewN | apply below_drew1) | exact HB.out))) : w.heap.size ≤ gb156)); have n3_ := Aside0.mk ((by rw [hg]; exact (below_size (by repeat (first | (with_reducible first | exact HB.out | apply below_alloc | apply pw_below_drewN | apply below_drew1) | exact HB.out))) : w.heap.size ≤ gb156)); clear HB; have HB := n0_; have BK156 := n1_; have GW156 := n2_; have GE156 := n3_; clear n0_ n1_ n2_ n3_; clear hb hbox hg) | ((with_reducible refine gate_callee (f := 52) rfl ?_); refine goesL_ (some 9) rfl rfl Tryd.func52 (by kernel_rfl) rfl #[.string a1] rfl (by (try simp only [List.map_toArray, List.map_cons, List.map_nil]); first | done | rfl | (simp only [List.length_drop, List.length_take]; rfl)) ?_; (with_reducible refine (spec_l4Halves.calls k a1 t157 t158 _ A3.out).mono ?_); rintro e w' ⟨rfl, ⟨nd, rfl⟩⟩; refine ⟨_, rfl, ?_⟩; have hcz21_0 : w20.cell? ⟨gb156, 0, none⟩ = some (.slice A0_0 l0_0.length c0_0) := (blk_cell BK156.out 0).trans rfl; have hcz21_1 : w20.cell? ⟨gb156, 1, none⟩ = some (.int .i64 a0_1) := (blk_cell BK156.out 1).trans rfl; have hcz21_2 : w20.cell? ⟨gb156, 2, none⟩ = some (.bool a0_2) := (blk_cell BK156.out 2).trans rfl; have hcz21_3 : w20.cell? ⟨gb156, 3, none⟩ = some (.slice A0_3 l0_3.length c0_3) := (blk_cell BK156.out 3).trans rfl; have hcz21_4 : w20.cell? ⟨gb156, 4, none⟩ = some (.slice A0_4 l0_4.length c0_4) := (blk_cell BK156.out 4).trans rfl; have hfz21_0 := blk_frozen BK156.out 0; have hfz21_1 := blk_frozen BK156.out 1; have hfz21_2 := blk_frozen BK156.out 2; have hfz21_3 := blk_frozen BK156.out 3; have hfz21_4 := blk_frozen BK156.out 4) | ((with_reducible refine gate_callee (f := 44) rfl ?_); refine goesL_ (some 13) rfl rfl Tryd.func44 (by kernel_rfl) rfl #[.agg #[.slice A0_0 l0_0.length c0_0, .int .i64 a0_1, .bool a0_2, .slice A0_3 l0_3.length c0_3, .slice A0_4 l0_4.length c0_4]] rfl (by (try simp only [List.map_toArray, List.map_cons, List.map_nil]); first | done | rfl | (simp only [List.length_drop, List.length_take]; rfl)) ?_; (with_reducible refine (spec_PsalmValid.calls k _ _ l0_0 a0_1 a0_2 _ _ l0_3 _ _ l0_4 false _ ?side1 ?side2 ?side3 ?side4 ?side5 ?side6 A4.out).mono ?_); (case side1 => repeat (first | exact (Kd.C_below HR0_0.out (by repeat (first | (with_reducible first | exact HB.out | apply below_alloc | apply pw_below_drewN | apply below_drew1 | refine below_set ?_ GE156.out) | exact HB.out))) | (with_reducible refine Kd.C_alloc ?_ _) | (with_reducible refine Kd.C_drewN ?_ _) | (with_reducible refine Kd.C_drew ?_))); (case side2 => exact HC0_0.out); (case side3 => repeat (first | exact (Kd.C_below HR0_3.out (by repeat (first | (with_reducible first | exact HB.out | apply below_alloc | apply pw_below_drewN | apply below_drew1 | refine below_set ?_ GE156.out) | exact HB.out))) | (with_reducible refine Kd.C_alloc ?_ _) | (with_reducible refine Kd.C_drewN ?_ _) | (with_reducible refine Kd.C_drew ?_))); (case side4 => exact HC0_3.out); (case side5 => repeat (first | exact (Kd.C_below HR0_4.out (by repeat (first | (with_reducible first | exact HB.out | apply below_alloc | apply pw_below_drewN | apply below_drew1 | refine below_set ?_ GE156.out) | exact HB.out))) | (with_reducible refine Kd.C_alloc ?_ _) | (with_reducible refine Kd.C_drewN ?_ _) | (with_reducible refine Kd.C_drew ?_))); (case side6 => exact HC0_4.out); rintro e w22 ⟨rfl, hb⟩; refine ⟨_, rfl, ?_⟩; have n0_ := Aside0.mk (blk_below (g := gb156) (o := .cells #[.slice A0_0 l0_0.length c0_0, .int .i64 a0_1, .bool a0_2, .slice A0_3 l0_3.length c0_3, .slice A0_4 l0_4.length c0_4] 31 (0, 0)) (by (with_reducible repeat (first | refine blk_drewN ?_ _ | refine blk_drew ?_ | refine blk_alloc ?_ _)); exact BK156.out) hb); have n1_ := Aside0.mk (below_step (by repeat (first | (with_reducible first | exact HB.out | apply below_alloc | apply pw_below_drewN | apply below_drew1 | refine below_set ?_ GE156.out) | exact HB.out)) hb); clear BK156; clear HB; have BK156 := n0_; have HB := n1_; clear n0_ n1_; (try clear hb); (try clear hb2); (try clear hk); (try clear hi)))
  go_ret
  exact ⟨by first | rfl | (simp [errW_none, errW_some] <;> rfl) | (simp [*, errW_none, errW_some] <;> rfl), by repeat (first | (with_reducible first | exact HB.out | apply below_alloc | apply pw_below_drewN | apply below_drew1 | refine below_set ?_ GE156.out) | exact HB.out)⟩

end Go.Proofs.YtpcohkffbjdmfaaDoor.PFnExactPsalmFits
namespace Go.Proofs.YtpcohkffbjdmfaaDoor.PFnExactPsalmFits
open Go.RowKit Go.Proofs.YtpcohkffbjdmfaaDoorW.PrintWords Go.Proofs.YtpcohkffbjdmfaaDoorW.PrintLast Go.Proofs.YtpcohkffbjdmfaaDoorW.PrintMore
attribute [local go_sem] max2_int min2_int max_two min_two max_three min_three max_four min_four   -- for this text's walks alone
set_option linter.unusedVariables false
set_option linter.unusedSimpArgs false

def impl_Tone_valid.f (a0_0 : Int) (a0_1 : Bool) : Option (Bool) := if a0_0 ≥ 0 then (if a0_0 ≤ 20 then (if a0_1 = true then (some ((Int.tmod a0_0 7) == 2)) else (some true)) else (some false)) else (some false)
set_option maxHeartbeats 8000000 in
set_option maxRecDepth 100000 in
theorem impl_Tone_valid.calls (a0_0 : Int) (a0_1 : Bool) (r : Bool) (w : World) (h : impl_Tone_valid.f a0_0 a0_1 = some r) :
 Calls Tryd.prog 68 #[.agg #[.int .i64 a0_0, .bool a0_1]] w fun e w' => e = .returned (.bool r) ∧ Below w.heap.size w w' := by
 have hu29 := Tryd.underlying29; have HB := Aside0.mk (Below.refl w.heap.size w); have H : (if a0_0 ≥ 0 then (if a0_0 ≤ 20 then (if a0_1 = true then (some ((Int.tmod a0_0 7) == 2)) else (some true)) else (some false)) else (some false)) = some r := h; clear h; by_cases c2 : a0_0 ≥ 0
 ·
  rw [if_pos c2] at H; have c2b0 : decide (0 ≤ a0_0) = true := decide_eq_true c2; clear c2; by_cases c3 : a0_0 ≤ 20
  ·
   rw [if_pos c3] at H; have c3b0 : decide (a0_0 ≤ 20) = true := decide_eq_true c3; clear c3; by_cases c4 : a0_1 = true
   ·
    subst c4; have H1 : (some ((Int.tmod a0_0 7) == 2)) = some r := by rw [if_pos rfl] at H; exact H
    clear H; have H := H1; clear H1; obtain rfl := Option.some.inj H; go_enter Tryd.func68, Tryd.ntmps68
    go_wp2_with (first | ((with_reducible refine gate_dst (N := 1) rfl ?_); refine box_event ?hg (N := 1) ?hd (cs := #[.int .i64 a0_0, .bool true]) (t := 29) ?hr ?_; (case hd => rfl); (case hg => rfl); (case hr => first | (go_simp; done) | (go_simp; rfl)); intro gb161 hg w5 hbox hb; have n0_ := Aside0.mk (below_step (by repeat (first | (with_reducible first | exact HB.out | apply below_alloc | apply pw_below_drewN | apply below_drew1) | exact HB.out)) hb); have n1_ := Aside0.mk (hbox); have n2_ := Aside0.mk ((by rw [hg]; exact (below_size (by repeat (first | (with_reducible first | exact HB.out | apply below_alloc | apply pw_below_drewN | apply below_drew1) | exact HB.out))) : w.heap.size ≤ gb161)); have n3_ := Aside0.mk ((by rw [hg]; exact (below_size (by repeat (first | (with_reducible first | exact HB.out | apply below_alloc | apply pw_below_drewN | apply below_drew1) | exact HB.out))) : w.heap.size ≤ gb161)); clear HB; have HB := n0_; have BK161 := n1_; have GW161 := n2_; have GE161 := n3_; clear n0_ n1_ n2_ n3_; clear hb hbox hg; have hcz6_0 : w5.cell? ⟨gb161, 0, none⟩ = some (.int .i64 a0_0) := (blk_cell BK161.out 0).trans rfl; have hcz6_1 : w5.cell? ⟨gb161, 1, none⟩ = some (.bool true) := (blk_cell BK161.out 1).trans rfl; have hfz6_0 := blk_frozen BK161.out 0; have hfz6_1 := blk_frozen BK161.out 1))
    go_ret
    exact ⟨by first | rfl | (simp [errW_none, errW_some] <;> rfl) | (simp [*, errW_none, errW_some] <;> rfl), by repeat (first | (with_reducible first | exact HB.out | apply below_alloc | apply pw_below_drewN | apply below_drew1 | refine below_set ?_ GE161.out) | exact HB.out)⟩
   ·
    replace c4 := Bool.eq_false_iff.mpr c4; subst c4; have H1 : (some true) = some r := by rw [if_neg (show ¬ (false = true) by decide)] at H; exact H
    clear H; have H := H1; clear H1; obtain rfl := Option.some.inj H; go_enter Tryd.func68, Tryd.ntmps68
    go_wp2_with (first | ((with_reducible refine gate_dst (N := 1) rfl ?_); refine box_event ?hg (N := 1) ?hd (cs := #[.int .i64 a0_0, .bool false]) (t := 29) ?hr ?_; (case hd => rfl); (case hg => rfl); (case hr => first | (go_simp; done) | (go_simp; rfl)); intro gb161 hg w7 hbox hb; have n0_ := Aside0.mk (below_step (by repeat (first | (with_reducible first | exact HB.out | apply below_alloc | apply pw_below_drewN | apply below_drew1) | exact HB.out)) hb); have n1_ := Aside0.mk (hbox); have n2_ := Aside0.mk ((by rw [hg]; exact (below_size (by repeat (first | (with_reducible first | exact HB.out | apply below_alloc | apply pw_below_drewN | apply below_drew1) | exact HB.out))) : w.heap.size ≤ gb161)); have n3_ := Aside0.mk ((by rw [hg]; exact (below_size (by repeat (first | (with_reducible first | exact HB.out | apply below_alloc | apply pw_below_drewN | apply below_drew1) | exact HB.out))) : w.heap.size ≤ gb161)); clear HB; have HB := n0_; have BK161 := n1_; have GW161 := n2_; have GE161 := n3_; clear n0_ n1_ n2_ n3_; clear hb hbox hg; have hcz8_0 : w7.cell? ⟨gb161, 0, none⟩ = some (.int .i64 a0_0) := (blk_cell BK161.out 0).trans rfl; have hcz8_1 : w7.cell? ⟨gb161, 1, none⟩ = some (.bool false) := (blk_cell BK161.out 1).trans rfl; have hfz8_0 := blk_frozen BK161.out 0; have hfz8_1 := blk_frozen BK161.out 1))
    go_ret
    exact ⟨by first | rfl | (simp [errW_none, errW_some] <;> rfl) | (simp [*, errW_none, errW_some] <;> rfl), by repeat (first | (with_reducible first | exact HB.out | apply below_alloc | apply pw_below_drewN | apply below_drew1 | refine below_set ?_ GE161.out) | exact HB.out)⟩
  ·
   rw [if_neg c3] at H; have c3b0 : decide (a0_0 ≤ 20) = false := decide_eq_false c3; clear c3; obtain rfl := Option.some.inj H; go_enter Tryd.func68, Tryd.ntmps68
   go_wp2_with (first | ((with_reducible refine gate_dst (N := 1) rfl ?_); refine box_event ?hg (N := 1) ?hd (cs := #[.int .i64 a0_0, .bool a0_1]) (t := 29) ?hr ?_; (case hd => rfl); (case hg => rfl); (case hr => first | (go_simp; done) | (go_simp; rfl)); intro gb161 hg w9 hbox hb; have n0_ := Aside0.mk (below_step (by repeat (first | (with_reducible first | exact HB.out | apply below_alloc | apply pw_below_drewN | apply below_drew1) | exact HB.out)) hb); have n1_ := Aside0.mk (hbox); have n2_ := Aside0.mk ((by rw [hg]; exact (below_size (by repeat (first | (with_reducible first | exact HB.out | apply below_alloc | apply pw_below_drewN | apply below_drew1) | exact HB.out))) : w.heap.size ≤ gb161)); have n3_ := Aside0.mk ((by rw [hg]; exact (below_size (by repeat (first | (with_reducible first | exact HB.out | apply below_alloc | apply pw_below_drewN | apply below_drew1) | exact HB.out))) : w.heap.size ≤ gb161)); clear HB; have HB := n0_; have BK161 := n1_; have GW161 := n2_; have GE161 := n3_; clear n0_ n1_ n2_ n3_; clear hb hbox hg; have hcz10_0 : w9.cell? ⟨gb161, 0, none⟩ = some (.int .i64 a0_0) := (blk_cell BK161.out 0).trans rfl; have hcz10_1 : w9.cell? ⟨gb161, 1, none⟩ = some (.bool a0_1) := (blk_cell BK161.out 1).trans rfl; have hfz10_0 := blk_frozen BK161.out 0; have hfz10_1 := blk_frozen BK161.out 1))
   go_ret
   exact ⟨by first | rfl | (simp [errW_none, errW_some] <;> rfl) | (simp [*, errW_none, errW_some] <;> rfl), by repeat (first | (with_reducible first | exact HB.out | apply below_alloc | apply pw_below_drewN | apply below_drew1 | refine below_set ?_ GE161.out) | exact HB.out)⟩
 ·
  rw [if_neg c2] at H; have c2b0 : decide (0 ≤ a0_0) = false := decide_eq_false c2; clear c2; obtain rfl := Option.some.inj H; go_enter Tryd.func68, Tryd.ntmps68
  go_wp2_with (first | ((with_reducible refine gate_dst (N := 1) rfl ?_); refine box_event ?hg (N := 1) ?hd (cs := #[.int .i64 a0_0, .bool a0_1]) (t := 29) ?hr ?_; (case hd => rfl); (case hg => rfl); (case hr => first | (go_simp; done) | (go_simp; rfl)); intro gb161 hg w11 hbox hb; have n0_ := Aside0.mk (below_step (by repeat (first | (with_reducible first | exact HB.out | apply below_alloc | apply pw_below_drewN | apply below_drew1) | exact HB.out)) hb); have n1_ := Aside0.mk (hbox); have n2_ := Aside0.mk ((by rw [hg]; exact (below_size (by repeat (first | (with_reducible first | exact HB.out | apply below_alloc | apply pw_below_drewN | apply below_drew1) | exact HB.out))) : w.heap.size ≤ gb161)); have n3_ := Aside0.mk ((by rw [hg]; exact (below_size (by repeat (first | (with_reducible first | exact HB.out | apply below_alloc | apply pw_below_drewN | apply below_drew1) | exact HB.out))) : w.heap.size ≤ gb161)); clear HB; have HB := n0_; have BK161 := n1_; have GW161 := n2_; have GE161 := n3_; clear n0_ n1_ n2_ n3_; clear hb hbox hg; have hcz12_0 : w11.cell? ⟨gb161, 0, none⟩ = some (.int .i64 a0_0) := (blk_cell BK161.out 0).trans rfl; have hcz12_1 : w11.cell? ⟨gb161, 1, none⟩ = some (.bool a0_1) := (blk_cell BK161.out 1).trans rfl; have hfz12_0 := blk_frozen BK161.out 0; have hfz12_1 := blk_frozen BK161.out 1))
  go_ret
  exact ⟨by first | rfl | (simp [errW_none, errW_some] <;> rfl) | (simp [*, errW_none, errW_some] <;> rfl), by repeat (first | (with_reducible first | exact HB.out | apply below_alloc | apply pw_below_drewN | apply below_drew1 | refine below_set ?_ GE161.out) | exact HB.out)⟩

end Go.Proofs.YtpcohkffbjdmfaaDoor.PFnExactPsalmFits
namespace Go.Proofs.YtpcohkffbjdmfaaDoor.PFnExactPsalmFits
open Go.RowKit Go.Proofs.YtpcohkffbjdmfaaDoorW.PrintWords Go.Proofs.YtpcohkffbjdmfaaDoorW.PrintLast Go.Proofs.YtpcohkffbjdmfaaDoorW.PrintMore
attribute [local go_sem] max2_int min2_int max_two min_two max_three min_three max_four min_four   -- for this text's walks alone
set_option linter.unusedVariables false
set_option linter.unusedSimpArgs false

def impl_MelodyValid.l0 : Nat → List (S29) → Int → Int → Option (Bool)
 | 0, _, _, _ => none
 | k + 1, x8, x9, x10 => if x10 < x9 then (if 0 ≤ x10 then (if x10 < (x8.length : Int) then ((impl_Tone_valid.f ((rd_T29 x8 x10).f0) ((rd_T29 x8 x10).f1)).bind fun t164 => (if t164 = true then (impl_MelodyValid.l0 k x8 x9 (wrap64 (x10 + 1))) else (some false))) else (none)) else (none)) else (some true)
def impl_MelodyValid.f (k : Nat) (l0 : List (S29)) : Option (Bool) := if (l0.length : Int) > 24 then (some false) else (impl_MelodyValid.l0 k l0 (l0.length : Int) 0)
set_option maxHeartbeats 8000000 in
set_option maxRecDepth 100000 in
theorem impl_MelodyValid.calls (k : Nat) (A0 : Option Addr) (c0 : Nat) (l0 : List (S29)) (r : Bool) (w : World) (hr0 : Kd.C k29 w A0 l0.length l0) (hc0 : l0.length ≤ c0) (h : impl_MelodyValid.f k l0 = some r) :
 Calls Tryd.prog 61 #[.slice A0 l0.length c0] w fun e w' => e = .returned (.bool r) ∧ Below w.heap.size w w' := by
 have hu29 := Tryd.underlying29; have HR0 := Aside0.mk hr0; have HC0 := Aside0.mk hc0; clear hr0 hc0; have HB := Aside0.mk (Below.refl w.heap.size w); have H : (if (l0.length : Int) > 24 then (some false) else (impl_MelodyValid.l0 k l0 (l0.length : Int) 0)) = some r := h; clear h; by_cases c2 : (l0.length : Int) > 24
 ·
  rw [if_pos c2] at H; have c2b0 : decide (24 < (l0.length : Int)) = true := decide_eq_true c2; have c2b1 : decide (24 < l0.length) = true := decide_eq_true (by omega); clear c2; obtain rfl := Option.some.inj H; go_enter Tryd.func61, Tryd.ntmps61
  go_wp2; go_ret
  exact ⟨by first | rfl | (simp [errW_none, errW_some] <;> rfl) | (simp [*, errW_none, errW_some] <;> rfl), by repeat (first | (with_reducible first | exact HB.out | apply below_alloc | apply pw_below_drewN | apply below_drew1) | exact HB.out)⟩
 ·
  rw [if_neg c2] at H; have c2b0 : decide (24 < (l0.length : Int)) = false := decide_eq_false c2; have c2b1 : decide (24 < l0.length) = false := decide_eq_false (by omega); clear c2; have H' := Aside0.mk H; clear H; go_enter Tryd.func61, Tryd.ntmps61
  go_wp2; go_loopg [10] k (fun kq v10 w' => ∃ (x10_1 : Int), v10 = .int .i64 x10_1 ∧ Aside0 (impl_MelodyValid.l0 kq l0 (l0.length : Int) x10_1 = some r) ∧ Aside0 (kq ≤ k) ∧ Aside0 (Below w.heap.size w w'))
  case atStart => exact ⟨(0), (by first | rfl | (simp; done) | (simp [*]; done)), H', ⟨Nat.le_refl _⟩, ⟨by repeat (first | (with_reducible first | exact HB.out | apply below_alloc | apply pw_below_drewN | apply below_drew1) | exact HB.out)⟩⟩
  case round =>
   clear H'; try clear c2
   try clear c2b0
   try clear c2b1
   try clear p2
   obtain ⟨x10_1, rfl, HA, HK1, HB⟩ := hrel; cases gk with
   | zero => exact absurd HA.out (by simp [impl_MelodyValid.l0])
   | succ k1 =>
    have H := HA.out; clear HA; simp only [impl_MelodyValid.l0] at H; by_cases c3 : x10_1 < (l0.length : Int)
    ·
     rw [if_pos c3] at H; have c3b0 : decide (x10_1 < (l0.length : Int)) = true := decide_eq_true c3; clear c3; by_cases c4 : 0 ≤ x10_1
     ·
      rw [if_pos c4] at H; have c4b0 : decide (0 ≤ x10_1) = true := decide_eq_true c4; clear c4; by_cases c5 : x10_1 < (l0.length : Int)
      ·
       rw [if_pos c5] at H; have c5b0 : decide (x10_1 < (l0.length : Int)) = true := decide_eq_true c5; clear c5; replace H := Option.bind_eq_some_iff.mp H; obtain ⟨t164, A60, H⟩ := H; replace H : (if t164 = true then (impl_MelodyValid.l0 k1 l0 (l0.length : Int) (wrap64 (x10_1 + 1))) else (some false)) = some r := H; have A6 := Aside0.mk A60; clear A60; by_cases c7 : t164 = true
       ·
        subst c7; have H1 : (impl_MelodyValid.l0 k1 l0 (l0.length : Int) (wrap64 (x10_1 + 1))) = some r := by rw [if_pos rfl] at H; exact H
        clear H; have H := H1; clear H1; have H' := Aside0.mk H; clear H; have p162 : 0 ≤ (x10_1 : Int) := of_decide_eq_true (by first | (with_reducible assumption) | assumption); have q162 : x10_1 < (l0.length : Int) := of_decide_eq_true (by first | (with_reducible assumption) | assumption); obtain ⟨ad162, e162, hx162_0, hx162_1⟩ := at_T29 HR0.out x10_1 p162 q162; cases e162; replace hx162_0 := (HB.out.cell (World.block_lt_of_cell? w _ hx162_0)).trans hx162_0; replace hx162_1 := (HB.out.cell (World.block_lt_of_cell? w _ hx162_1)).trans hx162_1; replace p162 := eq_true p162; replace q162 := eq_true q162; go_wp2_with (first | ((with_reducible refine gate_dst (N := 4) rfl ?_); refine box_event ?hg (N := 4) ?hd (cs := #[.int .i64 0, .bool false]) (t := 29) ?hr ?_; (case hd => rfl); (case hg => rfl); (case hr => first | (go_simp; done) | (go_simp; rfl)); intro gb163 hg w8 hbox hb; have n0_ := Aside0.mk (below_step (by repeat (first | (with_reducible first | exact HB.out | apply below_alloc | apply pw_below_drewN | apply below_drew1) | exact HB.out)) hb); have n1_ := Aside0.mk (hbox); have n2_ := Aside0.mk ((by rw [hg]; exact (below_size (by repeat (first | (with_reducible first | exact HB.out | apply below_alloc | apply pw_below_drewN | apply below_drew1) | exact HB.out))) : w.heap.size ≤ gb163)); have n3_ := Aside0.mk ((by rw [hg]; exact (below_size (by repeat (first | (with_reducible first | exact HB.out | apply below_alloc | apply pw_below_drewN | apply below_drew1) | exact HB.out))) : w.heap.size ≤ gb163)); clear HB; have HB := n0_; have BK163 := n1_; have GW163 := n2_; have GE163 := n3_; clear n0_ n1_ n2_ n3_; clear hb hbox hg; have hcz9_0 : w8.cell? ⟨gb163, 0, none⟩ = some (.int .i64 0) := (blk_cell BK163.out 0).trans rfl; have hcz9_1 : w8.cell? ⟨gb163, 1, none⟩ = some (.bool false) := (blk_cell BK163.out 1).trans rfl; have hfz9_0 := blk_frozen BK163.out 0; have hfz9_1 := blk_frozen BK163.out 1) | ((with_reducible refine gate_callee (f := 68) rfl ?_); refine goesL_ (some 15) rfl rfl Tryd.func68 (by kernel_rfl) rfl #[.agg #[.int .i64 ((rd_T29 l0 x10_1).f0), .bool ((rd_T29 l0 x10_1).f1)]] rfl (by (try simp only [List.map_toArray, List.map_cons, List.map_nil]); first | done | rfl | (simp only [List.length_drop, List.length_take]; rfl)) ?_; (with_reducible refine (impl_Tone_valid.calls ((rd_T29 l0 x10_1).f0) ((rd_T29 l0 x10_1).f1) true _ A6.out).mono ?_); rintro e w10 ⟨rfl, hb⟩; refine ⟨_, rfl, ?_⟩; have n0_ := Aside0.mk (blk_below (g := gb163) (o := .cells #[.int .i64 ((rd_T29 l0 x10_1).f0), .bool ((rd_T29 l0 x10_1).f1)] 29 (0, 0)) (by (with_reducible repeat (first | refine blk_drewN ?_ _ | refine blk_drew ?_ | refine blk_alloc ?_ _)); refine blk_put (cs := #[.int .i64 ((rd_T29 l0 x10_1).f0), .bool false]) ?_ 1 _ rfl; (with_reducible repeat (first | refine blk_drewN ?_ _ | refine blk_drew ?_ | refine blk_alloc ?_ _)); refine blk_put (cs := #[.int .i64 0, .bool false]) ?_ 0 _ rfl; (with_reducible repeat (first | refine blk_drewN ?_ _ | refine blk_drew ?_ | refine blk_alloc ?_ _)); exact BK163.out) hb); have n1_ := Aside0.mk (below_step (by repeat (first | (with_reducible first | exact HB.out | apply below_alloc | apply pw_below_drewN | apply below_drew1 | refine below_set ?_ GE163.out) | exact HB.out)) hb); clear BK163; clear HB; have BK163 := n0_; have HB := n1_; clear n0_ n1_; (try clear hb); (try clear hb2); (try clear hk); (try clear hi)))
        go_roundg k1
        case measure => have := HK1.out; omega
        case rel => exact ⟨(wrap64 (x10_1 + 1)), (by first | rfl | (simp; done) | (simp [*]; done)), H', ⟨by have := HK1.out; omega⟩, ⟨by repeat (first | (with_reducible first | exact HB.out | apply below_alloc | apply pw_below_drewN | apply below_drew1 | refine below_set ?_ GE163.out) | exact HB.out)⟩⟩
       ·
        replace c7 := Bool.eq_false_iff.mpr c7; subst c7; have H1 : (some false) = some r := by rw [if_neg (show ¬ (false = true) by decide)] at H; exact H
        clear H; have H := H1; clear H1; obtain rfl := Option.some.inj H; have p162 : 0 ≤ (x10_1 : Int) := of_decide_eq_true (by first | (with_reducible assumption) | assumption); have q162 : x10_1 < (l0.length : Int) := of_decide_eq_true (by first | (with_reducible assumption) | assumption); obtain ⟨ad162, e162, hx162_0, hx162_1⟩ := at_T29 HR0.out x10_1 p162 q162; cases e162; replace hx162_0 := (HB.out.cell (World.block_lt_of_cell? w _ hx162_0)).trans hx162_0; replace hx162_1 := (HB.out.cell (World.block_lt_of_cell? w _ hx162_1)).trans hx162_1; replace p162 := eq_true p162; replace q162 := eq_true q162; go_wp2_with (first | ((with_reducible refine gate_dst (N := 4) rfl ?_); refine box_event ?hg (N := 4) ?hd (cs := #[.int .i64 0, .bool false]) (t := 29) ?hr ?_; (case hd => rfl); (case hg => rfl); (case hr => first | (go_simp; done) | (go_simp; rfl)); intro gb163 hg w11 hbox hb; have n0_ := Aside0.mk (below_step (by repeat (first | (with_reducible first | exact HB.out | apply below_alloc | apply pw_below_drewN | apply below_drew1) | exact HB.out)) hb); have n1_ := Aside0.mk (hbox); have n2_ := Aside0.mk ((by rw [hg]; exact (below_size (by repeat (first | (with_reducible first | exact HB.out | apply below_alloc | apply pw_below_drewN | apply below_drew1) | exact HB.out))) : w.heap.size ≤ gb163)); have n3_ := Aside0.mk ((by rw [hg]; exact (below_size (by repeat (first | (with_reducible first | exact HB.out | apply below_alloc | apply pw_below_drewN | apply below_drew1) | exact HB.out))) : w.heap.size ≤ gb163)); clear HB; have HB := n0_; have BK163 := n1_; have GW163 := n2_; have GE163 := n3_; clear n0_ n1_ n2_ n3_; clear hb hbox hg; have hcz12_0 : w11.cell? ⟨gb163, 0, none⟩ = some (.int .i64 0) := (blk_cell BK163.out 0).trans rfl; have hcz12_1 : w11.cell? ⟨gb163, 1, none⟩ = some (.bool false) := (blk_cell BK163.out 1).trans rfl; have hfz12_0 := blk_frozen BK163.out 0; have hfz12_1 := blk_frozen BK163.out 1) | ((with_reducible refine gate_callee (f := 68) rfl ?_); refine goesL_ (some 15) rfl rfl Tryd.func68 (by kernel_rfl) rfl #[.agg #[.int .i64 ((rd_T29 l0 x10_1).f0), .bool ((rd_T29 l0 x10_1).f1)]] rfl (by (try simp only [List.map_toArray, List.map_cons, List.map_nil]); first | done | rfl | (simp only [List.length_drop, List.length_take]; rfl)) ?_; (with_reducible refine (impl_Tone_valid.calls ((rd_T29 l0 x10_1).f0) ((rd_T29 l0 x10_1).f1) false _ A6.out).mono ?_); rintro e w13 ⟨rfl, hb⟩; refine ⟨_, rfl, ?_⟩; have n0_ := Aside0.mk (blk_below (g := gb163) (o := .cells #[.int .i64 ((rd_T29 l0 x10_1).f0), .bool ((rd_T29 l0 x10_1).f1)] 29 (0, 0)) (by (with_reducible repeat (first | refine blk_drewN ?_ _ | refine blk_drew ?_ | refine blk_alloc ?_ _)); refine blk_put (cs := #[.int .i64 ((rd_T29 l0 x10_1).f0), .bool false]) ?_ 1 _ rfl; (with_reducible repeat (first | refine blk_drewN ?_ _ | refine blk_drew ?_ | refine blk_alloc ?_ _)); refine blk_put (cs := #[.int .i64 0, .bool false]) ?_ 0 _ rfl; (with_reducible repeat (first | refine blk_drewN ?_ _ | refine blk_drew ?_ | refine blk_alloc ?_ _)); exact BK163.out) hb); have n1_ := Aside0.mk (below_step (by repeat (first | (with_reducible first | exact HB.out | apply below_alloc | apply pw_below_drewN | apply below_drew1 | refine below_set ?_ GE163.out) | exact HB.out)) hb); clear BK163; clear HB; have BK163 := n0_; have HB := n1_; clear n0_ n1_; (try clear hb); (try clear hb2); (try clear hk); (try clear hi)))
        go_ret
        exact ⟨by first | rfl | (simp [errW_none, errW_some] <;> rfl) | (simp [*, errW_none, errW_some] <;> rfl), by repeat (first | (with_reducible first | exact HB.out | apply below_alloc | apply pw_below_drewN | apply below_drew1 | refine below_set ?_ GE163.out) | exact HB.out)⟩
      ·
       rw [if_neg c5] at H; exact absurd H (by simp)
     ·
      rw [if_neg c4] at H; exact absurd H (by simp)
    ·
     rw [if_neg c3] at H; have c3b0 : decide (x10_1 < (l0.length : Int)) = false := decide_eq_false c3; clear c3; obtain rfl := Option.some.inj H; go_wp2; go_ret
     exact ⟨by first | rfl | (simp [errW_none, errW_some] <;> rfl) | (simp [*, errW_none, errW_some] <;> rfl), by repeat (first | (with_reducible first | exact HB.out | apply below_alloc | apply pw_below_drewN | apply below_drew1) | exact HB.out)⟩

end Go.Proofs.YtpcohkffbjdmfaaDoor.PFnExactPsalmFits
namespace Go.Proofs.YtpcohkffbjdmfaaDoor.PFnExactPsalmFits
open Go.RowKit Go.Proofs.YtpcohkffbjdmfaaDoorW.PrintWords Go.Proofs.YtpcohkffbjdmfaaDoorW.PrintLast Go.Proofs.YtpcohkffbjdmfaaDoorW.PrintMore
attribute [local go_sem] max2_int min2_int max_two min_two max_three min_three max_four min_four   -- for this text's walks alone
set_option linter.unusedVariables false
set_option linter.unusedSimpArgs false

def impl_tonesValid.f (k : Nat) (l0 : List (S29)) (a1 : Int) (a2 : Int) : Option (Bool) := if (l0.length : Int) ≥ a1 then (if (l0.length : Int) ≤ a2 then ((impl_MelodyValid.f k l0).bind fun t165 => (some t165)) else (some false)) else (some false)
set_option maxHeartbeats 8000000 in
set_option maxRecDepth 100000 in
theorem impl_tonesValid.calls (k : Nat) (A0 : Option Addr) (c0 : Nat) (l0 : List (S29)) (a1 : Int) (a2 : Int) (r : Bool) (w : World) (hr0 : Kd.C k29 w A0 l0.length l0) (hc0 : l0.length ≤ c0) (h : impl_tonesValid.f k l0 a1 a2 = some r) :
 Calls Tryd.prog 87 #[.slice A0 l0.length c0, .int .i64 a1, .int .i64 a2] w fun e w' => e = .returned (.bool r) ∧ Below w.heap.size w w' := by
 have HR0 := Aside0.mk hr0; have HC0 := Aside0.mk hc0; clear hr0 hc0; have HB := Aside0.mk (Below.refl w.heap.size w); have H : (if (l0.length : Int) ≥ a1 then (if (l0.length : Int) ≤ a2 then ((impl_MelodyValid.f k l0).bind fun t165 => (some t165)) else (some false)) else (some false)) = some r := h; clear h; by_cases c4 : (l0.length : Int) ≥ a1
 ·
  rw [if_pos c4] at H; have c4b0 : decide (a1 ≤ (l0.length : Int)) = true := decide_eq_true c4; clear c4; by_cases c5 : (l0.length : Int) ≤ a2
  ·
   rw [if_pos c5] at H; have c5b0 : decide ((l0.length : Int) ≤ a2) = true := decide_eq_true c5; clear c5; replace H := Option.bind_eq_some_iff.mp H; obtain ⟨t165, A60, H⟩ := H; replace H : (some t165) = some r := H; have A6 := Aside0.mk A60; clear A60; obtain rfl := Option.some.inj H; go_enter Tryd.func87, Tryd.ntmps87
   go_wp2_with (first | (go_at_call 61; (with_reducible refine (impl_MelodyValid.calls k _ _ l0 t165 _ ?side1 ?side2 A6.out).mono ?_); (case side1 => repeat (first | exact HR0.out | (with_reducible refine Kd.C_alloc ?_ _) | (with_reducible refine Kd.C_drewN ?_ _) | (with_reducible refine Kd.C_drew ?_))); (case side2 => exact HC0.out); rintro e w7 ⟨rfl, hb⟩; have n0_ := Aside0.mk (below_step (by repeat (first | (with_reducible first | exact HB.out | apply below_alloc | apply pw_below_drewN | apply below_drew1) | exact HB.out)) hb); clear HB; have HB := n0_; clear n0_; (try clear hb); (try clear hb2); (try clear hk); (try clear hi)))
   go_ret
   exact ⟨by first | rfl | (simp [errW_none, errW_some] <;> rfl) | (simp [*, errW_none, errW_some] <;> rfl), by repeat (first | (with_reducible first | exact HB.out | apply below_alloc | apply pw_below_drewN | apply below_drew1) | exact HB.out)⟩
  ·
   rw [if_neg c5] at H; have c5b0 : decide ((l0.length : Int) ≤ a2) = false := decide_eq_false c5; clear c5; obtain rfl := Option.some.inj H; go_enter Tryd.func87, Tryd.ntmps87
   go_wp2; go_ret
   exact ⟨by first | rfl | (simp [errW_none, errW_some] <;> rfl) | (simp [*, errW_none, errW_some] <;> rfl), by repeat (first | (with_reducible first | exact HB.out | apply below_alloc | apply pw_below_drewN | apply below_drew1) | exact HB.out)⟩
 ·
  rw [if_neg c4] at H; have c4b0 : decide (a1 ≤ (l0.length : Int)) = false := decide_eq_false c4; clear c4; obtain rfl := Option.some.inj H; go_enter Tryd.func87, Tryd.ntmps87
  go_wp2; go_ret
  exact ⟨by first | rfl | (simp [errW_none, errW_some] <;> rfl) | (simp [*, errW_none, errW_some] <;> rfl), by repeat (first | (with_reducible first | exact HB.out | apply below_alloc | apply pw_below_drewN | apply below_drew1) | exact HB.out)⟩

end Go.Proofs.YtpcohkffbjdmfaaDoor.PFnExactPsalmFits
namespace Go.Proofs.YtpcohkffbjdmfaaDoor.PFnExactPsalmFits
open Go.RowKit Go.Proofs.YtpcohkffbjdmfaaDoorW.PrintWords Go.Proofs.YtpcohkffbjdmfaaDoorW.PrintLast Go.Proofs.YtpcohkffbjdmfaaDoorW.PrintMore
attribute [local go_sem] max2_int min2_int max_two min_two max_three min_three max_four min_four   -- for this text's walks alone
set_option linter.unusedVariables false
set_option linter.unusedSimpArgs false

def impl_PsalmValid.f (k : Nat) (l0_0 : List (S29)) (a0_1 : Int) (a0_2 : Bool) (l0_3 : List (S29)) (l0_4 : List (S29)) : Option (Bool) := (impl_tonesValid.f k l0_0 0 3).bind fun t167 => (if t167 = true then ((impl_Tone_valid.f a0_1 a0_2).bind fun t168 => (if t168 = true then ((impl_tonesValid.f k l0_3 1 4).bind fun t169 => (if t169 = true then ((impl_tonesValid.f k l0_4 1 4).bind fun t170 => (some t170)) else (some false))) else (some false))) else (some false))
set_option maxHeartbeats 8000000 in
set_option maxRecDepth 100000 in
theorem impl_PsalmValid.calls (k : Nat) (A0_0 : Option Addr) (c0_0 : Nat) (l0_0 : List (S29)) (a0_1 : Int) (a0_2 : Bool) (A0_3 : Option Addr) (c0_3 : Nat) (l0_3 : List (S29)) (A0_4 : Option Addr) (c0_4 : Nat) (l0_4 : List (S29)) (r : Bool) (w : World) (hr0_0 : Kd.C k29 w A0_0 l0_0.length l0_0) (hc0_0 : l0_0.length ≤ c0_0) (hr0_3 : Kd.C k29 w A0_3 l0_3.length l0_3) (hc0_3 : l0_3.length ≤ c0_3) (hr0_4 : Kd.C k29 w A0_4 l0_4.length l0_4) (hc0_4 : l0_4.length ≤ c0_4) (h : impl_PsalmValid.f k l0_0 a0_1 a0_2 l0_3 l0_4 = some r) :
 Calls Tryd.prog 48 #[.agg #[.slice A0_0 l0_0.length c0_0, .int .i64 a0_1, .bool a0_2, .slice A0_3 l0_3.length c0_3, .slice A0_4 l0_4.length c0_4]] w fun e w' => e = .returned (.bool r) ∧ Below w.heap.size w w' := by
 have hu31 := Tryd.underlying31; have hu29 := Tryd.underlying29; have HR0_0 := Aside0.mk hr0_0; have HC0_0 := Aside0.mk hc0_0; clear hr0_0 hc0_0; have HR0_3 := Aside0.mk hr0_3; have HC0_3 := Aside0.mk hc0_3; clear hr0_3 hc0_3; have HR0_4 := Aside0.mk hr0_4; have HC0_4 := Aside0.mk hc0_4; clear hr0_4 hc0_4; have HB := Aside0.mk (Below.refl w.heap.size w); have H : ((impl_tonesValid.f k l0_0 0 3).bind fun t167 => (if t167 = true then ((impl_Tone_valid.f a0_1 a0_2).bind fun t168 => (if t168 = true then ((impl_tonesValid.f k l0_3 1 4).bind fun t169 => (if t169 = true then ((impl_tonesValid.f k l0_4 1 4).bind fun t170 => (some t170)) else (some false))) else (some false))) else (some false))) = some r := h; clear h; replace H := Option.bind_eq_some_iff.mp H; obtain ⟨t167, A20, H⟩ := H; replace H : (if t167 = true then ((impl_Tone_valid.f a0_1 a0_2).bind fun t168 => (if t168 = true then ((impl_tonesValid.f k l0_3 1 4).bind fun t169 => (if t169 = true then ((impl_tonesValid.f k l0_4 1 4).bind fun t170 => (some t170)) else (some false))) else (some false))) else (some false)) = some r := H; have A2 := Aside0.mk A20; clear A20; by_cases c3 : t167 = true
 ·
  subst c3; have H1 : ((impl_Tone_valid.f a0_1 a0_2).bind fun t168 => (if t168 = true then ((impl_tonesValid.f k l0_3 1 4).bind fun t169 => (if t169 = true then ((impl_tonesValid.f k l0_4 1 4).bind fun t170 => (some t170)) else (some false))) else (some false))) = some r := by rw [if_pos rfl] at H; exact H
  clear H; have H := H1; clear H1; replace H := Option.bind_eq_some_iff.mp H; obtain ⟨t168, A40, H⟩ := H; replace H : (if t168 = true then ((impl_tonesValid.f k l0_3 1 4).bind fun t169 => (if t169 = true then ((impl_tonesValid.f k l0_4 1 4).bind fun t170 => (some t170)) else (some false))) else (some false)) = some r := H; have A4 := Aside0.mk A40; clear A40; by_cases c5 : t168 = true
  ·
   subst c5; have H1 : ((impl_tonesValid.f k l0_3 1 4).bind fun t169 => (if t169 = true then ((impl_tonesValid.f k l0_4 1 4).bind fun t170 => (some t170)) else (some false))) = some r := by rw [if_pos rfl] at H; exact H
   clear H; have H := H1; clear H1; replace H := Option.bind_eq_some_iff.mp H; obtain ⟨t169, A60, H⟩ := H; replace H : (if t169 = true then ((impl_tonesValid.f k l0_4 1 4).bind fun t170 => (some t170)) else (some false)) = some r := H; have A6 := Aside0.mk A60; clear A60; by_cases c7 : t169 = true
   ·
    subst c7; have H1 : ((impl_tonesValid.f k l0_4 1 4).bind fun t170 => (some t170)) = some r := by rw [if_pos rfl] at H; exact H
    clear H; have H := H1; clear H1; replace H := Option.bind_eq_some_iff.mp H; obtain ⟨t170, A80, H⟩ := H; replace H : (some t170) = some r := H; have A8 := Aside0.mk A80; clear A80; obtain rfl := Option.some.inj H; go_enter Tryd.func48, Tryd.ntmps48
    go_wp2_with (first | ((with_reducible refine gate_dst (N := 1) rfl ?_); refine box_event ?hg (N := 1) ?hd (cs := #[.slice A0_0 l0_0.length c0_0, .int .i64 a0_1, .bool a0_2, .slice A0_3 l0_3.length c0_3, .slice A0_4 l0_4.length c0_4]) (t := 31) ?hr ?_; (case hd => rfl); (case hg => rfl); (case hr => first | (go_simp; done) | (go_simp; rfl)); intro gb166 hg w9 hbox hb; have n0_ := Aside0.mk (below_step (by repeat (first | (with_reducible first | exact HB.out | apply below_alloc | apply pw_below_drewN | apply below_drew1) | exact HB.out)) hb); have n1_ := Aside0.mk (hbox); have n2_ := Aside0.mk ((by rw [hg]; exact (below_size (by repeat (first | (with_reducible first | exact HB.out | apply below_alloc | apply pw_below_drewN | apply below_drew1) | exact HB.out))) : w.heap.size ≤ gb166)); have n3_ := Aside0.mk ((by rw [hg]; exact (below_size (by repeat (first | (with_reducible first | exact HB.out | apply below_alloc | apply pw_below_drewN | apply below_drew1) | exact HB.out))) : w.heap.size ≤ gb166)); clear HB; have HB := n0_; have BK166 := n1_; have GW166 := n2_; have GE166 := n3_; clear n0_ n1_ n2_ n3_; clear hb hbox hg; have hcz10_0 : w9.cell? ⟨gb166, 0, none⟩ = some (.slice A0_0 l0_0.length c0_0) := (blk_cell BK166.out 0).trans rfl; have hcz10_1 : w9.cell? ⟨gb166, 1, none⟩ = some (.int .i64 a0_1) := (blk_cell BK166.out 1).trans rfl; have hcz10_2 : w9.cell? ⟨gb166, 2, none⟩ = some (.bool a0_2) := (blk_cell BK166.out 2).trans rfl; have hcz10_3 : w9.cell? ⟨gb166, 3, none⟩ = some (.slice A0_3 l0_3.length c0_3) := (blk_cell BK166.out 3).trans rfl; have hcz10_4 : w9.cell? ⟨gb166, 4, none⟩ = some (.slice A0_4 l0_4.length c0_4) := (blk_cell BK166.out 4).trans rfl; have hfz10_0 := blk_frozen BK166.out 0; have hfz10_1 := blk_frozen BK166.out 1; have hfz10_2 := blk_frozen BK166.out 2; have hfz10_3 := blk_frozen BK166.out 3; have hfz10_4 := blk_frozen BK166.out 4) | ((with_reducible refine gate_callee (f := 87) rfl ?_); refine goesL_ (some 5) rfl rfl Tryd.func87 (by kernel_rfl) rfl #[.slice A0_0 l0_0.length c0_0, .int .i64 0, .int .i64 3] rfl (by (try simp only [List.map_toArray, List.map_cons, List.map_nil]); first | done | rfl | (simp only [List.length_drop, List.length_take]; rfl)) ?_; (with_reducible refine (impl_tonesValid.calls k _ _ l0_0 0 3 true _ ?side1 ?side2 A2.out).mono ?_); (case side1 => repeat (first | exact (Kd.C_below HR0_0.out HB.out) | (with_reducible refine Kd.C_alloc ?_ _) | (with_reducible refine Kd.C_drewN ?_ _) | (with_reducible refine Kd.C_drew ?_))); (case side2 => exact HC0_0.out); rintro e w11 ⟨rfl, hb⟩; refine ⟨_, rfl, ?_⟩; have n0_ := Aside0.mk (blk_below (g := gb166) (o := .cells #[.slice A0_0 l0_0.length c0_0, .int .i64 a0_1, .bool a0_2, .slice A0_3 l0_3.length c0_3, .slice A0_4 l0_4.length c0_4] 31 (0, 0)) (by (with_reducible repeat (first | refine blk_drewN ?_ _ | refine blk_drew ?_ | refine blk_alloc ?_ _)); exact BK166.out) hb); have n1_ := Aside0.mk (below_step (by repeat (first | (with_reducible first | exact HB.out | apply below_alloc | apply pw_below_drewN | apply below_drew1 | refine below_set ?_ GE166.out) | exact HB.out)) hb); clear BK166; clear HB; have BK166 := n0_; have HB := n1_; clear n0_ n1_; (try clear hb); (try clear hb2); (try clear hk); (try clear hi); have hcz12_0 : w11.cell? ⟨gb166, 0, none⟩ = some (.slice A0_0 l0_0.length c0_0) := (blk_cell BK166.out 0).trans rfl; have hcz12_1 : w11.cell? ⟨gb166, 1, none⟩ = some (.int .i64 a0_1) := (blk_cell BK166.out 1).trans rfl; have hcz12_2 : w11.cell? ⟨gb166, 2, none⟩ = some (.bool a0_2) := (blk_cell BK166.out 2).trans rfl; have hcz12_3 : w11.cell? ⟨gb166, 3, none⟩ = some (.slice A0_3 l0_3.length c0_3) := (blk_cell BK166.out 3).trans rfl; have hcz12_4 : w11.cell? ⟨gb166, 4, none⟩ = some (.slice A0_4 l0_4.length c0_4) := (blk_cell BK166.out 4).trans rfl; have hfz12_0 := blk_frozen BK166.out 0; have hfz12_1 := blk_frozen BK166.out 1; have hfz12_2 := blk_frozen BK166.out 2; have hfz12_3 := blk_frozen BK166.out 3; have hfz12_4 := blk_frozen BK166.out 4) | (go_at_call 68; (with_reducible refine (impl_Tone_valid.calls a0_1 a0_2 true _ A4.out).mono ?_); rintro e w13 ⟨rfl, hb⟩; have n0_ := Aside0.mk (blk_below (g := gb166) (o := .cells #[.slice A0_0 l0_0.length c0_0, .int .i64 a0_1, .bool a0_2, .slice A0_3 l0_3.length c0_3, .slice A0_4 l0_4.length c0_4] 31 (0, 0)) (by (with_reducible repeat (first | refine blk_drewN ?_ _ | refine blk_drew ?_ | refine blk_alloc ?_ _)); exact BK166.out) hb); have n1_ := Aside0.mk (below_step (by repeat (first | (with_reducible first | exact HB.out | apply below_alloc | apply pw_below_drewN | apply below_drew1 | refine below_set ?_ GE166.out) | exact HB.out)) hb); clear BK166; clear HB; have BK166 := n0_; have HB := n1_; clear n0_ n1_; (try clear hb); (try clear hb2); (try clear hk); (try clear hi); have hcz14_0 : w13.cell? ⟨gb166, 0, none⟩ = some (.slice A0_0 l0_0.length c0_0) := (blk_cell BK166.out 0).trans rfl; have hcz14_1 : w13.cell? ⟨gb166, 1, none⟩ = some (.int .i64 a0_1) := (blk_cell BK166.out 1).trans rfl; have hcz14_2 : w13.cell? ⟨gb166, 2, none⟩ = some (.bool a0_2) := (blk_cell BK166.out 2).trans rfl; have hcz14_3 : w13.cell? ⟨gb166, 3, none⟩ = some (.slice A0_3 l0_3.length c0_3) := (blk_cell BK166.out 3).trans rfl; have hcz14_4 : w13.cell? ⟨gb166, 4, none⟩ = some (.slice A0_4 l0_4.length c0_4) := (blk_cell BK166.out 4).trans rfl; have hfz14_0 := blk_frozen BK166.out 0; have hfz14_1 := blk_frozen BK166.out 1; have hfz14_2 := blk_frozen BK166.out 2; have hfz14_3 := blk_frozen BK166.out 3; have hfz14_4 := blk_frozen BK166.out 4) | (go_at_call 87; (with_reducible refine (impl_tonesValid.calls k _ _ l0_3 1 4 true _ ?side1 ?side2 A6.out).mono ?_); (case side1 => repeat (first | exact (Kd.C_below HR0_3.out HB.out) | (with_reducible refine Kd.C_alloc ?_ _) | (with_reducible refine Kd.C_drewN ?_ _) | (with_reducible refine Kd.C_drew ?_))); (case side2 => exact HC0_3.out); rintro e w15 ⟨rfl, hb⟩; have n0_ := Aside0.mk (blk_below (g := gb166) (o := .cells #[.slice A0_0 l0_0.length c0_0, .int .i64 a0_1, .bool a0_2, .slice A0_3 l0_3.length c0_3, .slice A0_4 l0_4.length c0_4] 31 (0, 0)) (by (with_reducible repeat (first | refine blk_drewN ?_ _ | refine blk_drew ?_ | refine blk_alloc ?_ _)); exact BK166.out) hb); have n1_ := Aside0.mk (below_step (by repeat (first | (with_reducible first | exact HB.out | apply below_alloc | apply pw_below_drewN | apply below_drew1 | refine below_set ?_ GE166.out) | exact HB.out)) hb); clear BK166; clear HB; have BK166 := n0_; have HB := n1_; clear n0_ n1_; (try clear hb); (try clear hb2); (try clear hk); (try clear hi); have hcz16_0 : w15.cell? ⟨gb166, 0, none⟩ = some (.slice A0_0 l0_0.length c0_0) := (blk_cell BK166.out 0).trans rfl; have hcz16_1 : w15.cell? ⟨gb166, 1, none⟩ = some (.int .i64 a0_1) := (blk_cell BK166.out 1).trans rfl; have hcz16_2 : w15.cell? ⟨gb166, 2, none⟩ = some (.bool a0_2) := (blk_cell BK166.out 2).trans rfl; have hcz16_3 : w15.cell? ⟨gb166, 3, none⟩ = some (.slice A0_3 l0_3.length c0_3) := (blk_cell BK166.out 3).trans rfl; have hcz16_4 : w15.cell? ⟨gb166, 4, none⟩ = some (.slice A0_4 l0_4.length c0_4) := (blk_cell BK166.out 4).trans rfl; have hfz16_0 := blk_frozen BK166.out 0; have hfz16_1 := blk_frozen BK166.out 1; have hfz16_2 := blk_frozen BK166.out 2; have hfz16_3 := blk_frozen BK166.out 3; have hfz16_4 := blk_frozen BK166.out 4) | (go_at_call 87; (with_reducible refine (impl_tonesValid.calls k _ _ l0_4 1 4 t170 _ ?side1 ?side2 A8.out).mono ?_); (case side1 => repeat (first | exact (Kd.C_below HR0_4.out HB.out) | (with_reducible refine Kd.C_alloc ?_ _) | (with_reducible refine Kd.C_drewN ?_ _) | (with_reducible refine Kd.C_drew ?_))); (case side2 => exact HC0_4.out); rintro e w17 ⟨rfl, hb⟩; have n0_ := Aside0.mk (blk_below (g := gb166) (o := .cells #[.slice A0_0 l0_0.length c0_0, .int .i64 a0_1, .bool a0_2, .slice A0_3 l0_3.length c0_3, .slice A0_4 l0_4.length c0_4] 31 (0, 0)) (by (with_reducible repeat (first | refine blk_drewN ?_ _ | refine blk_drew ?_ | refine blk_alloc ?_ _)); exact BK166.out) hb); have n1_ := Aside0.mk (below_step (by repeat (first | (with_reducible first | exact HB.out | apply below_alloc | apply pw_below_drewN | apply below_drew1 | refine below_set ?_ GE166.out) | exact HB.out)) hb); clear BK166; clear HB; have BK166 := n0_; have HB := n1_; clear n0_ n1_; (try clear hb); (try clear hb2); (try clear hk); (try clear hi)))
    go_ret
    exact ⟨by first | rfl | (simp [errW_none, errW_some] <;> rfl) | (simp [*, errW_none, errW_some] <;> rfl), by repeat (first | (with_reducible first | exact HB.out | apply below_alloc | apply pw_below_drewN | apply below_drew1 | refine below_set ?_ GE166.out) | exact HB.out)⟩
   ·
    replace c7 := Bool.eq_false_iff.mpr c7; subst c7; have H1 : (some false) = some r := by rw [if_neg (show ¬ (false = true) by decide)] at H; exact H
    clear H; have H := H1; clear H1; obtain rfl := Option.some.inj H; go_enter Tryd.func48, Tryd.ntmps48
    go_wp2_with (first | ((with_reducible refine gate_dst (N := 1) rfl ?_); refine box_event ?hg (N := 1) ?hd (cs := #[.slice A0_0 l0_0.length c0_0, .int .i64 a0_1, .bool a0_2, .slice A0_3 l0_3.length c0_3, .slice A0_4 l0_4.length c0_4]) (t := 31) ?hr ?_; (case hd => rfl); (case hg => rfl); (case hr => first | (go_simp; done) | (go_simp; rfl)); intro gb166 hg w18 hbox hb; have n0_ := Aside0.mk (below_step (by repeat (first | (with_reducible first | exact HB.out | apply below_alloc | apply pw_below_drewN | apply below_drew1) | exact HB.out)) hb); have n1_ := Aside0.mk (hbox); have n2_ := Aside0.mk ((by rw [hg]; exact (below_size (by repeat (first | (with_reducible first | exact HB.out | apply below_alloc | apply pw_below_drewN | apply below_drew1) | exact HB.out))) : w.heap.size ≤ gb166)); have n3_ := Aside0.mk ((by rw [hg]; exact (below_size (by repeat (first | (with_reducible first | exact HB.out | apply below_alloc | apply pw_below_drewN | apply below_drew1) | exact HB.out))) : w.heap.size ≤ gb166)); clear HB; have HB := n0_; have BK166 := n1_; have GW166 := n2_; have GE166 := n3_; clear n0_ n1_ n2_ n3_; clear hb hbox hg; have hcz19_0 : w18.cell? ⟨gb166, 0, none⟩ = some (.slice A0_0 l0_0.length c0_0) := (blk_cell BK166.out 0).trans rfl; have hcz19_1 : w18.cell? ⟨gb166, 1, none⟩ = some (.int .i64 a0_1) := (blk_cell BK166.out 1).trans rfl; have hcz19_2 : w18.cell? ⟨gb166, 2, none⟩ = some (.bool a0_2) := (blk_cell BK166.out 2).trans rfl; have hcz19_3 : w18.cell? ⟨gb166, 3, none⟩ = some (.slice A0_3 l0_3.length c0_3) := (blk_cell BK166.out 3).trans rfl; have hcz19_4 : w18.cell? ⟨gb166, 4, none⟩ = some (.slice A0_4 l0_4.length c0_4) := (blk_cell BK166.out 4).trans rfl; have hfz19_0 := blk_frozen BK166.out 0; have hfz19_1 := blk_frozen BK166.out 1; have hfz19_2 := blk_frozen BK166.out 2; have hfz19_3 := blk_frozen BK166.out 3; have hfz19_4 := blk_frozen BK166.out 4) | ((with_reducible refine gate_callee (f := 87) rfl ?_); refine goesL_ (some 5) rfl rfl Tryd.func87 (by kernel_rfl) rfl #[.slice A0_0 l0_0.length c0_0, .int .i64 0, .int .i64 3] rfl (by (try simp only [List.map_toArray, List.map_cons, List.map_nil]); first | done | rfl | (simp only [List.length_drop, List.length_take]; rfl)) ?_; (with_reducible refine (impl_tonesValid.calls k _ _ l0_0 0 3 true _ ?side1 ?side2 A2.out).mono ?_); (case side1 => repeat (first | exact (Kd.C_below HR0_0.out HB.out) | (with_reducible refine Kd.C_alloc ?_ _) | (with_reducible refine Kd.C_drewN ?_ _) | (with_reducible refine Kd.C_drew ?_))); (case side2 => exact HC0_0.out); rintro e w20 ⟨rfl, hb⟩; refine ⟨_, rfl, ?_⟩; have n0_ := Aside0.mk (blk_below (g := gb166) (o := .cells #[.slice A0_0 l0_0.length c0_0, .int .i64 a0_1, .bool a0_2, .slice A0_3 l0_3.length c0_3, .slice A0_4 l0_4.length c0_4] 31 (0, 0)) (by (with_reducible repeat (first | refine blk_drewN ?_ _ | refine blk_drew ?_ | refine blk_alloc ?_ _)); exact BK166.out) hb); have n1_ := Aside0.mk (below_step (by repeat (first | (with_reducible first | exact HB.out | apply below_alloc | apply pw_below_drewN | apply below_drew1 | refine below_set ?_ GE166.out) | exact HB.out)) hb); clear BK166; clear HB; have BK166 := n0_; have HB := n1_; clear n0_ n1_; (try clear hb); (try clear hb2); (try clear hk); (try clear hi); have hcz21_0 : w20.cell? ⟨gb166, 0, none⟩ = some (.slice A0_0 l0_0.length c0_0) := (blk_cell BK166.out 0).trans rfl; have hcz21_1 : w20.cell? ⟨gb166, 1, none⟩ = some (.int .i64 a0_1) := (blk_cell BK166.out 1).trans rfl; have hcz21_2 : w20.cell? ⟨gb166, 2, none⟩ = some (.bool a0_2) := (blk_cell BK166.out 2).trans rfl; have hcz21_3 : w20.cell? ⟨gb166, 3, none⟩ = some (.slice A0_3 l0_3.length c0_3) := (blk_cell BK166.out 3).trans rfl; have hcz21_4 : w20.cell? ⟨gb166, 4, none⟩ = some (.slice A0_4 l0_4.length c0_4) := (blk_cell BK166.out 4).trans rfl; have hfz21_0 := blk_frozen BK166.out 0; have hfz21_1 := blk_frozen BK166.out 1; have hfz21_2 := blk_frozen BK166.out 2; have hfz21_3 := blk_frozen BK166.out 3; have hfz21_4 := blk_frozen BK166.out 4) | (go_at_call 68; (with_reducible refine (impl_Tone_valid.calls a0_1 a0_2 true _ A4.out).mono ?_); rintro e w22 ⟨rfl, hb⟩; have n0_ := Aside0.mk (blk_below (g := gb166) (o := .cells #[.slice A0_0 l0_0.length c0_0, .int .i64 a0_1, .bool a0_2, .slice A0_3 l0_3.length c0_3, .slice A0_4 l0_4.length c0_4] 31 (0, 0)) (by (with_reducible repeat (first | refine blk_drewN ?_ _ | refine blk_drew ?_ | refine blk_alloc ?_ _)); exact BK166.out) hb); have n1_ := Aside0.mk (below_step (by repeat (first | (with_reducible first | exact HB.out | apply below_alloc | apply pw_below_drewN | apply below_drew1 | refine below_set ?_ GE166.out) | exact HB.out)) hb); clear BK166; clear HB; have BK166 := n0_; have HB := n1_; clear n0_ n1_; (try clear hb); (try clear hb2); (try clear hk); (try clear hi); have hcz23_0 : w22.cell? ⟨gb166, 0, none⟩ = some (.slice A0_0 l0_0.length c0_0) := (blk_cell BK166.out 0).trans rfl; have hcz23_1 : w22.cell? ⟨gb166, 1, none⟩ = some (.int .i64 a0_1) := (blk_cell BK166.out 1).trans rfl; have hcz23_2 : w22.cell? ⟨gb166, 2, none⟩ = some (.bool a0_2) := (blk_cell BK166.out 2).trans rfl; have hcz23_3 : w22.cell? ⟨gb166, 3, none⟩ = some (.slice A0_3 l0_3.length c0_3) := (blk_cell BK166.out 3).trans rfl; have hcz23_4 : w22.cell? ⟨gb166, 4, none⟩ = some (.slice A0_4 l0_4.length c0_4) := (blk_cell BK166.out 4).trans rfl; have hfz23_0 := blk_frozen BK166.out 0; have hfz23_1 := blk_frozen BK166.out 1; have hfz23_2 := blk_frozen BK166.out 2; have hfz23_3 := blk_frozen BK166.out 3; have hfz23_4 := blk_frozen BK166.out 4) | (go_at_call 87; (with_reducible refine (impl_tonesValid.calls k _ _ l0_3 1 4 false _ ?side1 ?side2 A6.out).mono ?_); (case side1 => repeat (first | exact (Kd.C_below HR0_3.out HB.out) | (with_reducible refine Kd.C_alloc ?_ _) | (with_reducible refine Kd.C_drewN ?_ _) | (with_reducible refine Kd.C_drew ?_))); (case side2 => exact HC0_3.out); rintro e w24 ⟨rfl, hb⟩; have n0_ := Aside0.mk (blk_below (g := gb166) (o := .cells #[.slice A0_0 l0_0.length c0_0, .int .i64 a0_1, .bool a0_2, .slice A0_3 l0_3.length c0_3, .slice A0_4 l0_4.length c0_4] 31 (0, 0)) (by (with_reducible repeat (first | refine blk_drewN ?_ _ | refine blk_drew ?_ | refine blk_alloc ?_ _)); exact BK166.out) hb); have n1_ := Aside0.mk (below_step (by repeat (first | (with_reducible first | exact HB.out | apply below_alloc | apply pw_below_drewN | apply below_drew1 | refine below_set ?_ GE166.out) | exact HB.out)) hb); clear BK166; clear HB; have BK166 := n0_; have HB := n1_; clear n0_ n1_; (try clear hb); (try clear hb2); (try clear hk); (try clear hi)))
    go_ret
    exact ⟨by first | rfl | (simp [errW_none, errW_some] <;> rfl) | (simp [*, errW_none, errW_some] <;> rfl), by repeat (first | (with_reducible first | exact HB.out | apply below_alloc | apply pw_below_drewN | apply below_drew1 | refine below_set ?_ GE166.out) | exact HB.out)⟩
  ·
   replace c5 := Bool.eq_false_iff.mpr c5; subst c5; have H1 : (some false) = some r := by rw [if_neg (show ¬ (false = true) by decide)] at H; exact H
   clear H; have H := H1; clear H1; obtain rfl := Option.some.inj H; go_enter Tryd.func48, Tryd.ntmps48
   go_wp2_with (first | ((with_reducible refine gate_dst (N := 1) rfl ?_); refine box_event ?hg (N := 1) ?hd (cs := #[.slice A0_0 l0_0.length c0_0, .int .i64 a0_1, .bool a0_2, .slice A0_3 l0_3.length c0_3, .slice A0_4 l0_4.length c0_4]) (t := 31) ?hr ?_; (case hd => rfl); (case hg => rfl); (case hr => first | (go_simp; done) | (go_simp; rfl)); intro gb166 hg w25 hbox hb; have n0_ := Aside0.mk (below_step (by repeat (first | (with_reducible first | exact HB.out | apply below_alloc | apply pw_below_drewN | apply below_drew1) | exact HB.out)) hb); have n1_ := Aside0.mk (hbox); have n2_ := Aside0.mk ((by rw [hg]; exact (below_size (by repeat (first | (with_reducible first | exact HB.out | apply below_alloc | apply pw_below_drewN | apply below_drew1) | exact HB.out))) : w.heap.size ≤ gb166)); have n3_ := Aside0.mk ((by rw [hg]; exact (below_size (by repeat (first | (with_reducible first | exact HB.out | apply below_alloc | apply pw_below_drewN | apply below_drew1) | exact HB.out))) : w.heap.size ≤ gb166)); clear HB; have HB := n0_; have BK166 := n1_; have GW166 := n2_; have GE166 := n3_; clear n0_ n1_ n2_ n3_; clear hb hbox hg; have hcz26_0 : w25.cell? ⟨gb166, 0, none⟩ = some (.slice A0_0 l0_0.length c0_0) := (blk_cell BK166.out 0).trans rfl; have hcz26_1 : w25.cell? ⟨gb166, 1, none⟩ = some (.int .i64 a0_1) := (blk_cell BK166.out 1).trans rfl; have hcz26_2 : w25.cell? ⟨gb166, 2, none⟩ = some (.bool a0_2) := (blk_cell BK166.out 2).trans rfl; have hcz26_3 : w25.cell? ⟨gb166, 3, none⟩ = some (.slice A0_3 l0_3.length c0_3) := (blk_cell BK166.out 3).trans rfl; have hcz26_4 : w25.cell? ⟨gb166, 4, none⟩ = some (.slice A0_4 l0_4.length c0_4) := (blk_cell BK166.out 4).trans rfl; have hfz26_0 := blk_frozen BK166.out 0; have hfz26_1 := blk_frozen BK166.out 1; have hfz26_2 := blk_frozen BK166.out 2; have hfz26_3 := blk_frozen BK166.out 3; have hfz26_4 := blk_frozen BK166.out 4) | ((with_reducible refine gate_callee (f := 87) rfl ?_); refine goesL_ (some 5) rfl rfl Tryd.func87 (by kernel_rfl) rfl #[.slice A0_0 l0_0.length c0_0, .int .i64 0, .int .i64 3] rfl (by (try simp only [List.map_toArray, List.map_cons, List.map_nil]); first | done | rfl | (simp only [List.length_drop, List.length_take]; rfl)) ?_; (with_reducible refine (impl_tonesValid.calls k _ _ l0_0 0 3 true _ ?side1 ?side2 A2.out).mono ?_); (case side1 => repeat (first | exact (Kd.C_below HR0_0.out HB.out) | (with_reducible refine Kd.C_alloc ?_ _) | (with_reducible refine Kd.C_drewN ?_ _) | (with_reducible refine Kd.C_drew ?_))); (case side2 => exact HC0_0.out); rintro e w27 ⟨rfl, hb⟩; refine ⟨_, rfl, ?_⟩; have n0_ := Aside0.mk (blk_below (g := gb166) (o := .cells #[.slice A0_0 l0_0.length c0_0, .int .i64 a0_1, .bool a0_2, .slice A0_3 l0_3.length c0_3, .slice A0_4 l0_4.length c0_4] 31 (0, 0)) (by (with_reducible repeat (first | refine blk_drewN ?_ _ | refine blk_drew ?_ | refine blk_alloc ?_ _)); exact BK166.out) hb); have n1_ := Aside0.mk (below_step (by repeat (first | (with_reducible first | exact HB.out | apply below_alloc | apply pw_below_drewN | apply below_drew1 | refine below_set ?_ GE166.out) | exact HB.out)) hb); clear BK166; clear HB; have BK166 := n0_; have HB := n1_; clear n0_ n1_; (try clear hb); (try clear hb2); (try clear hk); (try clear hi); have hcz28_0 : w27.cell? ⟨gb166, 0, none⟩ = some (.slice A0_0 l0_0.length c0_0) := (blk_cell BK166.out 0).trans rfl; have hcz28_1 : w27.cell? ⟨gb166, 1, none⟩ = some (.int .i64 a0_1) := (blk_cell BK166.out 1).trans rfl; have hcz28_2 : w27.cell? ⟨gb166, 2, none⟩ = some (.bool a0_2) := (blk_cell BK166.out 2).trans rfl; have hcz28_3 : w27.cell? ⟨gb166, 3, none⟩ = some (.slice A0_3 l0_3.length c0_3) := (blk_cell BK166.out 3).trans rfl; have hcz28_4 : w27.cell? ⟨gb166, 4, none⟩ = some (.slice A0_4 l0_4.length c0_4) := (blk_cell BK166.out 4).trans rfl; have hfz28_0 := blk_frozen BK166.out 0; have hfz28_1 := blk_frozen BK166.out 1; have hfz28_2 := blk_frozen BK166.out 2; have hfz28_3 := blk_frozen BK166.out 3; have hfz28_4 := blk_frozen BK166.out 4) | (go_at_call 68; (with_reducible refine (impl_Tone_valid.calls a0_1 a0_2 false _ A4.out).mono ?_); rintro e w29 ⟨rfl, hb⟩; have n0_ := Aside0.mk (blk_below (g := gb166) (o := .cells #[.slice A0_0 l0_0.length c0_0, .int .i64 a0_1, .bool a0_2, .slice A0_3 l0_3.length c0_3, .slice A0_4 l0_4.length c0_4] 31 (0, 0)) (by (with_reducible repeat (first | refine blk_drewN ?_ _ | refine blk_drew ?_ | refine blk_alloc ?_ _)); exact BK166.out) hb); have n1_ := Aside0.mk (below_step (by repeat (first | (with_reducible first | exact HB.out | apply below_alloc | apply pw_below_drewN | apply below_drew1 | refine below_set ?_ GE166.out) | exact HB.out)) hb); clear BK166; clear HB; have BK166 := n0_; have HB := n1_; clear n0_ n1_; (try clear hb); (try clear hb2); (try clear hk); (try clear hi)))
   go_ret
   exact ⟨by first | rfl | (simp [errW_none, errW_some] <;> rfl) | (simp [*, errW_none, errW_some] <;> rfl), by repeat (first | (with_reducible first | exact HB.out | apply below_alloc | apply pw_below_drewN | apply below_drew1 | refine below_set ?_ GE166.out) | exact HB.out)⟩
 ·
  replace c3 := Bool.eq_false_iff.mpr c3; subst c3; have H1 : (some false) = some r := by rw [if_neg (show ¬ (false = true) by decide)] at H; exact H
  clear H; have H := H1; clear H1; obtain rfl := Option.some.inj H; go_enter Tryd.func48, Tryd.ntmps48
  go_wp2_with (first | ((with_reducible refine gate_dst (N := 1) rfl ?_); refine box_event ?hg (N := 1) ?hd (cs := #[.slice A0_0 l0_0.length c0_0, .int .i64 a0_1, .bool a0_2, .slice A0_3 l0_3.length c0_3, .slice A0_4 l0_4.length c0_4]) (t := 31) ?hr ?_; (case hd => rfl); (case hg => rfl); (case hr => first | (go_simp; done) | (go_simp; rfl)); intro gb166 hg w30 hbox hb; have n0_ := Aside0.mk (below_step (by repeat (first | (with_reducible first | exact HB.out | apply below_alloc | apply pw_below_drewN | apply below_drew1) | exact HB.out)) hb); have n1_ := Aside0.mk (hbox); have n2_ := Aside0.mk ((by rw [hg]; exact (below_size (by repeat (first | (with_reducible first | exact HB.out | apply below_alloc | apply pw_below_drewN | apply below_drew1) | exact HB.out))) : w.heap.size ≤ gb166)); have n3_ := Aside0.mk ((by rw [hg]; exact (below_size (by repeat (first | (with_reducible first | exact HB.out | apply below_alloc | apply pw_below_drewN | apply below_drew1) | exact HB.out))) : w.heap.size ≤ gb166)); clear HB; have HB := n0_; have BK166 := n1_; have GW166 := n2_; have GE166 := n3_; clear n0_ n1_ n2_ n3_; clear hb hbox hg; have hcz31_0 : w30.cell? ⟨gb166, 0, none⟩ = some (.slice A0_0 l0_0.length c0_0) := (blk_cell BK166.out 0).trans rfl; have hcz31_1 : w30.cell? ⟨gb166, 1, none⟩ = some (.int .i64 a0_1) := (blk_cell BK166.out 1).trans rfl; have hcz31_2 : w30.cell? ⟨gb166, 2, none⟩ = some (.bool a0_2) := (blk_cell BK166.out 2).trans rfl; have hcz31_3 : w30.cell? ⟨gb166, 3, none⟩ = some (.slice A0_3 l0_3.length c0_3) := (blk_cell BK166.out 3).trans rfl; have hcz31_4 : w30.cell? ⟨gb166, 4, none⟩ = some (.slice A0_4 l0_4.length c0_4) := (blk_cell BK166.out 4).trans rfl; have hfz31_0 := blk_frozen BK166.out 0; have hfz31_1 := blk_frozen BK166.out 1; have hfz31_2 := blk_frozen BK166.out 2; have hfz31_3 := blk_frozen BK166.out 3; have hfz31_4 := blk_frozen BK166.out 4) | ((with_reducible refine gate_callee (f := 87) rfl ?_); refine goesL_ (some 5) rfl rfl Tryd.func87 (by kernel_rfl) rfl #[.slice A0_0 l0_0.length c0_0, .int .i64 0, .int .i64 3] rfl (by (try simp only [List.map_toArray, List.map_cons, List.map_nil]); first | done | rfl | (simp only [List.length_drop, List.length_take]; rfl)) ?_; (with_reducible refine (impl_tonesValid.calls k _ _ l0_0 0 3 false _ ?side1 ?side2 A2.out).mono ?_); (case side1 => repeat (first | exact (Kd.C_below HR0_0.out HB.out) | (with_reducible refine Kd.C_alloc ?_ _) | (with_reducible refine Kd.C_drewN ?_ _) | (with_reducible refine Kd.C_drew ?_))); (case side2 => exact HC0_0.out); rintro e w32 ⟨rfl, hb⟩; refine ⟨_, rfl, ?_⟩; have n0_ := Aside0.mk (blk_below (g := gb166) (o := .cells #[.slice A0_0 l0_0.length c0_0, .int .i64 a0_1, .bool a0_2, .slice A0_3 l0_3.length c0_3, .slice A0_4 l0_4.length c0_4] 31 (0, 0)) (by (with_reducible repeat (first | refine blk_drewN ?_ _ | refine blk_drew ?_ | refine blk_alloc ?_ _)); exact BK166.out) hb); have n1_ := Aside0.mk (below_step (by repeat (first | (with_reducible first | exact HB.out | apply below_alloc | apply pw_below_drewN | apply below_drew1 | refine below_set ?_ GE166.out) | exact HB.out)) hb); clear BK166; clear HB; have BK166 := n0_; have HB := n1_; clear n0_ n1_; (try clear hb); (try clear hb2); (try clear hk); (try clear hi)))
  go_ret
  exact ⟨by first | rfl | (simp [errW_none, errW_some] <;> rfl) | (simp [*, errW_none, errW_some] <;> rfl), by repeat (first | (with_reducible first | exact HB.out | apply below_alloc | apply pw_below_drewN | apply below_drew1 | refine below_set ?_ GE166.out) | exact HB.out)⟩

end Go.Proofs.YtpcohkffbjdmfaaDoor.PFnExactPsalmFits
namespace Go.Proofs.YtpcohkffbjdmfaaDoor.Pure
set_option linter.unusedVariables false
set_option linter.unusedSimpArgs false
open Go Go.RowKit Go.Proofs.YtpcohkffbjdmfaaDoor.PFnExactPsalmFits Go.Proofs.YtpcohkffbjdmfaaDoorW.PrintWords Go.Proofs.YtpcohkffbjdmfaaDoorW.PrintLast Go.Proofs.YtpcohkffbjdmfaaDoorW.PrintMore

theorem Ev.succ {α : Type} {g : Nat → Option α} {r : α} (h : Ev (fun k => g (k + 1)) r) : Ev g r := Ev.step (fun _ => rfl) h
theorem Ev.pos {α : Type} {c : Prop} [Decidable c] {f g : Nat → Option α} {r : α} (hc : c) (h : Ev f r) : Ev (fun k => if c then f k else g k) r := by
 simp only [if_pos hc]; exact h
theorem Ev.neg {α : Type} {c : Prop} [Decidable c] {f g : Nat → Option α} {r : α} (hc : ¬ c) (h : Ev g r) : Ev (fun k => if c then f k else g k) r := by
 simp only [if_neg hc]; exact h
theorem Ev.conb {α β : Type} {x : Option α} {a : α} {f : Nat → α → Option β} {r : β} (hx : x = some a) (h : Ev (fun n => f n a) r) : Ev (fun n => x.bind (f n)) r := by subst hx; exact h
theorem Ev.eqr {α : Type} {g : Nat → Option α} {r r' : α} (h : Ev g r) (e : r = r') : Ev g r' := e ▸ h
/-- A loop over the places of a list, from the front. -/
theorem Ev.over {α ρ σ : Type} (d : α) (xs : List α) (L : Nat → σ → Int → Option ρ) (F : σ → List α → ρ) (I : Nat → σ → Prop)
 (hend : ∀ s, I xs.length s → Ev (fun k => L k s (xs.length : Int)) (F s []))
 (hstep : ∀ s (i : Nat) rest, I i s → i < xs.length → xs.drop i = xs.getD i d :: rest → (∀ s', I (i + 1) s' → Ev (fun k => L k s' ((i : Int) + 1)) (F s' rest)) → Ev (fun k => L k s (i : Int)) (F s (xs.getD i d :: rest))) :
 ∀ (i : Nat) (s : σ), i ≤ xs.length → I i s → Ev (fun k => L k s (i : Int)) (F s (xs.drop i)) := by
 intro i s hi hI
 obtain ⟨n, hn⟩ : ∃ n, n = xs.length - i := ⟨_, rfl⟩
 induction n generalizing i s with
 | zero =>
  have e : i = xs.length := by omega
  subst e
  rw [List.drop_length]
  exact hend s hI
 | succ n ih =>
  have hlt : i < xs.length := by omega
  have e : xs.drop i = xs.getD i d :: xs.drop (i + 1) := by
   rw [List.drop_eq_getElem_cons hlt, List.getD_eq_getElem?_getD, List.getElem?_eq_getElem hlt]; rfl
  rw [e]
  refine hstep s i _ hI hlt e (fun s' hs' => ?_)
  have := ih (i + 1) s' (by omega) hs' (by omega)
  simpa using this
theorem w64 {x : Int} (h : -9223372036854775808 ≤ x) (h' : x ≤ 9223372036854775807) : wrap64 x = x := by unfold wrap64; omega
def toneOk (t : S29) : Bool := decide (0 ≤ t.f0 ∧ t.f0 ≤ 20) && (!t.f1 || Int.tmod t.f0 7 == 2)
def melOk (m : List S29) : Bool := decide (m.length ≤ 24) && m.all toneOk
theorem impl_Tone_valid_eq (a : Int) (b : Bool) : impl_Tone_valid.f a b = some (toneOk ⟨a, b⟩) := by
 unfold impl_Tone_valid.f toneOk
 by_cases h : a ≥ 0
 ·
  by_cases h' : a ≤ 20
  ·
   cases b
   ·
    simp [h, h']
   ·
    simp [h, h']
  ·
   simp [h, h']
 ·
  have : ¬ (0 ≤ a) := h
  simp [this]

theorem impl_MelodyValid_ev (m : List S29) : Ev (fun k => impl_MelodyValid.f k m) (melOk m) := by
 unfold impl_MelodyValid.f
 by_cases h : (m.length : Int) > 24
 ·
  refine Ev.eqr (Ev.pos h (Ev.now _)) ?_
  unfold melOk
  rw [decide_eq_false (by omega)]; rfl
 ·
  refine Ev.eqr (Ev.neg h (r := m.all toneOk) ?_) (by unfold melOk; rw [decide_eq_true (by omega)]; rfl)
  have := Ev.over z29 m (fun k (_ : Unit) i => impl_MelodyValid.l0 k m m.length i) (fun _ l => l.all toneOk) (fun _ _ => True) (by
   intro s _
   refine Ev.succ ?_
   simp only [impl_MelodyValid.l0]
   exact Ev.neg (by omega) (Ev.now _)) (by
   intro s i rest _ hi _ ih
   refine Ev.succ ?_
   simp only [impl_MelodyValid.l0]
   refine Ev.pos (by omega) (Ev.pos (by omega) (Ev.pos (by omega) (Ev.conb (impl_Tone_valid_eq _ _) ?_)))
   show Ev _ (toneOk (rd_T29 m i) && _)
   cases ht : toneOk (rd_T29 m i)
   ·
    exact Ev.neg (by simp [ht]) (Ev.now _)
   ·
    refine Ev.pos (by simp [ht]) ?_
    rw [w64 (by omega) (by omega)]
    simpa using ih () trivial) 0 () (Nat.zero_le _) trivial
  simpa using this

end Go.Proofs.YtpcohkffbjdmfaaDoor.Pure
namespace Go.Proofs.YtpcohkffbjdmfaaDoor.Pure
set_option linter.unusedVariables false
set_option linter.unusedSimpArgs false
open Go Go.RowKit Go.Proofs.YtpcohkffbjdmfaaDoor.PFnExactPsalmFits Go.Proofs.YtpcohkffbjdmfaaDoorW.PrintWords Go.Proofs.YtpcohkffbjdmfaaDoorW.PrintLast Go.Proofs.YtpcohkffbjdmfaaDoorW.PrintMore

open Go.Shelf Go.Lib
def trim_ren : Go.Shelf.Ren := ⟨fun | 160 => 81 | 232 => 113 | 231 => 112 | 227 => 114 | 234 => 116 | 233 => 115 | 236 => 118 | 235 => 117 | 228 => 133 | 271 => 136 | 151 => 135 | 197 => 134 | 120 => 142 | 152 => 141 | 260 => 140 | 137 => 144 | 119 => 145 | 224 => 146 | 225 => 147 | 217 => 148 | 266 => 150 | n => n, fun | 9 => 9 | 4 => 4 | 3 => 3 | 5 => 5 | 117 => 166 | 116 => 165 | 0 => 0 | 124 => 169 | 21 => 21 | 105 => 183 | 46 => 191 | 119 => 190 | 139 => 194 | 138 => 193 | n => n, fun | 3 => 2 | 4 => 3 | n => n⟩
theorem trim_lays : Go.Proofs.Lays.n160 Tryd.prog trim_ren where
 mixed := by kernel_rfl
 f119 := Tryd.func145.trans (congrArg some (by kernel_rfl))
 f120 := Tryd.func142.trans (congrArg some (by kernel_rfl))
 f137 := Tryd.func144.trans (congrArg some (by kernel_rfl))
 f151 := Tryd.func135.trans (congrArg some (by kernel_rfl))
 f152 := Tryd.func141.trans (congrArg some (by kernel_rfl))
 f160 := Tryd.func81.trans (congrArg some (by kernel_rfl))
 f197 := Tryd.func134.trans (congrArg some (by kernel_rfl))
 f217 := Tryd.func148.trans (congrArg some (by kernel_rfl))
 f224 := Tryd.func146.trans (congrArg some (by kernel_rfl))
 f225 := Tryd.func147.trans (congrArg some (by kernel_rfl))
 f227 := Tryd.func114.trans (congrArg some (by kernel_rfl))
 f228 := Tryd.func133.trans (congrArg some (by kernel_rfl))
 f231 := Tryd.func112.trans (congrArg some (by kernel_rfl))
 f232 := Tryd.func113.trans (congrArg some (by kernel_rfl))
 f233 := Tryd.func115.trans (congrArg some (by kernel_rfl))
 f234 := Tryd.func116.trans (congrArg some (by kernel_rfl))
 f235 := Tryd.func117.trans (congrArg some (by kernel_rfl))
 f236 := Tryd.func118.trans (congrArg some (by kernel_rfl))
 f260 := Tryd.func140.trans (congrArg some (by kernel_rfl))
 f266 := Tryd.func150.trans (congrArg some (by kernel_rfl))
 f271 := Tryd.func136.trans (congrArg some (by kernel_rfl))
 t0 := Tryd.underlying0
 a0 := Tryd.isAgg0
 z0 := Tryd.sizeOf0
 v0 := Tryd.zeroValue0
 t3 := Tryd.underlying3
 a3 := Tryd.isAgg3
 z3 := Tryd.sizeOf3
 v3 := Tryd.zeroValue3
 t4 := Tryd.underlying4
 a4 := Tryd.isAgg4
 z4 := Tryd.sizeOf4
 v4 := Tryd.zeroValue4
 t5 := Tryd.underlying5
 a5 := Tryd.isAgg5
 z5 := Tryd.sizeOf5
 v5 := Tryd.zeroValue5
 t9 := Tryd.underlying9
 a9 := Tryd.isAgg9
 z9 := Tryd.sizeOf9
 v9 := Tryd.zeroValue9
 t21 := Tryd.underlying21
 a21 := Tryd.isAgg21
 z21 := Tryd.sizeOf21
 v21 := Tryd.zeroValue21
 t46 := Tryd.underlying191
 a46 := Tryd.isAgg191
 z46 := Tryd.sizeOf191
 v46 := Tryd.zeroValue191
 t105 := Tryd.underlying183
 a105 := Tryd.isAgg183
 z105 := Tryd.sizeOf183
 v105 := Tryd.zeroValue183
 t116 := Tryd.underlying165
 a116 := Tryd.isAgg165
 z116 := Tryd.sizeOf165
 t117 := Tryd.underlying166
 a117 := Tryd.isAgg166
 z117 := Tryd.sizeOf166
 v117 := Tryd.zeroValue166
 t119 := Tryd.underlying190
 a119 := Tryd.isAgg190
 z119 := Tryd.sizeOf190
 t124 := Tryd.underlying169
 a124 := Tryd.isAgg169
 z124 := Tryd.sizeOf169
 v124 := Tryd.zeroValue169
 t138 := Tryd.underlying193
 a138 := Tryd.isAgg193
 z138 := Tryd.sizeOf193
 v138 := Tryd.zeroValue193
 t139 := Tryd.underlying194
 a139 := Tryd.isAgg194
 z139 := Tryd.sizeOf194
 v139 := Tryd.zeroValue194
 g3 := by kernel_rfl
 g4 := by kernel_rfl

def index_ren : Go.Shelf.Ren := ⟨fun | 219 => 143 | 217 => 148 | 225 => 147 | 224 => 146 | 267 => 149 | 266 => 150 | 314 => 151 | n => n, fun | 9 => 9 | 3 => 3 | 4 => 4 | 5 => 5 | 46 => 191 | 146 => 198 | 51 => 197 | n => n, fun | 1 => 4 | n => n⟩
theorem index_lays : Go.Proofs.Lays.n219 Tryd.prog index_ren where
 mixed := by kernel_rfl
 f217 := Tryd.func148.trans (congrArg some (by kernel_rfl))
 f219 := Tryd.func143.trans (congrArg some (by kernel_rfl))
 f224 := Tryd.func146.trans (congrArg some (by kernel_rfl))
 f225 := Tryd.func147.trans (congrArg some (by kernel_rfl))
 f266 := Tryd.func150.trans (congrArg some (by kernel_rfl))
 f267 := Tryd.func149.trans (congrArg some (by kernel_rfl))
 f314 := Tryd.func151.trans (congrArg some (by kernel_rfl))
 t3 := Tryd.underlying3
 a3 := Tryd.isAgg3
 z3 := Tryd.sizeOf3
 v3 := Tryd.zeroValue3
 t4 := Tryd.underlying4
 a4 := Tryd.isAgg4
 z4 := Tryd.sizeOf4
 v4 := Tryd.zeroValue4
 t5 := Tryd.underlying5
 a5 := Tryd.isAgg5
 z5 := Tryd.sizeOf5
 v5 := Tryd.zeroValue5
 t9 := Tryd.underlying9
 a9 := Tryd.isAgg9
 z9 := Tryd.sizeOf9
 v9 := Tryd.zeroValue9
 t46 := Tryd.underlying191
 a46 := Tryd.isAgg191
 z46 := Tryd.sizeOf191
 v46 := Tryd.zeroValue191
 t51 := Tryd.underlying197
 a51 := Tryd.isAgg197
 z51 := Tryd.sizeOf197
 v51 := Tryd.zeroValue197
 t146 := Tryd.underlying198
 a146 := Tryd.isAgg198
 z146 := Tryd.sizeOf198
 v146 := Tryd.zeroValue198
 g1 := by kernel_rfl

end Go.Proofs.YtpcohkffbjdmfaaDoor.Pure
namespace Go.Proofs.YtpcohkffbjdmfaaDoor.Pure
set_option linter.unusedVariables false
set_option linter.unusedSimpArgs false
open Go Go.RowKit Go.Proofs.YtpcohkffbjdmfaaDoor.PFnExactPsalmFits Go.Proofs.YtpcohkffbjdmfaaDoorW.PrintWords Go.Proofs.YtpcohkffbjdmfaaDoorW.PrintLast Go.Proofs.YtpcohkffbjdmfaaDoorW.PrintMore

open Go.Shelf Go.Lib
def hvOk (s : ByteArray) : Bool := !s.data.toList.isEmpty && s.data.toList.all (fun b => ([120, 47] : List UInt8).contains b)
theorem dropWhile_nil {p : UInt8 → Bool} : ∀ {l : List UInt8}, l.dropWhile p = [] ↔ l.all p = true
 | [] => by simp
 | x :: l => by
  rw [List.dropWhile_cons, List.all_cons]
  cases h : p x
  ·
   simp
  ·
   simpa using dropWhile_nil (l := l)
theorem trimS_nil (l cs : List UInt8) : (Lib.trimS l cs = []) ↔ l.all (fun b => cs.contains b) = true := by
 unfold Lib.trimS Lib.trimLeftS Lib.trimRightS
 rw [dropWhile_nil, List.all_reverse]
 constructor
 ·
  intro h
  have h1 : ∀ x ∈ l.reverse.dropWhile (cs.contains ·), cs.contains x = true := fun x hx => List.all_eq_true.1 h x hx
  have h2 : l.reverse.dropWhile (cs.contains ·) = [] := by
   cases hd : l.reverse.dropWhile (cs.contains ·) with
   | nil => rfl
   | cons y ys =>
    have hy := h1 y (by rw [hd]; exact List.mem_cons_self)
    have := List.head_dropWhile_not (p := fun x => cs.contains x) (l := l.reverse) (by rw [hd]; simp)
    simp only [hd, List.head_cons] at this
    rw [hy] at this; cases this
  have := dropWhile_nil.1 h2
  rwa [List.all_reverse] at this
 ·
  intro h
  have : l.reverse.dropWhile (cs.contains ·) = [] := dropWhile_nil.2 (by rw [List.all_reverse]; exact h)
  rw [this]; rfl
set_option maxHeartbeats 1000000 in
set_option maxRecDepth 100000 in
theorem impl_halfValid_calls (s : ByteArray) (w : World) (hs : s.size ≤ 9223372036854775807) :
 Calls Tryd.prog 120 #[.string s] w fun e w' => e = .returned (.bool (hvOk s)) ∧ Below w.heap.size w w' := by
 have hcon := Any.strings_Trim_laid trim_lays (by kernel_rfl) s ⟨#[120, 47]⟩ w hs (by decide) (ascii_of_all (by decide))
 change Calls Tryd.prog 81 _ _ (fun e w' => e = .returned (.string ⟨(Lib.trimS s.data.toList [120, 47]).toArray⟩) ∧ Below w.heap.size w w') at hcon
 have he : s.toList = s.data.toList := Lib.toList_data s
 cases h : s.data.toList.isEmpty
 ·
  have hcv : hvOk s = ((Lib.trimS s.data.toList [120, 47]) == []) := by
   unfold hvOk
   rw [h, Bool.not_false, Bool.true_and, Bool.eq_iff_iff, beq_iff_eq, trimS_nil]
  rw [hcv]
  have h' : s.toList.isEmpty = false := by rw [he]; exact h
  generalize Lib.trimS s.data.toList [120, 47] = r at hcon ⊢
  clear hcv h he
  go_enter Tryd.func120, Tryd.ntmps120
  go_wp2_with (go_at_call 81; refine hcon.mono ?_; rintro e w' ⟨rfl, hB⟩)
  go_ret
  exact ⟨by cases r <;> rfl, hB⟩
 ·
  have hcv : hvOk s = false := by unfold hvOk; rw [h]; rfl
  rw [hcv]
  have h' : s.toList.isEmpty = true := by rw [he]; exact h
  clear hcv h hcon he
  go_enter Tryd.func120, Tryd.ntmps120
  go_wp2
  go_ret
  exact ⟨rfl, Below.refl _ _⟩
theorem indexByte_cases (c : UInt8) : ∀ l : List UInt8, Lib.indexByte l c = -1 ∨ ∃ i : Nat, Lib.indexByte l c = i ∧ i < l.length
 | [] => .inl rfl
 | b :: l => by
  unfold Lib.indexByte
  by_cases h : (b == c) = true
  ·
   rw [if_pos h]; exact .inr ⟨0, rfl, by simp⟩
  ·
   rw [if_neg h]
   rcases indexByte_cases c l with h' | ⟨i, h', hi⟩
   ·
    rw [h']; exact .inl rfl
   ·
    rw [h', if_neg (by rw [beq_iff_eq]; omega)]
    exact .inr ⟨i + 1, by omega, by rw [List.length_cons]; omega⟩
def cutB (s : ByteArray) : ByteArray × ByteArray × Bool := if Lib.indexByte s.data.toList 124 = -1 then (s, ⟨#[]⟩, false) else (s.extract 0 (Lib.indexByte s.data.toList 124).toNat, s.extract ((Lib.indexByte s.data.toList 124).toNat + 1) s.size, true)
set_option maxHeartbeats 2000000 in
set_option maxRecDepth 100000 in
theorem slCut_calls (s : ByteArray) (w : World) (hs : s.size ≤ 1000000000000) :
 Calls Tryd.prog 137 #[.string s, .string ⟨#[124]⟩] w fun e w' => e = .returned (.tuple #[.string (cutB s).1, .string (cutB s).2.1, .bool (cutB s).2.2]) ∧ Below w.heap.size w w' := by
 have hcon : ∀ w, Calls Tryd.prog 143 #[.string s, .string ⟨#[124]⟩] w fun e w' => e = .returned (.int .i64 (Lib.indexByte s.data.toList 124)) ∧ w' = w := fun w => Any.stringslite_Index_one index_lays s 124 w
 rcases indexByte_cases 124 s.data.toList with h | ⟨i, h, hi⟩
 ·
  have e : cutB s = (s, ⟨#[]⟩, false) := by unfold cutB; rw [if_pos h]
  rw [e]
  simp only [h] at hcon
  clear e h
  go_enter Tryd.func137, Tryd.ntmps137
  go_wp2_with (go_at_call 143; refine (hcon _).mono ?_; rintro e w' ⟨rfl, rfl⟩)
  go_ret3
  exact ⟨rfl, Below.refl _ _⟩
 ·
  have e : cutB s = (s.extract 0 i, s.extract (i + 1) s.size, true) := by unfold cutB; rw [if_neg (by omega), h]; rfl
  rw [e]
  have hl : s.data.toList.length = s.size := (Lib.size_eq s).symm
  simp only [h] at hcon
  have c1 : (0 : Int) ≤ (i : Int) := by omega
  have c2 : (i : Int) ≤ (s.size : Int) := by omega
  have c3 : (0 : Int) ≤ (i : Int) + 1 := by omega
  have c4 : (i : Int) + 1 ≤ (s.size : Int) := by omega
  have c5 : IntKind.i64.wrap ((i : Int) + 1) = (i : Int) + 1 := by rw [Go.IntKind.wrap_i64]; omega
  have c6 : ((i : Int) + 1).toNat = i + 1 := by omega
  clear e h hl
  go_enter Tryd.func137, Tryd.ntmps137
  go_wp2_with (go_at_call 143; refine (hcon _).mono ?_; rintro e w' ⟨rfl, rfl⟩)
  go_region
  go_wp2
  go_ret3
  exact ⟨rfl, below_drew (Below.refl _ _)⟩
set_option maxHeartbeats 1000000 in
set_option maxRecDepth 100000 in
theorem strCut_calls (s : ByteArray) (w : World) (hs : s.size ≤ 1000000000000) :
 Calls Tryd.prog 119 #[.string s, .string ⟨#[124]⟩] w fun e w' => e = .returned (.tuple #[.string (cutB s).1, .string (cutB s).2.1, .bool (cutB s).2.2]) ∧ Below w.heap.size w w' := by
 go_enter Tryd.func119, Tryd.ntmps119
 go_wp2_with (go_at_call 137; refine (slCut_calls s _ hs).mono ?_; rintro e w' ⟨rfl, hb⟩)
 go_ret3
 exact ⟨rfl, hb⟩
theorem cutB_sizes (s : ByteArray) : (cutB s).1.size ≤ s.size ∧ (cutB s).2.1.size ≤ s.size := by
 unfold cutB
 split
 ·
  exact ⟨Nat.le_refl _, Nat.zero_le _⟩
 ·
  refine ⟨?_, ?_⟩ <;> (simp only [ByteArray.size_extract]; omega)
def vhOk (s : ByteArray) : Bool := (cutB s).2.2 && (decide ((cutB s).1.size + (cutB s).2.1.size ≤ 20) && (hvOk (cutB s).1 && hvOk (cutB s).2.1))
def vHalves (s : ByteArray) : ByteArray × ByteArray × Bool := if vhOk s = true then ((cutB s).1, (cutB s).2.1, true) else (⟨#[]⟩, ⟨#[]⟩, false)
set_option maxHeartbeats 4000000 in
set_option maxRecDepth 100000 in
theorem impl_VerseHalves_calls (s : ByteArray) (w : World) (hs : s.size ≤ 1000000000000) :
 Calls Tryd.prog 89 #[.string s] w fun e w' => e = .returned (.tuple #[.string (vHalves s).1, .string (vHalves s).2.1, .bool (vHalves s).2.2]) ∧ Below w.heap.size w w' := by
 have hz := cutB_sizes s
 obtain ⟨⟨a, b, k⟩, hc⟩ : ∃ c, c = cutB s := ⟨_, rfl⟩
 have hcon : ∀ w, Calls Tryd.prog 119 #[.string s, .string ⟨#[124]⟩] w fun e w' => e = .returned (.tuple #[.string a, .string b, .bool k]) ∧ Below w.heap.size w w' := fun w => by
  have := strCut_calls s w hs
  rw [← hc] at this
  exact this
 have hv : vHalves s = if (k && (decide (a.size + b.size ≤ 20) && (hvOk a && hvOk b))) = true then (a, b, true) else (⟨#[]⟩, ⟨#[]⟩, false) := by unfold vHalves vhOk; rw [← hc]
 rw [← hc] at hz
 have hz1 : a.size ≤ 1000000000000 := by have := hz.1; exact Nat.le_trans this hs
 have hz2 : b.size ≤ 1000000000000 := by have := hz.2; exact Nat.le_trans this hs
 rw [hv]
 have hw1 : IntKind.i64.wrap ((a.size : Int) + (b.size : Int)) = (a.size : Int) + (b.size : Int) := by rw [Go.IntKind.wrap_i64]; omega
 clear hv hc hz
 cases k
 ·
  go_enter Tryd.func89, Tryd.ntmps89
  go_wp2_with (go_at_call 119; refine (hcon _).mono ?_; rintro e w1 ⟨rfl, hb1⟩)
  go_ret3
  exact ⟨rfl, hb1⟩
 by_cases h20 : a.size + b.size ≤ 20
 ·
  have d1 : decide (20 < (a.size : Int) + (b.size : Int)) = false := decide_eq_false (by omega)
  rw [decide_eq_true h20]
  cases ha : hvOk a
  ·
   go_enter Tryd.func89, Tryd.ntmps89
   go_wp2_with (first
    | (go_at_call 119; refine (hcon _).mono ?_; rintro e w1 ⟨rfl, hb1⟩)
    | (go_at_call 120; refine (impl_halfValid_calls a _ (by omega)).mono ?_; rw [ha]; rintro e w2 ⟨rfl, hb2⟩))
   go_ret3
   exact ⟨rfl, below_step hb1 hb2⟩
  ·
   cases hb : hvOk b
   ·
    go_enter Tryd.func89, Tryd.ntmps89
    go_wp2_with (first
     | (go_at_call 119; refine (hcon _).mono ?_; rintro e w1 ⟨rfl, hb1⟩)
     | (go_at_call 120; with_reducible refine (impl_halfValid_calls a _ (by omega)).mono ?_; rw [ha]; rintro e w2 ⟨rfl, hb2⟩)
     | (go_at_call 120; with_reducible refine (impl_halfValid_calls b _ (by omega)).mono ?_; rw [hb]; rintro e w3 ⟨rfl, hb3⟩))
    go_ret3
    exact ⟨rfl, below_step (below_step hb1 hb2) hb3⟩
   ·
    go_enter Tryd.func89, Tryd.ntmps89
    go_wp2_with (first
     | (go_at_call 119; refine (hcon _).mono ?_; rintro e w1 ⟨rfl, hb1⟩)
     | (go_at_call 120; with_reducible refine (impl_halfValid_calls a _ (by omega)).mono ?_; rw [ha]; rintro e w2 ⟨rfl, hb2⟩)
     | (go_at_call 120; with_reducible refine (impl_halfValid_calls b _ (by omega)).mono ?_; rw [hb]; rintro e w3 ⟨rfl, hb3⟩))
    go_ret3
    exact ⟨rfl, below_step (below_step hb1 hb2) hb3⟩
 ·
  have d1 : decide (20 < (a.size : Int) + (b.size : Int)) = true := decide_eq_true (by omega)
  rw [decide_eq_false h20]
  go_enter Tryd.func89, Tryd.ntmps89
  go_wp2_with (go_at_call 119; refine (hcon _).mono ?_; rintro e w1 ⟨rfl, hb1⟩)
  go_ret3
  exact ⟨rfl, hb1⟩

end Go.Proofs.YtpcohkffbjdmfaaDoor.Pure
namespace Go.Proofs.YtpcohkffbjdmfaaDoor.Pure
set_option linter.unusedVariables false
set_option linter.unusedSimpArgs false
open Go Go.RowKit Go.Proofs.YtpcohkffbjdmfaaDoor.PFnExactPsalmFits Go.Proofs.YtpcohkffbjdmfaaDoorW.PrintWords Go.Proofs.YtpcohkffbjdmfaaDoorW.PrintLast Go.Proofs.YtpcohkffbjdmfaaDoorW.PrintMore

/-- The boxes that the inner closure has caught. -/
structure SingEnv (W : World) (gf gp gs : Nat) (f s2 : Int) (S : List S29) (t : S29) (M E : List S29) (A0 : Option Addr) (c0 : Nat) (A3 : Option Addr) (c3 : Nat) (A4 : Option Addr) (c4 : Nat) : Prop where
 bf : W.heap[gf]? = some (.cells #[.int .i64 f] 3 (0, 0))
 bs : W.heap[gs]? = some (.cells #[.int .i64 s2] 3 (0, 0))
 bp : W.heap[gp]? = some (.cells #[.slice A0 S.length c0, .int .i64 t.f0, .bool t.f1, .slice A3 M.length c3, .slice A4 E.length c4] 31 (0, 0))
 cS : Kd.C k29 W A0 S.length S
 cM : Kd.C k29 W A3 M.length M
 cE : Kd.C k29 W A4 E.length E
theorem SingEnv.below {W W' : World} {gf gp gs : Nat} {f s2 : Int} {S : List S29} {t : S29} {M E : List S29} {A0 : Option Addr} {c0 : Nat} {A3 : Option Addr} {c3 : Nat} {A4 : Option Addr} {c4 : Nat} (h : SingEnv W gf gp gs f s2 S t M E A0 c0 A3 c3 A4 c4) (hb : Below W.heap.size W W') : SingEnv W' gf gp gs f s2 S t M E A0 c0 A3 c3 A4 c4 :=
 ⟨blk_below h.bf hb, blk_below h.bs hb, blk_below h.bp hb, Kd.C_below h.cS hb, Kd.C_below h.cM hb, Kd.C_below h.cE hb⟩
/-- A sung syllable as a value. -/
def SungV (v : Value) : Prop := ∃ (x : Int) (y : Bool) (z : Int), v = .agg #[.int .i64 x, .bool y, .int .i64 z]
set_option maxHeartbeats 4000000 in
set_option maxRecDepth 100000 in
theorem singAt_calls (gf gp gs : Nat) (f s2 : Int) (S : List S29) (t : S29) (M E : List S29) (A0 : Option Addr) (c0 : Nat) (A3 : Option Addr) (c3 : Nat) (A4 : Option Addr) (c4 : Nat) (i : Int) (w : World) (h : SingEnv w gf gp gs f s2 S t M E A0 c0 A3 c3 A4 c4)
 (h1 : 0 ≤ f ∧ f ≤ 100) (h2 : 0 ≤ s2 ∧ s2 ≤ 100) (hi : 0 ≤ i ∧ i < f + s2) (hf : (S.length : Int) + (M.length : Int) ≤ f) (hs : (E.length : Int) ≤ s2) :
 Calls Tryd.prog 122 #[.int .i64 i, .pointer (some ⟨gf, 0, none⟩), .pointer (some ⟨gp, 0, none⟩), .pointer (some ⟨gs, 0, none⟩)] w fun e w' => ∃ v, e = .returned v ∧ SungV v ∧ Below w.heap.size w w' := by
 have HE := Aside0.mk h
 have p1 : IntKind.i64.wrap (f - (M.length : Int)) = f - (M.length : Int) := by rw [Go.IntKind.wrap_i64]; omega
 have p3 : IntKind.i64.wrap (f + s2) = f + s2 := by rw [Go.IntKind.wrap_i64]; omega
 have p4 : IntKind.i64.wrap (f + s2 - (E.length : Int)) = f + s2 - (E.length : Int) := by rw [Go.IntKind.wrap_i64]; omega
 obtain ⟨mi, hmi⟩ : ∃ mi, mi = i - (f - (M.length : Int)) := ⟨_, rfl⟩
 obtain ⟨en, hen⟩ : ∃ en, en = i - (f + s2 - (E.length : Int)) := ⟨_, rfl⟩
 have p2 : IntKind.i64.wrap (i - (f - (M.length : Int))) = mi := by rw [Go.IntKind.wrap_i64]; omega
 have p5 : IntKind.i64.wrap (i - (f + s2 - (E.length : Int))) = en := by rw [Go.IntKind.wrap_i64]; omega
 by_cases k1 : i < (S.length : Int)
 ·
  have d1 : decide (i < (S.length : Int)) = true := decide_eq_true k1
  obtain ⟨ad, eA, ux, uy⟩ := at_T29 HE.out.cS i (by omega) k1
  subst eA
  have UX := Aside0.mk (And.intro ux uy)
  have q1 := eq_true (show 0 ≤ i from (by omega))
  have q2 := eq_true (show i < (S.length : Int) from k1)
  clear ux uy h h1 h2 hi hf hs hmi hen
  go_enter Tryd.func122, Tryd.ntmps122
  go_wp2_with ((with_reducible refine gate_dst (N := 5) rfl ?_); refine box_event ?hg (N := 5) ?hd (cs := #[.int .i64 0, .bool false, .int .i64 0]) (t := 124) ?hr ?_; (case hd => rfl); (case hg => rfl); (case hr => first | (go_simp; done) | (go_simp; rfl)); intro g5 hg w1 hbox hb; have BK := Aside0.mk hbox; have HB := Aside0.mk hb; have GE : Aside0 (w.heap.size ≤ g5) := ⟨Nat.le_of_eq hg.symm⟩; have HW := HE.out.below hb; have hcf := (blk_cell HW.bf 0).trans rfl; have hcs := (blk_cell HW.bs 0).trans rfl; have hp0 := (blk_cell HW.bp 0).trans rfl; have hp1 := (blk_cell HW.bp 1).trans rfl; have hp2 := (blk_cell HW.bp 2).trans rfl; have hp3 := (blk_cell HW.bp 3).trans rfl; have hp4 := (blk_cell HW.bp 4).trans rfl; have hz0 := (blk_cell hbox 0).trans rfl; have hf0 := blk_frozen hbox 0;  have hz1 := (blk_cell hbox 1).trans rfl; have hf1 := blk_frozen hbox 1;  have hz2 := (blk_cell hbox 2).trans rfl; have hf2 := blk_frozen hbox 2; have hx := pw_cell_below hb UX.out.1; have hy := pw_cell_below hb UX.out.2; clear HW hbox hb hg)
  refine bodyPost_ret (results_cell_row rfl _ _ g5 124 #[.int .i64 (rd_T29 S i).f0, .bool (rd_T29 S i).f1, .int .i64 0] (0, 0) _ rfl (by refine blk_put (cs := #[.int .i64 (rd_T29 S i).f0, .bool (rd_T29 S i).f1, .int .i64 0]) ?_ 2 _ rfl; refine blk_put (cs := #[.int .i64 (rd_T29 S i).f0, .bool false, .int .i64 0]) ?_ 1 _ rfl; refine blk_put (cs := #[.int .i64 0, .bool false, .int .i64 0]) ?_ 0 _ rfl; exact BK.out) Tryd.underlying124 rfl (by kernel_rfl)) rfl ?_
  exact ⟨_, rfl, ⟨_, _, _, rfl⟩, below_set (below_set (below_set HB.out GE.out) GE.out) GE.out⟩
 have d1 : decide (i < (S.length : Int)) = false := decide_eq_false k1
 by_cases k2 : 0 ≤ mi ∧ i < f
 ·
  have d2 : decide (0 ≤ mi) = true := decide_eq_true k2.1
  have d3 : decide (i < f) = true := decide_eq_true k2.2
  obtain ⟨ad, eA, ux, uy⟩ := at_T29 HE.out.cM mi k2.1 (by omega)
  subst eA
  have UX := Aside0.mk (And.intro ux uy)
  have q1 := eq_true (show 0 ≤ mi from k2.1)
  have q2 := eq_true (show mi < (M.length : Int) from (by omega))
  clear ux uy h h1 h2 hi hf hs hmi hen k1
  go_enter Tryd.func122, Tryd.ntmps122
  go_wp2_with ((with_reducible refine gate_dst (N := 5) rfl ?_); refine box_event ?hg (N := 5) ?hd (cs := #[.int .i64 0, .bool false, .int .i64 0]) (t := 124) ?hr ?_; (case hd => rfl); (case hg => rfl); (case hr => first | (go_simp; done) | (go_simp; rfl)); intro g5 hg w1 hbox hb; have BK := Aside0.mk hbox; have HB := Aside0.mk hb; have GE : Aside0 (w.heap.size ≤ g5) := ⟨Nat.le_of_eq hg.symm⟩; have HW := HE.out.below hb; have hcf := (blk_cell HW.bf 0).trans rfl; have hcs := (blk_cell HW.bs 0).trans rfl; have hp0 := (blk_cell HW.bp 0).trans rfl; have hp1 := (blk_cell HW.bp 1).trans rfl; have hp2 := (blk_cell HW.bp 2).trans rfl; have hp3 := (blk_cell HW.bp 3).trans rfl; have hp4 := (blk_cell HW.bp 4).trans rfl; have hz0 := (blk_cell hbox 0).trans rfl; have hf0 := blk_frozen hbox 0;  have hz1 := (blk_cell hbox 1).trans rfl; have hf1 := blk_frozen hbox 1;  have hz2 := (blk_cell hbox 2).trans rfl; have hf2 := blk_frozen hbox 2; have hx := pw_cell_below hb UX.out.1; have hy := pw_cell_below hb UX.out.2; clear HW hbox hb hg)
  refine bodyPost_ret (results_cell_row rfl _ _ g5 124 #[.int .i64 (rd_T29 M mi).f0, .bool (rd_T29 M mi).f1, .int .i64 2] (0, 0) _ rfl (by refine blk_put (cs := #[.int .i64 (rd_T29 M mi).f0, .bool (rd_T29 M mi).f1, .int .i64 0]) ?_ 2 _ rfl; refine blk_put (cs := #[.int .i64 (rd_T29 M mi).f0, .bool false, .int .i64 0]) ?_ 1 _ rfl; refine blk_put (cs := #[.int .i64 0, .bool false, .int .i64 0]) ?_ 0 _ rfl; exact BK.out) Tryd.underlying124 rfl (by kernel_rfl)) rfl ?_
  exact ⟨_, rfl, ⟨_, _, _, rfl⟩, below_set (below_set (below_set HB.out GE.out) GE.out) GE.out⟩
 by_cases k3 : 0 ≤ en
 ·
  have e3 : decide (0 ≤ en) = true := decide_eq_true k3
  by_cases k4 : 0 ≤ mi
  ·
   have d2 : decide (0 ≤ mi) = true := decide_eq_true k4
   have d3 : decide (i < f) = false := decide_eq_false (by omega)
   obtain ⟨ad, eA, ux, uy⟩ := at_T29 HE.out.cE en k3 (by omega)
   subst eA
   have UX := Aside0.mk (And.intro ux uy)
   have q1 := eq_true (show 0 ≤ en from k3)
   have q2 := eq_true (show en < (E.length : Int) from (by omega))
   clear ux uy h h1 h2 hi hf hs hmi hen k1 k2 k4
   go_enter Tryd.func122, Tryd.ntmps122
   go_wp2_with ((with_reducible refine gate_dst (N := 5) rfl ?_); refine box_event ?hg (N := 5) ?hd (cs := #[.int .i64 0, .bool false, .int .i64 0]) (t := 124) ?hr ?_; (case hd => rfl); (case hg => rfl); (case hr => first | (go_simp; done) | (go_simp; rfl)); intro g5 hg w1 hbox hb; have BK := Aside0.mk hbox; have HB := Aside0.mk hb; have GE : Aside0 (w.heap.size ≤ g5) := ⟨Nat.le_of_eq hg.symm⟩; have HW := HE.out.below hb; have hcf := (blk_cell HW.bf 0).trans rfl; have hcs := (blk_cell HW.bs 0).trans rfl; have hp0 := (blk_cell HW.bp 0).trans rfl; have hp1 := (blk_cell HW.bp 1).trans rfl; have hp2 := (blk_cell HW.bp 2).trans rfl; have hp3 := (blk_cell HW.bp 3).trans rfl; have hp4 := (blk_cell HW.bp 4).trans rfl; have hz0 := (blk_cell hbox 0).trans rfl; have hf0 := blk_frozen hbox 0;  have hz1 := (blk_cell hbox 1).trans rfl; have hf1 := blk_frozen hbox 1;  have hz2 := (blk_cell hbox 2).trans rfl; have hf2 := blk_frozen hbox 2; have hx := pw_cell_below hb UX.out.1; have hy := pw_cell_below hb UX.out.2; clear HW hbox hb hg)
   refine bodyPost_ret (results_cell_row rfl _ _ g5 124 #[.int .i64 (rd_T29 E en).f0, .bool (rd_T29 E en).f1, .int .i64 3] (0, 0) _ rfl (by refine blk_put (cs := #[.int .i64 (rd_T29 E en).f0, .bool (rd_T29 E en).f1, .int .i64 0]) ?_ 2 _ rfl; refine blk_put (cs := #[.int .i64 (rd_T29 E en).f0, .bool false, .int .i64 0]) ?_ 1 _ rfl; refine blk_put (cs := #[.int .i64 0, .bool false, .int .i64 0]) ?_ 0 _ rfl; exact BK.out) Tryd.underlying124 rfl (by kernel_rfl)) rfl ?_
   exact ⟨_, rfl, ⟨_, _, _, rfl⟩, below_set (below_set (below_set HB.out GE.out) GE.out) GE.out⟩
  ·
   have d2 : decide (0 ≤ mi) = false := decide_eq_false k4
   obtain ⟨ad, eA, ux, uy⟩ := at_T29 HE.out.cE en k3 (by omega)
   subst eA
   have UX := Aside0.mk (And.intro ux uy)
   have q1 := eq_true (show 0 ≤ en from k3)
   have q2 := eq_true (show en < (E.length : Int) from (by omega))
   clear ux uy h h1 h2 hi hf hs hmi hen k1 k2 k4
   go_enter Tryd.func122, Tryd.ntmps122
   go_wp2_with ((with_reducible refine gate_dst (N := 5) rfl ?_); refine box_event ?hg (N := 5) ?hd (cs := #[.int .i64 0, .bool false, .int .i64 0]) (t := 124) ?hr ?_; (case hd => rfl); (case hg => rfl); (case hr => first | (go_simp; done) | (go_simp; rfl)); intro g5 hg w1 hbox hb; have BK := Aside0.mk hbox; have HB := Aside0.mk hb; have GE : Aside0 (w.heap.size ≤ g5) := ⟨Nat.le_of_eq hg.symm⟩; have HW := HE.out.below hb; have hcf := (blk_cell HW.bf 0).trans rfl; have hcs := (blk_cell HW.bs 0).trans rfl; have hp0 := (blk_cell HW.bp 0).trans rfl; have hp1 := (blk_cell HW.bp 1).trans rfl; have hp2 := (blk_cell HW.bp 2).trans rfl; have hp3 := (blk_cell HW.bp 3).trans rfl; have hp4 := (blk_cell HW.bp 4).trans rfl; have hz0 := (blk_cell hbox 0).trans rfl; have hf0 := blk_frozen hbox 0;  have hz1 := (blk_cell hbox 1).trans rfl; have hf1 := blk_frozen hbox 1;  have hz2 := (blk_cell hbox 2).trans rfl; have hf2 := blk_frozen hbox 2; have hx := pw_cell_below hb UX.out.1; have hy := pw_cell_below hb UX.out.2; clear HW hbox hb hg)
   refine bodyPost_ret (results_cell_row rfl _ _ g5 124 #[.int .i64 (rd_T29 E en).f0, .bool (rd_T29 E en).f1, .int .i64 3] (0, 0) _ rfl (by refine blk_put (cs := #[.int .i64 (rd_T29 E en).f0, .bool (rd_T29 E en).f1, .int .i64 0]) ?_ 2 _ rfl; refine blk_put (cs := #[.int .i64 (rd_T29 E en).f0, .bool false, .int .i64 0]) ?_ 1 _ rfl; refine blk_put (cs := #[.int .i64 0, .bool false, .int .i64 0]) ?_ 0 _ rfl; exact BK.out) Tryd.underlying124 rfl (by kernel_rfl)) rfl ?_
   exact ⟨_, rfl, ⟨_, _, _, rfl⟩, below_set (below_set (below_set HB.out GE.out) GE.out) GE.out⟩
 ·
  have e3 : decide (0 ≤ en) = false := decide_eq_false k3
  by_cases k4 : 0 ≤ mi
  ·
   have d2 : decide (0 ≤ mi) = true := decide_eq_true k4
   have d3 : decide (i < f) = false := decide_eq_false (by omega)
   clear h h1 h2 hi hf hs hmi hen k1 k2 k3 k4
   go_enter Tryd.func122, Tryd.ntmps122
   go_wp2_with ((with_reducible refine gate_dst (N := 5) rfl ?_); refine box_event ?hg (N := 5) ?hd (cs := #[.int .i64 0, .bool false, .int .i64 0]) (t := 124) ?hr ?_; (case hd => rfl); (case hg => rfl); (case hr => first | (go_simp; done) | (go_simp; rfl)); intro g5 hg w1 hbox hb; have BK := Aside0.mk hbox; have HB := Aside0.mk hb; have GE : Aside0 (w.heap.size ≤ g5) := ⟨Nat.le_of_eq hg.symm⟩; have HW := HE.out.below hb; have hcf := (blk_cell HW.bf 0).trans rfl; have hcs := (blk_cell HW.bs 0).trans rfl; have hp0 := (blk_cell HW.bp 0).trans rfl; have hp1 := (blk_cell HW.bp 1).trans rfl; have hp2 := (blk_cell HW.bp 2).trans rfl; have hp3 := (blk_cell HW.bp 3).trans rfl; have hp4 := (blk_cell HW.bp 4).trans rfl; have hz0 := (blk_cell hbox 0).trans rfl; have hf0 := blk_frozen hbox 0;  have hz1 := (blk_cell hbox 1).trans rfl; have hf1 := blk_frozen hbox 1;  have hz2 := (blk_cell hbox 2).trans rfl; have hf2 := blk_frozen hbox 2; clear HW hbox hb hg)
   refine bodyPost_ret (results_cell_row rfl _ _ g5 124 #[.int .i64 t.f0, .bool t.f1, .int .i64 1] (0, 0) _ rfl (by refine blk_put (cs := #[.int .i64 t.f0, .bool t.f1, .int .i64 0]) ?_ 2 _ rfl; refine blk_put (cs := #[.int .i64 t.f0, .bool false, .int .i64 0]) ?_ 1 _ rfl; refine blk_put (cs := #[.int .i64 0, .bool false, .int .i64 0]) ?_ 0 _ rfl; exact BK.out) Tryd.underlying124 rfl (by kernel_rfl)) rfl ?_
   exact ⟨_, rfl, ⟨_, _, _, rfl⟩, below_set (below_set (below_set HB.out GE.out) GE.out) GE.out⟩
  ·
   have d2 : decide (0 ≤ mi) = false := decide_eq_false k4
   clear h h1 h2 hi hf hs hmi hen k1 k2 k3 k4
   go_enter Tryd.func122, Tryd.ntmps122
   go_wp2_with ((with_reducible refine gate_dst (N := 5) rfl ?_); refine box_event ?hg (N := 5) ?hd (cs := #[.int .i64 0, .bool false, .int .i64 0]) (t := 124) ?hr ?_; (case hd => rfl); (case hg => rfl); (case hr => first | (go_simp; done) | (go_simp; rfl)); intro g5 hg w1 hbox hb; have BK := Aside0.mk hbox; have HB := Aside0.mk hb; have GE : Aside0 (w.heap.size ≤ g5) := ⟨Nat.le_of_eq hg.symm⟩; have HW := HE.out.below hb; have hcf := (blk_cell HW.bf 0).trans rfl; have hcs := (blk_cell HW.bs 0).trans rfl; have hp0 := (blk_cell HW.bp 0).trans rfl; have hp1 := (blk_cell HW.bp 1).trans rfl; have hp2 := (blk_cell HW.bp 2).trans rfl; have hp3 := (blk_cell HW.bp 3).trans rfl; have hp4 := (blk_cell HW.bp 4).trans rfl; have hz0 := (blk_cell hbox 0).trans rfl; have hf0 := blk_frozen hbox 0;  have hz1 := (blk_cell hbox 1).trans rfl; have hf1 := blk_frozen hbox 1;  have hz2 := (blk_cell hbox 2).trans rfl; have hf2 := blk_frozen hbox 2; clear HW hbox hb hg)
   refine bodyPost_ret (results_cell_row rfl _ _ g5 124 #[.int .i64 t.f0, .bool t.f1, .int .i64 1] (0, 0) _ rfl (by refine blk_put (cs := #[.int .i64 t.f0, .bool t.f1, .int .i64 0]) ?_ 2 _ rfl; refine blk_put (cs := #[.int .i64 t.f0, .bool false, .int .i64 0]) ?_ 1 _ rfl; refine blk_put (cs := #[.int .i64 0, .bool false, .int .i64 0]) ?_ 0 _ rfl; exact BK.out) Tryd.underlying124 rfl (by kernel_rfl)) rfl ?_
   exact ⟨_, rfl, ⟨_, _, _, rfl⟩, below_set (below_set (below_set HB.out GE.out) GE.out) GE.out⟩
set_option maxHeartbeats 1000000 in
set_option maxRecDepth 100000 in
theorem singer1_calls (gp : Nat) (f s2 : Int) (w : World) :
 Calls Tryd.prog 121 #[.int .i64 f, .int .i64 s2, .pointer (some ⟨gp, 0, none⟩)] w fun e w' => ∃ gf gs, e = .returned (.func (.func 122) #[] #[.pointer (some ⟨gf, 0, none⟩), .pointer (some ⟨gp, 0, none⟩), .pointer (some ⟨gs, 0, none⟩)]) ∧ w'.heap[gf]? = some (.cells #[.int .i64 f] 3 (0, 0)) ∧ w'.heap[gs]? = some (.cells #[.int .i64 s2] 3 (0, 0)) ∧ Below w.heap.size w w' := by
 go_enter Tryd.func121, Tryd.ntmps121
 go_wp2
 go_ret
 refine ⟨w.heap.size, w.heap.size + 1, rfl, ?_, ?_, below_alloc (below_alloc (Below.refl _ _) _) _⟩
 ·
  exact blk_alloc (blk_new w _) _
 ·
  have := blk_new (w.alloc (.cells #[.int .i64 f] 3)) (.cells #[.int .i64 s2] 3)
  simpa using this
set_option maxHeartbeats 1000000 in
set_option maxRecDepth 100000 in
theorem singer_calls (S : List S29) (t : S29) (M E : List S29) (A0 : Option Addr) (c0 : Nat) (A3 : Option Addr) (c3 : Nat) (A4 : Option Addr) (c4 : Nat) (w : World) :
 Calls Tryd.prog 90 #[.agg #[.slice A0 S.length c0, .int .i64 t.f0, .bool t.f1, .slice A3 M.length c3, .slice A4 E.length c4]] w fun e w' => ∃ gp, e = .returned (.func (.func 121) #[] #[.pointer (some ⟨gp, 0, none⟩)]) ∧ w'.heap[gp]? = some (.cells #[.slice A0 S.length c0, .int .i64 t.f0, .bool t.f1, .slice A3 M.length c3, .slice A4 E.length c4] 31 (0, 0)) ∧ Below w.heap.size w w' := by
 go_enter Tryd.func90, Tryd.ntmps90
 go_wp2
 go_ret
 exact ⟨w.heap.size, rfl, blk_new w _, below_alloc (Below.refl _ _) _⟩

end Go.Proofs.YtpcohkffbjdmfaaDoor.Pure
namespace Go.Proofs.YtpcohkffbjdmfaaDoor.Pure
set_option linter.unusedVariables false
set_option linter.unusedSimpArgs false
open Go Go.RowKit Go.Proofs.YtpcohkffbjdmfaaDoor.PFnExactPsalmFits Go.Proofs.YtpcohkffbjdmfaaDoorW.PrintWords Go.Proofs.YtpcohkffbjdmfaaDoorW.PrintLast Go.Proofs.YtpcohkffbjdmfaaDoorW.PrintMore

def psOk (S : List S29) (t : S29) (M E : List S29) : Bool := (decide (S.length ≤ 3) && melOk S) && (toneOk t && ((decide (1 ≤ M.length ∧ M.length ≤ 4) && melOk M) && (decide (1 ≤ E.length ∧ E.length ≤ 4) && melOk E)))
theorem psOk_len {S : List S29} {t : S29} {M E : List S29} (h : psOk S t M E = true) : S.length ≤ 3 ∧ M.length ≤ 4 ∧ E.length ≤ 4 := by
 unfold psOk at h
 simp only [Bool.and_eq_true, decide_eq_true_eq] at h
 omega

theorem impl_tonesValid_ev (l : List S29) (a b : Int) : Ev (fun n => impl_tonesValid.f n l a b) (decide (a ≤ (l.length : Int) ∧ (l.length : Int) ≤ b) && melOk l) := by
 unfold impl_tonesValid.f
 by_cases h1 : (l.length : Int) ≥ a
 ·
  refine Ev.pos h1 ?_
  by_cases h2 : (l.length : Int) ≤ b
  ·
   refine Ev.pos h2 (Ev.bind (impl_MelodyValid_ev l) (Ev.eqr (Ev.now _) ?_))
   rw [decide_eq_true ⟨h1, h2⟩, Bool.true_and]
  ·
   exact Ev.neg h2 (Ev.eqr (Ev.now _) (by rw [decide_eq_false (fun h => h2 h.2), Bool.false_and]))
 ·
  exact Ev.neg h1 (Ev.eqr (Ev.now _) (by rw [decide_eq_false (fun h => h1 h.1), Bool.false_and]))
theorem impl_PsalmValid_ev (S : List S29) (t : S29) (M E : List S29) : Ev (fun n => impl_PsalmValid.f n S t.f0 t.f1 M E) (psOk S t M E) := by
 unfold impl_PsalmValid.f psOk
 have e1 := impl_tonesValid_ev S 0 3
 have e2 := impl_tonesValid_ev M 1 4
 have e3 := impl_tonesValid_ev E 1 4
 rw [show (decide ((0 : Int) ≤ (S.length : Int) ∧ (S.length : Int) ≤ 3)) = decide (S.length ≤ 3) from decide_eq_decide.2 (by omega)] at e1
 rw [show (decide ((1 : Int) ≤ (M.length : Int) ∧ (M.length : Int) ≤ 4)) = decide (1 ≤ M.length ∧ M.length ≤ 4) from decide_eq_decide.2 (by omega)] at e2
 rw [show (decide ((1 : Int) ≤ (E.length : Int) ∧ (E.length : Int) ≤ 4)) = decide (1 ≤ E.length ∧ E.length ≤ 4) from decide_eq_decide.2 (by omega)] at e3
 refine Ev.bind e1 ?_
 cases decide (S.length ≤ 3) && melOk S
 ·
  exact Ev.neg (by simp) (Ev.now _)
 refine Ev.pos rfl (Ev.conb (impl_Tone_valid_eq t.f0 t.f1) ?_)
 show Ev _ (true && (toneOk ⟨t.f0, t.f1⟩ && _))
 cases toneOk ⟨t.f0, t.f1⟩
 ·
  exact Ev.neg (by simp) (Ev.now _)
 refine Ev.pos rfl (Ev.bind e2 ?_)
 cases decide (1 ≤ M.length ∧ M.length ≤ 4) && melOk M
 ·
  exact Ev.neg (by simp) (Ev.now _)
 refine Ev.pos rfl (Ev.bind e3 (Ev.eqr (Ev.now _) ?_))
 simp

theorem blk_newn {w : World} {n : Nat} (o : Obj) (h : n = w.heap.size) : (w.alloc o).heap[n]? = some o := by subst h; exact blk_new w o
theorem one_raw {W : World} {b : Nat} {cp : List Value} (h : W.heap[b]? = some (.cells cp.toArray 124 (0, 0))) (hl : cp.length = 3) (h1 : ∀ u ∈ cp, u.oneCell' = true) : ReadsRow ((Kd.raw 3).K W) 3 W (some ⟨b, 0, none⟩) 1 [cp] := by
 refine ⟨rfl, by omega, fun _ => ⟨_, rfl, fun j p hj => ?_⟩⟩
 obtain rfl : j = 0 := by have := (List.getElem?_eq_some_iff.1 hj).1; simp at this; omega
 obtain rfl : cp = p := by simpa using hj
 refine ⟨cp, hl, ⟨rfl, hl, h1⟩, fun i u hu => ?_⟩
 rw [Nat.zero_mul, Nat.zero_add, Addr.add_lit, Nat.zero_add, cell_of_row W b i cp.toArray 124 (0, 0) h]
 simpa using hu
theorem infoSung : (Tryd.prog.info? 124).map (fun i => (i.zero, i.size, i.bytes)) = some (some (.agg #[.int .i64 0, .bool false, .int .i64 0]), 3, 24) := by kernel_rfl
def fitsOk (S : List S29) (t : S29) (M E : List S29) (s : ByteArray) : Bool := vhOk s && (psOk S t M E && (decide (S.length + M.length ≤ (cutB s).1.size) && decide (E.length ≤ (cutB s).2.1.size)))
set_option maxHeartbeats 4000000 in
set_option maxRecDepth 100000 in
theorem impl_sungVerse_calls (S : List S29) (t : S29) (M E : List S29) (s : ByteArray) (A0 : Option Addr) (c0 : Nat) (A3 : Option Addr) (c3 : Nat) (A4 : Option Addr) (c4 : Nat) (w : World) (hr0 : Kd.C k29 w A0 S.length S) (hc0 : S.length ≤ c0) (hr3 : Kd.C k29 w A3 M.length M) (hc3 : M.length ≤ c3) (hr4 : Kd.C k29 w A4 E.length E) (hc4 : E.length ≤ c4) (hs : s.size ≤ 1000000000000) :
 Calls Tryd.prog 54 #[.agg #[.slice A0 S.length c0, .int .i64 t.f0, .bool t.f1, .slice A3 M.length c3, .slice A4 E.length c4], .string s] w fun e w' => ∃ v, e = .returned (.tuple #[v, .bool (fitsOk S t M E s)]) ∧ Below w.heap.size w w' := by
 obtain ⟨kk, hv⟩ := Ev.rounds (impl_PsalmValid_ev S t M E)
 have HR0 := Aside0.mk hr0
 have HC0 := Aside0.mk hc0
 clear hr0 hc0
 have HR3 := Aside0.mk hr3
 have HC3 := Aside0.mk hc3
 clear hr3 hc3
 have HR4 := Aside0.mk hr4
 have HC4 := Aside0.mk hc4
 clear hr4 hc4
 have HV := Aside0.mk hv
 clear hv
 have hz := cutB_sizes s
 have hvh : ∀ w, Calls Tryd.prog 89 #[.string s] w fun e w' => e = .returned (.tuple #[.string (vHalves s).1, .string (vHalves s).2.1, .bool (vHalves s).2.2]) ∧ Below w.heap.size w w' := fun w => impl_VerseHalves_calls s w hs
 by_cases hk : vhOk s = true
 rotate_left
 ·
  have e : vHalves s = (⟨#[]⟩, ⟨#[]⟩, false) := by unfold vHalves; rw [if_neg hk]
  have ef : fitsOk S t M E s = false := by unfold fitsOk; rw [Bool.eq_false_iff.mpr hk, Bool.false_and]
  rw [ef]
  simp only [e] at hvh
  clear e ef hk hz
  go_enter Tryd.func54, Tryd.ntmps54
  go_wp2_with (first
   | ((with_reducible refine gate_dst (N := 2) rfl ?_); refine box_event ?hg (N := 2) ?hd (cs := #[.slice A0 S.length c0, .int .i64 t.f0, .bool t.f1, .slice A3 M.length c3, .slice A4 E.length c4]) (t := 31) ?hr ?_; (case hd => rfl); (case hg => rfl); (case hr => first | (go_simp; done) | (go_simp; rfl)); intro g2 hg w1 hbox hb; have BK1 := Aside0.mk hbox; have HB1 := Aside0.mk hb; clear hb hbox hg)
   | (go_at_call 89; refine (hvh _).mono ?_; rintro e w2 ⟨rfl, hb⟩; have BK2 := Aside0.mk (blk_below BK1.out hb); have HB2 := Aside0.mk (below_step HB1.out hb); clear hb; have hp0 := (blk_cell BK2.out 0).trans rfl; have hp1 := (blk_cell BK2.out 1).trans rfl; have hp2 := (blk_cell BK2.out 2).trans rfl; have hp3 := (blk_cell BK2.out 3).trans rfl; have hp4 := (blk_cell BK2.out 4).trans rfl))
  go_ret2
  exact ⟨_, rfl, HB2.out⟩
 have e : vHalves s = ((cutB s).1, (cutB s).2.1, true) := by unfold vHalves; rw [if_pos hk]
 simp only [e] at hvh
 have hk2 : (cutB s).1.size + (cutB s).2.1.size ≤ 20 := by unfold vhOk at hk; simp only [Bool.and_eq_true, decide_eq_true_eq] at hk; exact hk.2.1
 have ef : fitsOk S t M E s = (psOk S t M E && (decide (S.length + M.length ≤ (cutB s).1.size) && decide (E.length ≤ (cutB s).2.1.size))) := by unfold fitsOk; rw [hk, Bool.true_and]
 rw [ef]
 obtain ⟨a, ha⟩ : ∃ a, a = (cutB s).1 := ⟨_, rfl⟩
 obtain ⟨b, hb⟩ : ∃ b, b = (cutB s).2.1 := ⟨_, rfl⟩
 rw [← ha, ← hb] at hk2 ⊢
 simp only [← ha, ← hb] at hvh
 clear e ef hk hz ha hb
 cases hok : psOk S t M E
 ·
  rw [hok] at HV
  rw [Bool.false_and]
  clear hok
  go_enter Tryd.func54, Tryd.ntmps54
  go_wp2_with (first
   | ((with_reducible refine gate_dst (N := 2) rfl ?_); refine box_event ?hg (N := 2) ?hd (cs := #[.slice A0 S.length c0, .int .i64 t.f0, .bool t.f1, .slice A3 M.length c3, .slice A4 E.length c4]) (t := 31) ?hr ?_; (case hd => rfl); (case hg => rfl); (case hr => first | (go_simp; done) | (go_simp; rfl)); intro g2 hg w1 hbox hb; have BK1 := Aside0.mk hbox; have HB1 := Aside0.mk hb; clear hb hbox hg)
   | (go_at_call 89; refine (hvh _).mono ?_; rintro e w2 ⟨rfl, hb⟩; have BK2 := Aside0.mk (blk_below BK1.out hb); have HB2 := Aside0.mk (below_step HB1.out hb); clear hb; have hp0 := (blk_cell BK2.out 0).trans rfl; have hp1 := (blk_cell BK2.out 1).trans rfl; have hp2 := (blk_cell BK2.out 2).trans rfl; have hp3 := (blk_cell BK2.out 3).trans rfl; have hp4 := (blk_cell BK2.out 4).trans rfl)
   | (go_at_call 48; refine (impl_PsalmValid.calls kk _ _ S t.f0 t.f1 _ _ M _ _ E false _ (Kd.C_below HR0.out HB2.out) HC0.out (Kd.C_below HR3.out HB2.out) HC3.out (Kd.C_below HR4.out HB2.out) HC4.out HV.out).mono ?_; rintro e w3 ⟨rfl, hb⟩; have BK3 := Aside0.mk (blk_below BK2.out hb); have HB3 := Aside0.mk (below_step HB2.out hb); clear hb hp0 hp1 hp2 hp3 hp4; have hr0 := (blk_cell BK3.out 0).trans rfl; have hr1 := (blk_cell BK3.out 1).trans rfl; have hr2 := (blk_cell BK3.out 2).trans rfl; have hr3 := (blk_cell BK3.out 3).trans rfl; have hr4 := (blk_cell BK3.out 4).trans rfl))
  go_ret2
  exact ⟨_, rfl, HB3.out⟩
 rw [hok] at HV
 rw [Bool.true_and]
 obtain ⟨z1, z2, z3⟩ := psOk_len hok
 clear hok
 have p1 : IntKind.i64.wrap ((S.length : Int) + (M.length : Int)) = (S.length : Int) + (M.length : Int) := by rw [Go.IntKind.wrap_i64]; omega
 have p2 : IntKind.i64.wrap ((a.size : Int) + (b.size : Int)) = (a.size : Int) + (b.size : Int) := by rw [Go.IntKind.wrap_i64]; omega
 by_cases h1 : (a.size : Int) < (S.length : Int) + (M.length : Int)
 ·
  have d1 : decide ((a.size : Int) < (S.length : Int) + (M.length : Int)) = true := decide_eq_true h1
  rw [decide_eq_false (show ¬ S.length + M.length ≤ a.size by omega), Bool.false_and]
  clear h1
  go_enter Tryd.func54, Tryd.ntmps54
  go_wp2_with (first
   | ((with_reducible refine gate_dst (N := 2) rfl ?_); refine box_event ?hg (N := 2) ?hd (cs := #[.slice A0 S.length c0, .int .i64 t.f0, .bool t.f1, .slice A3 M.length c3, .slice A4 E.length c4]) (t := 31) ?hr ?_; (case hd => rfl); (case hg => rfl); (case hr => first | (go_simp; done) | (go_simp; rfl)); intro g2 hg w1 hbox hb; have BK1 := Aside0.mk hbox; have HB1 := Aside0.mk hb; clear hb hbox hg)
   | (go_at_call 89; refine (hvh _).mono ?_; rintro e w2 ⟨rfl, hb⟩; have BK2 := Aside0.mk (blk_below BK1.out hb); have HB2 := Aside0.mk (below_step HB1.out hb); clear hb; have hp0 := (blk_cell BK2.out 0).trans rfl; have hp1 := (blk_cell BK2.out 1).trans rfl; have hp2 := (blk_cell BK2.out 2).trans rfl; have hp3 := (blk_cell BK2.out 3).trans rfl; have hp4 := (blk_cell BK2.out 4).trans rfl)
   | (go_at_call 48; refine (impl_PsalmValid.calls kk _ _ S t.f0 t.f1 _ _ M _ _ E true _ (Kd.C_below HR0.out HB2.out) HC0.out (Kd.C_below HR3.out HB2.out) HC3.out (Kd.C_below HR4.out HB2.out) HC4.out HV.out).mono ?_; rintro e w3 ⟨rfl, hb⟩; have BK3 := Aside0.mk (blk_below BK2.out hb); have HB3 := Aside0.mk (below_step HB2.out hb); clear hb hp0 hp1 hp2 hp3 hp4; have hr0 := (blk_cell BK3.out 0).trans rfl; have hr1 := (blk_cell BK3.out 1).trans rfl; have hr2 := (blk_cell BK3.out 2).trans rfl; have hr3 := (blk_cell BK3.out 3).trans rfl; have hr4 := (blk_cell BK3.out 4).trans rfl))
  go_ret2
  exact ⟨_, rfl, HB3.out⟩
 have d1 : decide ((a.size : Int) < (S.length : Int) + (M.length : Int)) = false := decide_eq_false h1
 rw [decide_eq_true (show S.length + M.length ≤ a.size by omega), Bool.true_and]
 by_cases h2 : (b.size : Int) < (E.length : Int)
 ·
  have d2 : decide ((b.size : Int) < (E.length : Int)) = true := decide_eq_true h2
  have d2n : decide (b.size < E.length) = true := decide_eq_true (by omega)
  rw [decide_eq_false (show ¬ E.length ≤ b.size by omega)]
  clear h1 h2
  go_enter Tryd.func54, Tryd.ntmps54
  go_wp2_with (first
   | ((with_reducible refine gate_dst (N := 2) rfl ?_); refine box_event ?hg (N := 2) ?hd (cs := #[.slice A0 S.length c0, .int .i64 t.f0, .bool t.f1, .slice A3 M.length c3, .slice A4 E.length c4]) (t := 31) ?hr ?_; (case hd => rfl); (case hg => rfl); (case hr => first | (go_simp; done) | (go_simp; rfl)); intro g2 hg w1 hbox hb; have BK1 := Aside0.mk hbox; have HB1 := Aside0.mk hb; clear hb hbox hg)
   | (go_at_call 89; refine (hvh _).mono ?_; rintro e w2 ⟨rfl, hb⟩; have BK2 := Aside0.mk (blk_below BK1.out hb); have HB2 := Aside0.mk (below_step HB1.out hb); clear hb; have hp0 := (blk_cell BK2.out 0).trans rfl; have hp1 := (blk_cell BK2.out 1).trans rfl; have hp2 := (blk_cell BK2.out 2).trans rfl; have hp3 := (blk_cell BK2.out 3).trans rfl; have hp4 := (blk_cell BK2.out 4).trans rfl)
   | (go_at_call 48; refine (impl_PsalmValid.calls kk _ _ S t.f0 t.f1 _ _ M _ _ E true _ (Kd.C_below HR0.out HB2.out) HC0.out (Kd.C_below HR3.out HB2.out) HC3.out (Kd.C_below HR4.out HB2.out) HC4.out HV.out).mono ?_; rintro e w3 ⟨rfl, hb⟩; have BK3 := Aside0.mk (blk_below BK2.out hb); have HB3 := Aside0.mk (below_step HB2.out hb); clear hb hp0 hp1 hp2 hp3 hp4; have hr0 := (blk_cell BK3.out 0).trans rfl; have hr1 := (blk_cell BK3.out 1).trans rfl; have hr2 := (blk_cell BK3.out 2).trans rfl; have hr3 := (blk_cell BK3.out 3).trans rfl; have hr4 := (blk_cell BK3.out 4).trans rfl))
  go_ret2
  exact ⟨_, rfl, HB3.out⟩
 have d2 : decide ((b.size : Int) < (E.length : Int)) = false := decide_eq_false h2
 have d2n : decide (b.size < E.length) = false := decide_eq_false (by omega)
 rw [decide_eq_true (show E.length ≤ b.size by omega)]
 obtain ⟨n, hn⟩ : ∃ n : Nat, n = a.size + b.size := ⟨_, rfl⟩
 go_enter Tryd.func54, Tryd.ntmps54
 go_wp2_with (first
  | ((with_reducible refine gate_dst (N := 2) rfl ?_); refine box_event ?hg (N := 2) ?hd (cs := #[.slice A0 S.length c0, .int .i64 t.f0, .bool t.f1, .slice A3 M.length c3, .slice A4 E.length c4]) (t := 31) ?hr ?_; (case hd => rfl); (case hg => rfl); (case hr => first | (go_simp; done) | (go_simp; rfl)); intro g2 hg w1 hbox hb; have BK1 := Aside0.mk hbox; have HB1 := Aside0.mk hb; clear hb hbox hg)
  | (go_at_call 89; refine (hvh _).mono ?_; rintro e w2 ⟨rfl, hb⟩; have BK2 := Aside0.mk (blk_below BK1.out hb); have HB2 := Aside0.mk (below_step HB1.out hb); clear hb; have hp0 := (blk_cell BK2.out 0).trans rfl; have hp1 := (blk_cell BK2.out 1).trans rfl; have hp2 := (blk_cell BK2.out 2).trans rfl; have hp3 := (blk_cell BK2.out 3).trans rfl; have hp4 := (blk_cell BK2.out 4).trans rfl)
  | (go_at_call 48; refine (impl_PsalmValid.calls kk _ _ S t.f0 t.f1 _ _ M _ _ E true _ (Kd.C_below HR0.out HB2.out) HC0.out (Kd.C_below HR3.out HB2.out) HC3.out (Kd.C_below HR4.out HB2.out) HC4.out HV.out).mono ?_; rintro e w3 ⟨rfl, hb⟩; have BK3 := Aside0.mk (blk_below BK2.out hb); have HB3 := Aside0.mk (below_step HB2.out hb); clear hb hp0 hp1 hp2 hp3 hp4; have hr0 := (blk_cell BK3.out 0).trans rfl; have hr1 := (blk_cell BK3.out 1).trans rfl; have hr2 := (blk_cell BK3.out 2).trans rfl; have hr3 := (blk_cell BK3.out 3).trans rfl; have hr4 := (blk_cell BK3.out 4).trans rfl)
  | (go_at_call 90; refine (singer_calls S t M E _ _ _ _ _ _ _).mono ?_; rintro e w4 ⟨gp, rfl, hbp, hb⟩; have BP := Aside0.mk hbp; have HB4 := Aside0.mk (below_step HB3.out hb); clear hb hbp hr0 hr1 hr2 hr3 hr4)
  | (go_at_call 121; refine (singer1_calls gp _ _ _).mono ?_; rintro e w5 ⟨gf, gs, rfl, hbf, hbs, hb⟩; have BF5 := Aside0.mk hbf; have BS5 := Aside0.mk hbs; have BP5 := Aside0.mk (blk_below BP.out hb); have HB5 := Aside0.mk (below_step HB4.out hb); clear hb hbf hbs)
  | ((with_reducible refine gate_dst (N := 50) rfl ?_); refine Kd.R_lit (Kd.raw 3) _ 124 ?hg (N := 50) ?hd (xs := ([] : List (List Value))) (inner := []) (ok := fun _ => True) (okp := fun _ => True) ?hr (Reps.none _ _) (fun _ hk => hk) trivial (Below.refl _ _) (Nat.le_refl _) (by simp) ?_; (case hd => rfl); (case hg => rfl); (case hr => first | (go_simp; done) | (go_simp; rfl)); intro v50 w6 ho hb _ _; have HO6 := Aside0.mk (Kd.R_lower ho HB5.out.size); have BF6 := Aside0.mk (blk_below BF5.out hb); have BS6 := Aside0.mk (blk_below BS5.out hb); have BP6 := Aside0.mk (blk_below BP5.out hb); have HB6 := Aside0.mk (below_step HB5.out hb); clear ho hb))
 clear HB1 HB2 HB3 HB4 HB5 BF5 BS5 BP5 BP BK1 BK2 BK3
 go_loopg [10, 11, 56] n (fun kq v10 v11 v56 w' => ∃ (i : Nat) (rows : List (List Value)), v56 = .int .i64 (i : Int) ∧ Aside0 (kq = n - i ∧ i ≤ n ∧ rows.length = i) ∧ Aside0 ((Kd.raw 3).R 124 w' w.heap.size (fun _ => True) v10 rows) ∧ Aside0 (w'.heap[gf]? = some (.cells #[.int .i64 (a.size : Int)] 3 (0, 0))) ∧ Aside0 (w'.heap[gs]? = some (.cells #[.int .i64 (b.size : Int)] 3 (0, 0))) ∧ Aside0 (w'.heap[gp]? = some (.cells #[.slice A0 S.length c0, .int .i64 t.f0, .bool t.f1, .slice A3 M.length c3, .slice A4 E.length c4] 31 (0, 0))) ∧ Aside0 (Below w.heap.size w w'))
 case atStart => exact ⟨0, [], rfl, ⟨by simp⟩, HO6, BF6, BS6, BP6, HB6⟩
 case round =>
  clear HO6 BF6 BS6 BP6 HB6
  obtain ⟨i, rows, rfl, HX, HO, BF, BS, BP, HB⟩ := hrel
  obtain ⟨hkq, hin, hrl⟩ := HX.out
  by_cases hi : (i : Int) < (a.size : Int) + (b.size : Int)
  ·
   have dd : decide ((i : Int) < (a.size : Int) + (b.size : Int)) = true := decide_eq_true hi
   have NX : Aside0 (n - (i + 1) < gk ∧ i + 1 ≤ n ∧ i ≤ 1000) := ⟨by omega, by omega, by omega⟩
   have HRL := Aside0.mk hrl
   have hsing : Aside0 (∀ W, SingEnv W gf gp gs (a.size : Int) (b.size : Int) S t M E A0 c0 A3 c3 A4 c4 → Calls Tryd.prog 122 #[.int .i64 (i : Int), .pointer (some ⟨gf, 0, none⟩), .pointer (some ⟨gp, 0, none⟩), .pointer (some ⟨gs, 0, none⟩)] W fun e w' => ∃ v, e = .returned v ∧ SungV v ∧ Below W.heap.size W w') := ⟨fun W hW => singAt_calls gf gp gs _ _ S t M E A0 c0 A3 c3 A4 c4 (i : Int) W hW ⟨by omega, by omega⟩ ⟨by omega, by omega⟩ ⟨by omega, hi⟩ (by omega) (by omega)⟩
   have q2 : IntKind.i64.wrap ((i : Int) + 1) = (i : Int) + 1 := by rw [Go.IntKind.wrap_i64]; omega
   clear hkq hin hrl HX
   go_wp2_with (first
    | (go_at_call 122; refine (hsing.out _ ⟨BF.out, BS.out, BP.out, Kd.C_below HR0.out HB.out, Kd.C_below HR3.out HB.out, Kd.C_below HR4.out HB.out⟩).mono ?_; rintro e w7 ⟨v62, rfl, ⟨sx, sy, sz, rfl⟩, hb⟩; have HO7 := Aside0.mk (Kd.R_below HO.out hb); have BF7 := Aside0.mk (blk_below BF.out hb); have BS7 := Aside0.mk (blk_below BS.out hb); have BP7 := Aside0.mk (blk_below BP.out hb); have HB7 := Aside0.mk (below_step HB.out hb); clear hb)
    | ((with_reducible refine gate_builtin (b := .append) (xs := #[.tmp 59, .tmp 63]) rfl ?_); at_builtin; (refine Kd.R_append_rows (Kd.raw 3) (w0 := w) w.heap.size rfl (.tmp 59) (.tmp 63) 74 124 (.agg #[.int .i64 0, .bool false, .int .i64 0]) 24 rfl Tryd.underlying74 infoSung rfl (by decide) (by omega) _ rows [[.int .i64 sx, .bool sy, .int .i64 sz]] (some ⟨w7.heap.size, 0, none⟩) 1 1 (fun _ => True) (fun _ => False) rfl rfl (Kd.R_alloc HO7.out _) (one_raw (blk_newn _ rfl) rfl (by simp [Value.oneCell'])) (fun _ _ h => h) (fun _ h => h.elim) (fun _ _ => trivial) (below_alloc HB7.out _) (Nat.le_trans HB7.out.size (by simp)) (by have := NX.out; have := HRL.out; omega) ?_); intro v64 w8 ho hb hg _; have HO8 := Aside0.mk ho; have HB8 := Aside0.mk hb; have BF8 := Aside0.mk (blk_grown (blk_alloc BF7.out _) hg (Kd.R_ne HO7.out BF7.out (by decide))); have BS8 := Aside0.mk (blk_grown (blk_alloc BS7.out _) hg (Kd.R_ne HO7.out BS7.out (by decide))); have BP8 := Aside0.mk (blk_grown (blk_alloc BP7.out _) hg (Kd.R_ne HO7.out BP7.out (by decide))); clear ho hb hg))
   go_roundg (n - (i + 1))
   case measure => exact NX.out.1
   case rel => exact ⟨i + 1, _, by simp, ⟨rfl, NX.out.2.1, by rw [List.length_append, HRL.out]; rfl⟩, HO8, BF8, BS8, BP8, HB8⟩
  ·
   have dd : decide ((i : Int) < (a.size : Int) + (b.size : Int)) = false := decide_eq_false hi
   go_wp2
   go_ret2
   first | exact ⟨_, rfl, HB.out⟩ | exact ⟨⟨_, rfl⟩, HB.out⟩
set_option maxHeartbeats 1000000 in
set_option maxRecDepth 100000 in
theorem impl_PsalmFits_calls (S : List S29) (t : S29) (M E : List S29) (s : ByteArray) (A0 : Option Addr) (c0 : Nat) (A3 : Option Addr) (c3 : Nat) (A4 : Option Addr) (c4 : Nat) (w : World) (hr0 : Kd.C k29 w A0 S.length S) (hc0 : S.length ≤ c0) (hr3 : Kd.C k29 w A3 M.length M) (hc3 : M.length ≤ c3) (hr4 : Kd.C k29 w A4 E.length E) (hc4 : E.length ≤ c4) (hs : s.size ≤ 1000000000000) :
 Calls Tryd.prog 17 #[.agg #[.slice A0 S.length c0, .int .i64 t.f0, .bool t.f1, .slice A3 M.length c3, .slice A4 E.length c4], .string s] w fun e w' => e = .returned (.bool (fitsOk S t M E s)) ∧ Below w.heap.size w w' := by
 have HR0 := Aside0.mk hr0
 have HC0 := Aside0.mk hc0
 clear hr0 hc0
 have HR3 := Aside0.mk hr3
 have HC3 := Aside0.mk hc3
 clear hr3 hc3
 have HR4 := Aside0.mk hr4
 have HC4 := Aside0.mk hc4
 clear hr4 hc4
 go_enter Tryd.func17, Tryd.ntmps17
 go_wp2_with (first
  | ((with_reducible refine gate_dst (N := 2) rfl ?_); refine box_event ?hg (N := 2) ?hd (cs := #[.slice A0 S.length c0, .int .i64 t.f0, .bool t.f1, .slice A3 M.length c3, .slice A4 E.length c4]) (t := 31) ?hr ?_; (case hd => rfl); (case hg => rfl); (case hr => first | (go_simp; done) | (go_simp; rfl)); intro g2 hg w1 hbox hb; have BK1 := Aside0.mk hbox; have HB1 := Aside0.mk hb; clear hb hbox hg; have hp0 := (blk_cell BK1.out 0).trans rfl; have hp1 := (blk_cell BK1.out 1).trans rfl; have hp2 := (blk_cell BK1.out 2).trans rfl; have hp3 := (blk_cell BK1.out 3).trans rfl; have hp4 := (blk_cell BK1.out 4).trans rfl)
  | (go_at_call 54; refine (impl_sungVerse_calls S t M E s _ _ _ _ _ _ _ (Kd.C_below HR0.out HB1.out) HC0.out (Kd.C_below HR3.out HB1.out) HC3.out (Kd.C_below HR4.out HB1.out) HC4.out hs).mono ?_; rintro e w2 ⟨v, rfl, hb⟩; have HB2 := Aside0.mk (below_step HB1.out hb); clear hb))
 go_ret
 exact ⟨rfl, HB2.out⟩

end Go.Proofs.YtpcohkffbjdmfaaDoor.Pure
namespace Go.Proofs.YtpcohkffbjdmfaaDoor.PFnExactPsalmFits
set_option linter.unusedVariables false
set_option linter.unusedSimpArgs false
open Go Go.RowKit Go.Proofs.YtpcohkffbjdmfaaDoor.Pure Go.Proofs.YtpcohkffbjdmfaaDoorW.PrintWords Go.Proofs.YtpcohkffbjdmfaaDoorW.PrintLast Go.Proofs.YtpcohkffbjdmfaaDoorW.PrintMore
def impl_PsalmFits.f (l0_0 : List S29) (a0_1 : Int) (a0_2 : Bool) (l0_3 : List S29) (l0_4 : List S29) (a1 : ByteArray) : Option Bool := if a1.size ≤ 1000000000000 then some (fitsOk l0_0 ⟨a0_1, a0_2⟩ l0_3 l0_4 a1) else none
theorem impl_PsalmFits.calls (A0_0 : Option Addr) (c0_0 : Nat) (l0_0 : List S29) (a0_1 : Int) (a0_2 : Bool) (A0_3 : Option Addr) (c0_3 : Nat) (l0_3 : List S29) (A0_4 : Option Addr) (c0_4 : Nat) (l0_4 : List S29) (a1 : ByteArray) (r : Bool) (w : World) (hr0_0 : Kd.C k29 w A0_0 l0_0.length l0_0) (hc0_0 : l0_0.length ≤ c0_0) (hr0_3 : Kd.C k29 w A0_3 l0_3.length l0_3) (hc0_3 : l0_3.length ≤ c0_3) (hr0_4 : Kd.C k29 w A0_4 l0_4.length l0_4) (hc0_4 : l0_4.length ≤ c0_4) (h : impl_PsalmFits.f l0_0 a0_1 a0_2 l0_3 l0_4 a1 = some r) :
 Calls Tryd.prog 17 #[.agg #[.slice A0_0 l0_0.length c0_0, .int .i64 a0_1, .bool a0_2, .slice A0_3 l0_3.length c0_3, .slice A0_4 l0_4.length c0_4], .string a1] w fun e w' => e = .returned (.bool r) ∧ Below w.heap.size w w' := by
 unfold impl_PsalmFits.f at h; split at h
 ·
  rename_i hh
  injection h with h
  have := impl_PsalmFits_calls l0_0 ⟨a0_1, a0_2⟩ l0_3 l0_4 a1 A0_0 c0_0 A0_3 c0_3 A0_4 c0_4 w hr0_0 hc0_0 hr0_3 hc0_3 hr0_4 hc0_4 hh; rw [h] at this; exact this
 ·
  cases h

end Go.Proofs.YtpcohkffbjdmfaaDoor.PFnExactPsalmFits
namespace Go.Proofs.YtpcohkffbjdmfaaDoor.PFnExactPsalmFits
open Go.RowKit Go.Proofs.YtpcohkffbjdmfaaDoorW.PrintWords Go.Proofs.YtpcohkffbjdmfaaDoorW.PrintLast Go.Proofs.YtpcohkffbjdmfaaDoorW.PrintMore
attribute [local go_sem] max2_int min2_int max_two min_two max_three min_three max_four min_four   -- for this text's walks alone
set_option linter.unusedVariables false
set_option linter.unusedSimpArgs false

def laws_FnExactPsalmFits.f (k : Nat) (l0_0 : List (S24)) (a0_1 : Int) (a0_2 : Bool) (l0_3 : List (S24)) (l0_4 : List (S24)) (a1 : ByteArray) : Option (Bool) := if (a1.size : Int) > 1048576 then (some true) else ((laws_szPsalm.f l0_0 a0_1 a0_2 l0_3 l0_4 1048576).bind fun t181 => (if t181 < 0 then (some true) else ((laws_toPsalm.f k l0_0 a0_1 a0_2 l0_3 l0_4).bind fun bt182 => ((spec_PsalmFits.f k bt182.1 bt182.2.1 bt182.2.2.1 bt182.2.2.2.1 bt182.2.2.2.2 a1).bind fun t193 => ((laws_toPsalm.f k l0_0 a0_1 a0_2 l0_3 l0_4).bind fun bt194 => ((impl_PsalmFits.f bt194.1 bt194.2.1 bt194.2.2.1 bt194.2.2.2.1 bt194.2.2.2.2 a1).bind fun t206 => (if (t206 != t193) = true then (some false) else ((laws_toPsalm.f k l0_0 a0_1 a0_2 l0_3 l0_4).bind fun bt207 => ((laws_eqPsalm.f k bt194.1 bt194.2.1 bt194.2.2.1 bt194.2.2.2.1 bt194.2.2.2.2 bt207.1 bt207.2.1 bt207.2.2.1 bt207.2.2.2.1 bt207.2.2.2.2).bind fun t218 => (if t218 = true then (some true) else (some false)))))))))))
set_option maxHeartbeats 8000000 in
set_option maxRecDepth 100000 in
theorem laws_FnExactPsalmFits.calls (k : Nat) (A0_0 : Option Addr) (c0_0 : Nat) (l0_0 : List (S24)) (a0_1 : Int) (a0_2 : Bool) (A0_3 : Option Addr) (c0_3 : Nat) (l0_3 : List (S24)) (A0_4 : Option Addr) (c0_4 : Nat) (l0_4 : List (S24)) (a1 : ByteArray) (r : Bool) (w : World) (hr0_0 : Kd.C k24 w A0_0 l0_0.length l0_0) (hc0_0 : l0_0.length ≤ c0_0) (hr0_3 : Kd.C k24 w A0_3 l0_3.length l0_3) (hc0_3 : l0_3.length ≤ c0_3) (hr0_4 : Kd.C k24 w A0_4 l0_4.length l0_4) (hc0_4 : l0_4.length ≤ c0_4) (hr : r = true) (h : laws_FnExactPsalmFits.f k l0_0 a0_1 a0_2 l0_3 l0_4 a1 = some r) :
 Calls Tryd.prog 4 #[.agg #[.slice A0_0 l0_0.length c0_0, .int .i64 a0_1, .bool a0_2, .slice A0_3 l0_3.length c0_3, .slice A0_4 l0_4.length c0_4], .string a1] w fun e w' => e = .returned (.bool r) ∧ Below w.heap.size w w' := by
 have HRR := Aside0.mk hr; clear hr; have hu26 := Tryd.underlying26; have hu31 := Tryd.underlying31; have HR0_0 := Aside0.mk hr0_0; have HC0_0 := Aside0.mk hc0_0; clear hr0_0 hc0_0; have HR0_3 := Aside0.mk hr0_3; have HC0_3 := Aside0.mk hc0_3; clear hr0_3 hc0_3; have HR0_4 := Aside0.mk hr0_4; have HC0_4 := Aside0.mk hc0_4; clear hr0_4 hc0_4; have HB := Aside0.mk (Below.refl w.heap.size w); have H : (if (a1.size : Int) > 1048576 then (some true) else ((laws_szPsalm.f l0_0 a0_1 a0_2 l0_3 l0_4 1048576).bind fun t181 => (if t181 < 0 then (some true) else ((laws_toPsalm.f k l0_0 a0_1 a0_2 l0_3 l0_4).bind fun bt182 => ((spec_PsalmFits.f k bt182.1 bt182.2.1 bt182.2.2.1 bt182.2.2.2.1 bt182.2.2.2.2 a1).bind fun t193 => ((laws_toPsalm.f k l0_0 a0_1 a0_2 l0_3 l0_4).bind fun bt194 => ((impl_PsalmFits.f bt194.1 bt194.2.1 bt194.2.2.1 bt194.2.2.2.1 bt194.2.2.2.2 a1).bind fun t206 => (if (t206 != t193) = true then (some false) else ((laws_toPsalm.f k l0_0 a0_1 a0_2 l0_3 l0_4).bind fun bt207 => ((laws_eqPsalm.f k bt194.1 bt194.2.1 bt194.2.2.1 bt194.2.2.2.1 bt194.2.2.2.2 bt207.1 bt207.2.1 bt207.2.2.1 bt207.2.2.2.1 bt207.2.2.2.2).bind fun t218 => (if t218 = true then (some true) else (some false)))))))))))) = some r := h; clear h; by_cases c3 : (a1.size : Int) > 1048576
 ·
  rw [if_pos c3] at H; have c3b0 : decide (1048576 < (a1.size : Int)) = true := decide_eq_true c3; have c3b1 : decide (1048576 < a1.size) = true := decide_eq_true (by omega); clear c3; obtain rfl := Option.some.inj H; go_enter Tryd.func4, Tryd.ntmps4
  go_wp2_with (first | ((with_reducible refine gate_dst (N := 2) rfl ?_); refine box_event ?hg (N := 2) ?hd (cs := #[.slice A0_0 l0_0.length c0_0, .int .i64 a0_1, .bool a0_2, .slice A0_3 l0_3.length c0_3, .slice A0_4 l0_4.length c0_4]) (t := 26) ?hr ?_; (case hd => rfl); (case hg => rfl); (case hr => first | (go_simp; done) | (go_simp; rfl)); intro gb180 hg w4 hbox hb; have n0_ := Aside0.mk (below_step (by repeat (first | (with_reducible first | exact HB.out | apply below_alloc | apply pw_below_drewN | apply below_drew1) | exact HB.out)) hb); have n1_ := Aside0.mk (hbox); have n2_ := Aside0.mk ((by rw [hg]; exact (below_size (by repeat (first | (with_reducible first | exact HB.out | apply below_alloc | apply pw_below_drewN | apply below_drew1) | exact HB.out))) : w.heap.size ≤ gb180)); have n3_ := Aside0.mk ((by rw [hg]; exact (below_size (by repeat (first | (with_reducible first | exact HB.out | apply below_alloc | apply pw_below_drewN | apply below_drew1) | exact HB.out))) : w.heap.size ≤ gb180)); clear HB; have HB := n0_; have BK180 := n1_; have GW180 := n2_; have GE180 := n3_; clear n0_ n1_ n2_ n3_; clear hb hbox hg))
  go_ret
  exact ⟨by first | rfl | (simp [errW_none, errW_some] <;> rfl) | (simp [*, errW_none, errW_some] <;> rfl), by repeat (first | (with_reducible first | exact HB.out | apply below_alloc | apply pw_below_drewN | apply below_drew1 | refine below_set ?_ GE180.out) | exact HB.out)⟩
 ·
  rw [if_neg c3] at H; have c3b0 : decide (1048576 < (a1.size : Int)) = false := decide_eq_false c3; have c3b1 : decide (1048576 < a1.size) = false := decide_eq_false (by omega); clear c3; replace H := Option.bind_eq_some_iff.mp H; obtain ⟨t181, A50, H⟩ := H; replace H : (if t181 < 0 then (some true) else ((laws_toPsalm.f k l0_0 a0_1 a0_2 l0_3 l0_4).bind fun bt182 => ((spec_PsalmFits.f k bt182.1 bt182.2.1 bt182.2.2.1 bt182.2.2.2.1 bt182.2.2.2.2 a1).bind fun t193 => ((laws_toPsalm.f k l0_0 a0_1 a0_2 l0_3 l0_4).bind fun bt194 => ((impl_PsalmFits.f bt194.1 bt194.2.1 bt194.2.2.1 bt194.2.2.2.1 bt194.2.2.2.2 a1).bind fun t206 => (if (t206 != t193) = true then (some false) else ((laws_toPsalm.f k l0_0 a0_1 a0_2 l0_3 l0_4).bind fun bt207 => ((laws_eqPsalm.f k bt194.1 bt194.2.1 bt194.2.2.1 bt194.2.2.2.1 bt194.2.2.2.2 bt207.1 bt207.2.1 bt207.2.2.1 bt207.2.2.2.1 bt207.2.2.2.2).bind fun t218 => (if t218 = true then (some true) else (some false)))))))))) = some r := H; have A5 := Aside0.mk A50; clear A50; by_cases c6 : t181 < 0
  ·
   rw [if_pos c6] at H; have c6b0 : decide (t181 < 0) = true := decide_eq_true c6; clear c6; obtain rfl := Option.some.inj H; go_enter Tryd.func4, Tryd.ntmps4
   go_wp2_with (first | ((with_reducible refine gate_dst (N := 2) rfl ?_); refine box_event ?hg (N := 2) ?hd (cs := #[.slice A0_0 l0_0.length c0_0, .int .i64 a0_1, .bool a0_2, .slice A0_3 l0_3.length c0_3, .slice A0_4 l0_4.length c0_4]) (t := 26) ?hr ?_; (case hd => rfl); (case hg => rfl); (case hr => first | (go_simp; done) | (go_simp; rfl)); intro gb180 hg w7 hbox hb; have n0_ := Aside0.mk (below_step (by repeat (first | (with_reducible first | exact HB.out | apply below_alloc | apply pw_below_drewN | apply below_drew1) | exact HB.out)) hb); have n1_ := Aside0.mk (hbox); have n2_ := Aside0.mk ((by rw [hg]; exact (below_size (by repeat (first | (with_reducible first | exact HB.out | apply below_alloc | apply pw_below_drewN | apply below_drew1) | exact HB.out))) : w.heap.size ≤ gb180)); have n3_ := Aside0.mk ((by rw [hg]; exact (below_size (by repeat (first | (with_reducible first | exact HB.out | apply below_alloc | apply pw_below_drewN | apply below_drew1) | exact HB.out))) : w.heap.size ≤ gb180)); clear HB; have HB := n0_; have BK180 := n1_; have GW180 := n2_; have GE180 := n3_; clear n0_ n1_ n2_ n3_; clear hb hbox hg; have hcz8_0 : w7.cell? ⟨gb180, 0, none⟩ = some (.slice A0_0 l0_0.length c0_0) := (blk_cell BK180.out 0).trans rfl; have hcz8_1 : w7.cell? ⟨gb180, 1, none⟩ = some (.int .i64 a0_1) := (blk_cell BK180.out 1).trans rfl; have hcz8_2 : w7.cell? ⟨gb180, 2, none⟩ = some (.bool a0_2) := (blk_cell BK180.out 2).trans rfl; have hcz8_3 : w7.cell? ⟨gb180, 3, none⟩ = some (.slice A0_3 l0_3.length c0_3) := (blk_cell BK180.out 3).trans rfl; have hcz8_4 : w7.cell? ⟨gb180, 4, none⟩ = some (.slice A0_4 l0_4.length c0_4) := (blk_cell BK180.out 4).trans rfl; have hfz8_0 := blk_frozen BK180.out 0; have hfz8_1 := blk_frozen BK180.out 1; have hfz8_2 := blk_frozen BK180.out 2; have hfz8_3 := blk_frozen BK180.out 3; have hfz8_4 := blk_frozen BK180.out 4) | ((with_reducible refine gate_callee (f := 9) rfl ?_); refine goesL_ (some 14) rfl rfl Tryd.func9 (by kernel_rfl) rfl #[.agg #[.slice A0_0 l0_0.length c0_0, .int .i64 a0_1, .bool a0_2, .slice A0_3 l0_3.length c0_3, .slice A0_4 l0_4.length c0_4], .int .i64 1048576] rfl (by (try simp only [List.map_toArray, List.map_cons, List.map_nil]); first | done | rfl | (simp only [List.length_drop, List.length_take]; rfl)) ?_; (with_reducible refine (laws_szPsalm.calls _ _ l0_0 a0_1 a0_2 _ _ l0_3 _ _ l0_4 1048576 t181 _ ?side1 ?side2 ?side3 ?side4 ?side5 ?side6 A5.out).mono ?_); (case side1 => repeat (first | exact (Kd.C_below HR0_0.out HB.out) | (with_reducible refine Kd.C_alloc ?_ _) | (with_reducible refine Kd.C_drewN ?_ _) | (with_reducible refine Kd.C_drew ?_))); (case side2 => exact HC0_0.out); (case side3 => repeat (first | exact (Kd.C_below HR0_3.out HB.out) | (with_reducible refine Kd.C_alloc ?_ _) | (with_reducible refine Kd.C_drewN ?_ _) | (with_reducible refine Kd.C_drew ?_))); (case side4 => exact HC0_3.out); (case side5 => repeat (first | exact (Kd.C_below HR0_4.out HB.out) | (with_reducible refine Kd.C_alloc ?_ _) | (with_reducible refine Kd.C_drewN ?_ _) | (with_reducible refine Kd.C_drew ?_))); (case side6 => exact HC0_4.out); rintro e w9 ⟨rfl, hb⟩; refine ⟨_, rfl, ?_⟩; have n0_ := Aside0.mk (blk_below (g := gb180) (o := .cells #[.slice A0_0 l0_0.length c0_0, .int .i64 a0_1, .bool a0_2, .slice A0_3 l0_3.length c0_3, .slice A0_4 l0_4.length c0_4] 26 (0, 0)) (by (with_reducible repeat (first | refine blk_drewN ?_ _ | refine blk_drew ?_ | refine blk_alloc ?_ _)); exact BK180.out) hb); have n1_ := Aside0.mk (below_step (by repeat (first | (with_reducible first | exact HB.out | apply below_alloc | apply pw_below_drewN | apply below_drew1 | refine below_set ?_ GE180.out) | exact HB.out)) hb); clear BK180; clear HB; have BK180 := n0_; have HB := n1_; clear n0_ n1_; (try clear hb); (try clear hb2); (try clear hk); (try clear hi)))
   go_ret
   exact ⟨by first | rfl | (simp [errW_none, errW_some] <;> rfl) | (simp [*, errW_none, errW_some] <;> rfl), by repeat (first | (with_reducible first | exact HB.out | apply below_alloc | apply pw_below_drewN | apply below_drew1 | refine below_set ?_ GE180.out) | exact HB.out)⟩
  ·
   rw [if_neg c6] at H; have c6b0 : decide (t181 < 0) = false := decide_eq_false c6; clear c6; replace H := Option.bind_eq_some_iff.mp H; obtain ⟨⟨t182, t185, t186, t187, t190⟩, A100, H⟩ := H; replace H : ((spec_PsalmFits.f k t182 t185 t186 t187 t190 a1).bind fun t193 => ((laws_toPsalm.f k l0_0 a0_1 a0_2 l0_3 l0_4).bind fun bt194 => ((impl_PsalmFits.f bt194.1 bt194.2.1 bt194.2.2.1 bt194.2.2.2.1 bt194.2.2.2.2 a1).bind fun t206 => (if (t206 != t193) = true then (some false) else ((laws_toPsalm.f k l0_0 a0_1 a0_2 l0_3 l0_4).bind fun bt207 => ((laws_eqPsalm.f k bt194.1 bt194.2.1 bt194.2.2.1 bt194.2.2.2.1 bt194.2.2.2.2 bt207.1 bt207.2.1 bt207.2.2.1 bt207.2.2.2.1 bt207.2.2.2.2).bind fun t218 => (if t218 = true then (some true) else (some false)))))))) = some r := H; have A10 := Aside0.mk A100; clear A100; replace H := Option.bind_eq_some_iff.mp H; obtain ⟨t193, A110, H⟩ := H; replace H : ((laws_toPsalm.f k l0_0 a0_1 a0_2 l0_3 l0_4).bind fun bt194 => ((impl_PsalmFits.f bt194.1 bt194.2.1 bt194.2.2.1 bt194.2.2.2.1 bt194.2.2.2.2 a1).bind fun t206 => (if (t206 != t193) = true then (some false) else ((laws_toPsalm.f k l0_0 a0_1 a0_2 l0_3 l0_4).bind fun bt207 => ((laws_eqPsalm.f k bt194.1 bt194.2.1 bt194.2.2.1 bt194.2.2.2.1 bt194.2.2.2.2 bt207.1 bt207.2.1 bt207.2.2.1 bt207.2.2.2.1 bt207.2.2.2.2).bind fun t218 => (if t218 = true then (some true) else (some false))))))) = some r := H; have A11 := Aside0.mk A110; clear A110; replace H := Option.bind_eq_some_iff.mp H; obtain ⟨⟨t194, t197, t198, t199, t202⟩, A120, H⟩ := H; replace H : ((impl_PsalmFits.f t194 t197 t198 t199 t202 a1).bind fun t206 => (if (t206 != t193) = true then (some false) else ((laws_toPsalm.f k l0_0 a0_1 a0_2 l0_3 l0_4).bind fun bt207 => ((laws_eqPsalm.f k t194 t197 t198 t199 t202 bt207.1 bt207.2.1 bt207.2.2.1 bt207.2.2.2.1 bt207.2.2.2.2).bind fun t218 => (if t218 = true then (some true) else (some false)))))) = some r := H; have A12 := Aside0.mk A120; clear A120; replace H := Option.bind_eq_some_iff.mp H; obtain ⟨t206, A130, H⟩ := H; replace H : (if (t206 != t193) = true then (some false) else ((laws_toPsalm.f k l0_0 a0_1 a0_2 l0_3 l0_4).bind fun bt207 => ((laws_eqPsalm.f k t194 t197 t198 t199 t202 bt207.1 bt207.2.1 bt207.2.2.1 bt207.2.2.2.1 bt207.2.2.2.2).bind fun t218 => (if t218 = true then (some true) else (some false))))) = some r := H; have A13 := Aside0.mk A130; clear A130; by_cases c14 : (t206 != t193) = true
   ·
    rw [if_pos c14] at H; exact absurd (H.trans (congrArg some HRR.out)) (by simp)
   ·
    rw [if_neg c14] at H; have c14b0 : (t206 != t193) = false := by simpa using c14
    (try (have c14b1 : decide (t206 = t193) = true := by simpa using c14))
    (try (have c14b2 : (t206 == t193) = true := by simpa using c14))
    clear c14; replace H := Option.bind_eq_some_iff.mp H; obtain ⟨⟨t207, t210, t211, t212, t215⟩, A330, H⟩ := H; replace H : ((laws_eqPsalm.f k t194 t197 t198 t199 t202 t207 t210 t211 t212 t215).bind fun t218 => (if t218 = true then (some true) else (some false))) = some r := H; have A33 := Aside0.mk A330; clear A330; replace H := Option.bind_eq_some_iff.mp H; obtain ⟨t218, A340, H⟩ := H; replace H : (if t218 = true then (some true) else (some false)) = some r := H; have A34 := Aside0.mk A340; clear A340; by_cases c35 : t218 = true
    ·
     subst c35; have H1 : (some true) = some r := by rw [if_pos rfl] at H; exact H
     clear H; have H := H1; clear H1; obtain rfl := Option.some.inj H; go_enter Tryd.func4, Tryd.ntmps4
     try go_wp2_with (first | ((with_reducible refine gate_dst (N := 2) rfl ?_); refine box_event ?hg (N := 2) ?hd (cs := #[.slice A0_0 l0_0.length c0_0, .int .i64 a0_1, .bool a0_2, .slice A0_3 l0_3.length c0_3, .slice A0_4 l0_4.length c0_4]) (t := 26) ?hr ?_; (case hd => rfl); (case hg => rfl); (case hr => first | (go_simp; done) | (go_simp; rfl)); intro gb180 hg w36 hbox hb; have n0_ := Aside0.mk (below_step (by repeat (first | (with_reducible first | exact HB.out | apply below_alloc | apply pw_below_drewN | apply below_drew1) | exact HB.out)) hb); have n1_ := Aside0.mk (hbox); have n2_ := Aside0.mk ((by rw [hg]; exact (below_size (by repeat (first | (with_reducible first | exact HB.out | apply below_alloc | apply pw_below_drewN | apply below_drew1) | exact HB.out))) : w.heap.size ≤ gb180)); have n3_ := Aside0.mk ((by rw [hg]; exact (below_size (by repeat (first | (with_reducible first | exact HB.out | apply below_alloc | apply pw_below_drewN | apply below_drew1) | exact HB.out))) : w.heap.size ≤ gb180)); clear HB; have HB := n0_; have BK180 := n1_; have GW180 := n2_; have GE180 := n3_; clear n0_ n1_ n2_ n3_; clear hb hbox hg; have hcz37_0 : w36.cell? ⟨gb180, 0, none⟩ = some (.slice A0_0 l0_0.length c0_0) := (blk_cell BK180.out 0).trans rfl; have hcz37_1 : w36.cell? ⟨gb180, 1, none⟩ = some (.int .i64 a0_1) := (blk_cell BK180.out 1).trans rfl; have hcz37_2 : w36.cell? ⟨gb180, 2, none⟩ = some (.bool a0_2) := (blk_cell BK180.out 2).trans rfl; have hcz37_3 : w36.cell? ⟨gb180, 3, none⟩ = some (.slice A0_3 l0_3.length c0_3) := (blk_cell BK180.out 3).trans rfl; have hcz37_4 : w36.cell? ⟨gb180, 4, none⟩ = some (.slice A0_4 l0_4.length c0_4) := (blk_cell BK180.out 4).trans rfl; have hfz37_0 := blk_frozen BK180.out 0; have hfz37_1 := blk_frozen BK180.out 1; have hfz37_2 := blk_frozen BK180.out 2; have hfz37_3 := blk_frozen BK180.out 3; have hfz37_4 := blk_frozen BK180.out 4) | ((with_reducible refine gate_callee (f := 9) rfl ?_); refine goesL_ (some 14) rfl rfl Tryd.func9 (by kernel_rfl) rfl #[.agg #[.slice A0_0 l0_0.length c0_0, .int .i64 a0_1, .bool a0_2, .slice A0_3 l0_3.length c0_3, .slice A0_4 l0_4.length c0_4], .int .i64 1048576] rfl (by (try simp only [List.map_toArray, List.map_cons, List.map_nil]); first | done | rfl | (simp only [List.length_drop, List.length_take]; rfl)) ?_; (with_reducible refine (laws_szPsalm.calls _ _ l0_0 a0_1 a0_2 _ _ l0_3 _ _ l0_4 1048576 t181 _ ?side1 ?side2 ?side3 ?side4 ?side5 ?side6 A5.out).mono ?_); (case side1 => repeat (first | exact (Kd.C_below HR0_0.out HB.out) | (with_reducible refine Kd.C_alloc ?_ _) | (with_reducible refine Kd.C_drewN ?_ _) | (with_reducible refine Kd.C_drew ?_))); (case side2 => exact HC0_0.out); (case side3 => repeat (first | exact (Kd.C_below HR0_3.out HB.out) | (with_reducible refine Kd.C_alloc ?_ _) | (with_reducible refine Kd.C_drewN ?_ _) | (with_reducible refine Kd.C_drew ?_))); (case side4 => exact HC0_3.out); (case side5 => repeat (first | exact (Kd.C_below HR0_4.out HB.out) | (with_reducible refine Kd.C_alloc ?_ _) | (with_reducible refine Kd.C_drewN ?_ _) | (with_reducible refine Kd.C_drew ?_))); (case side6 => exact HC0_4.out); rintro e w38 ⟨rfl, hb⟩; refine ⟨_, rfl, ?_⟩; have n0_ := Aside0.mk (blk_below (g := gb180) (o := .cells #[.slice A0_0 l0_0.length c0_0, .int .i64 a0_1, .bool a0_2, .slice A0_3 l0_3.length c0_3, .slice A0_4 l0_4.length c0_4] 26 (0, 0)) (by (with_reducible repeat (first | refine blk_drewN ?_ _ | refine blk_drew ?_ | refine blk_alloc ?_ _)); exact BK180.out) hb); have n1_ := Aside0.mk (below_step (by repeat (first | (with_reducible first | exact HB.out | apply below_alloc | apply pw_below_drewN | apply below_drew1 | refine below_set ?_ GE180.out) | exact HB.out)) hb); clear BK180; clear HB; have BK180 := n0_; have HB := n1_; clear n0_ n1_; (try clear hb); (try clear hb2); (try clear hk); (try clear hi); have hcz39_0 : w38.cell? ⟨gb180, 0, none⟩ = some (.slice A0_0 l0_0.length c0_0) := (blk_cell BK180.out 0).trans rfl; have hcz39_1 : w38.cell? ⟨gb180, 1, none⟩ = some (.int .i64 a0_1) := (blk_cell BK180.out 1).trans rfl; have hcz39_2 : w38.cell? ⟨gb180, 2, none⟩ = some (.bool a0_2) := (blk_cell BK180.out 2).trans rfl; have hcz39_3 : w38.cell? ⟨gb180, 3, none⟩ = some (.slice A0_3 l0_3.length c0_3) := (blk_cell BK180.out 3).trans rfl; have hcz39_4 : w38.cell? ⟨gb180, 4, none⟩ = some (.slice A0_4 l0_4.length c0_4) := (blk_cell BK180.out 4).trans rfl; have hfz39_0 := blk_frozen BK180.out 0; have hfz39_1 := blk_frozen BK180.out 1; have hfz39_2 := blk_frozen BK180.out 2; have hfz39_3 := blk_frozen BK180.out 3; have hfz39_4 := blk_frozen BK180.out 4) | ((with_reducible refine gate_callee (f := 11) rfl ?_); refine goesL_ (some 18) rfl rfl Tryd.func11 (by kernel_rfl) rfl #[.agg #[.slice A0_0 l0_0.length c0_0, .int .i64 a0_1, .bool a0_2, .slice A0_3 l0_3.length c0_3, .slice A0_4 l0_4.length c0_4]] rfl (by (try simp only [List.map_toArray, List.map_cons, List.map_nil]); first | done | rfl | (simp only [List.length_drop, List.length_take]; rfl)) ?_; (with_reducible refine (laws_toPsalm.calls k _ _ l0_0 a0_1 a0_2 _ _ l0_3 _ _ l0_4 t182 t185 t186 t187 t190 _ ?side1 ?side2 ?side3 ?side4 ?side5 ?side6 A10.out).mono ?_); (case side1 => repeat (first | exact (Kd.C_below HR0_0.out HB.out) | (with_reducible refine Kd.C_alloc ?_ _) | (with_reducible refine Kd.C_drewN ?_ _) | (with_reducible refine Kd.C_drew ?_))); (case side2 => exact HC0_0.out); (case side3 => repeat (first | exact (Kd.C_below HR0_3.out HB.out) | (with_reducible refine Kd.C_alloc ?_ _) | (with_reducible refine Kd.C_drewN ?_ _) | (with_reducible refine Kd.C_drew ?_))); (case side4 => exact HC0_3.out); (case side5 => repeat (first | exact (Kd.C_below HR0_4.out HB.out) | (with_reducible refine Kd.C_alloc ?_ _) | (with_reducible refine Kd.C_drewN ?_ _) | (with_reducible refine Kd.C_drew ?_))); (case side6 => exact HC0_4.out); rintro e w40 ⟨v183, v188, v191, rfl, ho0, ho1, ho2, hb⟩; refine ⟨_, rfl, ?_⟩; have n0_ := Aside0.mk (Kd.R_lower ho0 (below_size (by repeat (first | (with_reducible first | exact HB.out | apply below_alloc | apply pw_below_drewN | apply below_drew1 | refine below_set ?_ GE180.out) | exact HB.out)))); have n1_ := Aside0.mk (Kd.R_lower ho1 (below_size (by repeat (first | (with_reducible first | exact HB.out | apply below_alloc | apply pw_below_drewN | apply below_drew1 | refine below_set ?_ GE180.out) | exact HB.out)))); have n2_ := Aside0.mk (Kd.R_lower ho2 (below_size (by repeat (first | (with_reducible first | exact HB.out | apply below_alloc | apply pw_below_drewN | apply below_drew1 | refine below_set ?_ GE180.out) | exact HB.out)))); have n3_ := Aside0.mk (blk_below (g := gb180) (o := .cells #[.slice A0_0 l0_0.length c0_0, .int .i64 a0_1, .bool a0_2, .slice A0_3 l0_3.length c0_3, .slice A0_4 l0_4.length c0_4] 26 (0, 0)) (by (with_reducible repeat (first | refine blk_drewN ?_ _ | refine blk_drew ?_ | refine blk_alloc ?_ _)); exact BK180.out) hb); have n4_ := Aside0.mk (below_step (by repeat (first | (with_reducible first | exact HB.out | apply below_alloc | apply pw_below_drewN | apply below_drew1 | refine below_set ?_ GE180.out) | exact HB.out)) hb); clear BK180; clear HB; have HO184 := n0_; have HO189 := n1_; have HO192 := n2_; have BK180 := n3_; have HB := n4_; clear n0_ n1_ n2_ n3_ n4_; (try clear hb); (try clear hb2); (try clear hk); (try clear hi); (try clear ho0); (try clear ho1); (try clear ho2); obtain ⟨Ao41, co41, eo41⟩ := Kd.R_slice HO184.out; subst eo41; obtain ⟨Ao42, co42, eo42⟩ := Kd.R_slice HO189.out; subst eo42; obtain ⟨Ao43, co43, eo43⟩ := Kd.R_slice HO192.out; subst eo43) | ((with_reducible refine gate_callee (f := 16) rfl ?_); refine goesL_ (some 20) rfl rfl Tryd.func16 (by kernel_rfl) rfl #[.agg #[.slice Ao41 t182.length co41, .int .i64 t185, .bool t186, .slice Ao42 t187.length co42, .slice Ao43 t190.length co43], .string a1] rfl (by (try simp only [List.map_toArray, List.map_cons, List.map_nil]); first | done | rfl | (simp only [List.length_drop, List.length_take]; rfl)) ?_; (with_reducible refine (spec_PsalmFits.calls k _ _ t182 t185 t186 _ _ t187 _ _ t190 a1 t193 _ ?side1 ?side2 ?side3 ?side4 ?side5 ?side6 A11.out).mono ?_); (case side1 => repeat (first | exact (Kd.R_reads' HO184.out).2.2 | (with_reducible refine Kd.C_alloc ?_ _) | (with_reducible refine Kd.C_drewN ?_ _) | (with_reducible refine Kd.C_drew ?_))); (case side2 => exact (Kd.R_reads' HO184.out).2.1); (case side3 => repeat (first | exact (Kd.R_reads' HO189.out).2.2 | (with_reducible refine Kd.C_alloc ?_ _) | (with_reducible refine Kd.C_drewN ?_ _) | (with_reducible refine Kd.C_drew ?_))); (case side4 => exact (Kd.R_reads' HO189.out).2.1); (case side5 => repeat (first | exact (Kd.R_reads' HO192.out).2.2 | (with_reducible refine Kd.C_alloc ?_ _) | (with_reducible refine Kd.C_drewN ?_ _) | (with_reducible refine Kd.C_drew ?_))); (case side6 => exact (Kd.R_reads' HO192.out).2.1); rintro e w44 ⟨rfl, hb⟩; refine ⟨_, rfl, ?_⟩; have n0_ := Aside0.mk (Kd.R_below (by (with_reducible repeat (first | apply Kd.R_alloc | apply Kd.R_drewN | apply Kd.R_drew)); exact HO184.out) hb); have n1_ := Aside0.mk (Kd.R_below (by (with_reducible repeat (first | apply Kd.R_alloc | apply Kd.R_drewN | apply Kd.R_drew)); exact HO189.out) hb); have n2_ := Aside0.mk (Kd.R_below (by (with_reducible repeat (first | apply Kd.R_alloc | apply Kd.R_drewN | apply Kd.R_drew)); exact HO192.out) hb); have n3_ := Aside0.mk (blk_below (g := gb180) (o := .cells #[.slice A0_0 l0_0.length c0_0, .int .i64 a0_1, .bool a0_2, .slice A0_3 l0_3.length c0_3, .slice A0_4 l0_4.length c0_4] 26 (0, 0)) (by (with_reducible repeat (first | refine blk_drewN ?_ _ | refine blk_drew ?_ | refine blk_alloc ?_ _)); exact BK180.out) hb); have n4_ := Aside0.mk (below_step (by repeat (first | (with_reducible first | exact HB.out | apply below_alloc | apply pw_below_drewN | apply below_drew1 | refine below_set ?_ GE180.out) | exact HB.out)) hb); clear HO184; clear HO189; clear HO192; clear BK180; clear HB; have HO184 := n0_; have HO189 := n1_; have HO192 := n2_; have BK180 := n3_; have HB := n4_; clear n0_ n1_ n2_ n3_ n4_; (try clear hb); (try clear hb2); (try clear hk); (try clear hi); have hcz45_0 : w44.cell? ⟨gb180, 0, none⟩ = some (.slice A0_0 l0_0.length c0_0) := (blk_cell BK180.out 0).trans rfl; have hcz45_1 : w44.cell? ⟨gb180, 1, none⟩ = some (.int .i64 a0_1) := (blk_cell BK180.out 1).trans rfl; have hcz45_2 : w44.cell? ⟨gb180, 2, none⟩ = some (.bool a0_2) := (blk_cell BK180.out 2).trans rfl; have hcz45_3 : w44.cell? ⟨gb180, 3, none⟩ = some (.slice A0_3 l0_3.length c0_3) := (blk_cell BK180.out 3).trans rfl; have hcz45_4 : w44.cell? ⟨gb180, 4, none⟩ = some (.slice A0_4 l0_4.length c0_4) := (blk_cell BK180.out 4).trans rfl; have hfz45_0 := blk_frozen BK180.out 0; have hfz45_1 := blk_frozen BK180.out 1; have hfz45_2 := blk_frozen BK180.out 2; have hfz45_3 := blk_frozen BK180.out 3; have hfz45_4 := blk_frozen BK180.out 4) | ((with_reducible refine gate_callee (f := 11) rfl ?_); refine goesL_ (some 22) rfl rfl Tryd.func11 (by kernel_rfl) rfl #[.agg #[.slice A0_0 l0_0.length c0_0, .int .i64 a0_1, .bool a0_2, .slice A0_3 l0_3.length c0_3, .slice A0_4 l0_4.length c0_4]] rfl (by (try simp only [List.map_toArray, List.map_cons, List.map_nil]); first | done | rfl | (simp only [List.length_drop, List.length_take]; rfl)) ?_; (with_reducible refine (laws_toPsalm.calls k _ _ l0_0 a0_1 a0_2 _ _ l0_3 _ _ l0_4 t194 t197 t198 t199 t202 _ ?side1 ?side2 ?side3 ?side4 ?side5 ?side6 A12.out).mono ?_); (case side1 => repeat (first | exact (Kd.C_below HR0_0.out HB.out) | (with_reducible refine Kd.C_alloc ?_ _) | (with_reducible refine Kd.C_drewN ?_ _) | (with_reducible refine Kd.C_drew ?_))); (case side2 => exact HC0_0.out); (case side3 => repeat (first | exact (Kd.C_below HR0_3.out HB.out) | (with_reducible refine Kd.C_alloc ?_ _) | (with_reducible refine Kd.C_drewN ?_ _) | (with_reducible refine Kd.C_drew ?_))); (case side4 => exact HC0_3.out); (case side5 => repeat (first | exact (Kd.C_below HR0_4.out HB.out) | (with_reducible refine Kd.C_alloc ?_ _) | (with_reducible refine Kd.C_drewN ?_ _) | (with_reducible refine Kd.C_drew ?_))); (case side6 => exact HC0_4.out); rintro e w46 ⟨v195, v200, v203, rfl, ho0, ho1, ho2, hb⟩; refine ⟨_, rfl, ?_⟩; have n0_ := Aside0.mk (Kd.R_mono (Kd.R_told (Kd.R_told (Kd.R_told (Kd.R_old (by (with_reducible repeat (first | apply Kd.R_alloc | apply Kd.R_drewN | apply Kd.R_drew)); exact HO184.out) hb) (Kd.R_base ho0)) (Kd.R_base ho1)) (Kd.R_base ho2)) (fun _ h_ => h_.1)); have n1_ := Aside0.mk (Kd.R_mono (Kd.R_told (Kd.R_told (Kd.R_told (Kd.R_old (by (with_reducible repeat (first | apply Kd.R_alloc | apply Kd.R_drewN | apply Kd.R_drew)); exact HO189.out) hb) (Kd.R_base ho0)) (Kd.R_base ho1)) (Kd.R_base ho2)) (fun _ h_ => h_.1)); have n2_ := Aside0.mk (Kd.R_mono (Kd.R_told (Kd.R_told (Kd.R_told (Kd.R_old (by (with_reducible repeat (first | apply Kd.R_alloc | apply Kd.R_drewN | apply Kd.R_drew)); exact HO192.out) hb) (Kd.R_base ho0)) (Kd.R_base ho1)) (Kd.R_base ho2)) (fun _ h_ => h_.1)); have n3_ := Aside0.mk (Kd.R_lower (Kd.R_new' (Kd.R_new' (Kd.R_new' ho0 (Kd.R_lt (by (with_reducible repeat (first | apply Kd.R_alloc | apply Kd.R_drewN | apply Kd.R_drew)); exact HO184.out))) (Kd.R_lt (by (with_reducible repeat (first | apply Kd.R_alloc | apply Kd.R_drewN | apply Kd.R_drew)); exact HO189.out))) (Kd.R_lt (by (with_reducible repeat (first | apply Kd.R_alloc | apply Kd.R_drewN | apply Kd.R_drew)); exact HO192.out))) (below_size (by repeat (first | (with_reducible first | exact HB.out | apply below_alloc | apply pw_below_drewN | apply below_drew1 | refine below_set ?_ GE180.out) | exact HB.out)))); have n4_ := Aside0.mk (Kd.R_lower (Kd.R_new' (Kd.R_new' (Kd.R_new' ho1 (Kd.R_lt (by (with_reducible repeat (first | apply Kd.R_alloc | apply Kd.R_drewN | apply Kd.R_drew)); exact HO184.out))) (Kd.R_lt (by (with_reducible repeat (first | apply Kd.R_alloc | apply Kd.R_drewN | apply Kd.R_drew)); exact HO189.out))) (Kd.R_lt (by (with_reducible repeat (first | apply Kd.R_alloc | apply Kd.R_drewN | apply Kd.R_drew)); exact HO192.out))) (below_size (by repeat (first | (with_reducible first | exact HB.out | apply below_alloc | apply pw_below_drewN | apply below_drew1 | refine below_set ?_ GE180.out) | exact HB.out)))); have n5_ := Aside0.mk (Kd.R_lower (Kd.R_new' (Kd.R_new' (Kd.R_new' ho2 (Kd.R_lt (by (with_reducible repeat (first | apply Kd.R_alloc | apply Kd.R_drewN | apply Kd.R_drew)); exact HO184.out))) (Kd.R_lt (by (with_reducible repeat (first | apply Kd.R_alloc | apply Kd.R_drewN | apply Kd.R_drew)); exact HO189.out))) (Kd.R_lt (by (with_reducible repeat (first | apply Kd.R_alloc | apply Kd.R_drewN | apply Kd.R_drew)); exact HO192.out))) (below_size (by repeat (first | (with_reducible first | exact HB.out | apply below_alloc | apply pw_below_drewN | apply below_drew1 | refine below_set ?_ GE180.out) | exact HB.out)))); have n6_ := Aside0.mk (blk_below (g := gb180) (o := .cells #[.slice A0_0 l0_0.length c0_0, .int .i64 a0_1, .bool a0_2, .slice A0_3 l0_3.length c0_3, .slice A0_4 l0_4.length c0_4] 26 (0, 0)) (by (with_reducible repeat (first | refine blk_drewN ?_ _ | refine blk_drew ?_ | refine blk_alloc ?_ _)); exact BK180.out) hb); have n7_ := Aside0.mk (below_step (by repeat (first | (with_reducible first | exact HB.out | apply below_alloc | apply pw_below_drewN | apply below_drew1 | refine below_set ?_ GE180.out) | exact HB.out)) hb); clear HO184; clear HO189; clear HO192; clear BK180; clear HB; have HO184 := n0_; have HO189 := n1_; have HO192 := n2_; have HO196 := n3_; have HO201 := n4_; have HO204 := n5_; have BK180 := n6_; have HB := n7_; clear n0_ n1_ n2_ n3_ n4_ n5_ n6_ n7_; (try clear hb); (try clear hb2); (try clear hk); (try clear hi); (try clear ho0); (try clear ho1); (try clear ho2)) | ((with_reducible refine gate_dst (N := 7) rfl ?_); refine box_event ?hg (N := 7) ?hd (cs := #[.slice none 0 0, .int .i64 0, .bool false, .slice none 0 0, .slice none 0 0]) (t := 31) ?hr ?_; (case hd => rfl); (case hg => rfl); (case hr => first | (go_simp; done) | (go_simp; rfl)); intro gb205 hg w47 hbox hb; have n0_ := Aside0.mk (Kd.R_below (by (with_reducible repeat (first | apply Kd.R_alloc | apply Kd.R_drewN | apply Kd.R_drew)); exact HO184.out) hb); have n1_ := Aside0.mk (Kd.R_below (by (with_reducible repeat (first | apply Kd.R_alloc | apply Kd.R_drewN | apply Kd.R_drew)); exact HO189.out) hb); have n2_ := Aside0.mk (Kd.R_below (by (with_reducible repeat (first | apply Kd.R_alloc | apply Kd.R_drewN | apply Kd.R_drew)); exact HO192.out) hb); have n3_ := Aside0.mk (Kd.R_below (by (with_reducible repeat (first | apply Kd.R_alloc | apply Kd.R_drewN | apply Kd.R_drew)); exact HO196.out) hb); have n4_ := Aside0.mk (Kd.R_below (by (with_reducible repeat (first | apply Kd.R_alloc | apply Kd.R_drewN | apply Kd.R_drew)); exact HO201.out) hb); have n5_ := Aside0.mk (Kd.R_below (by (with_reducible repeat (first | apply Kd.R_alloc | apply Kd.R_drewN | apply Kd.R_drew)); exact HO204.out) hb); have n6_ := Aside0.mk (blk_below (g := gb180) (o := .cells #[.slice A0_0 l0_0.length c0_0, .int .i64 a0_1, .bool a0_2, .slice A0_3 l0_3.length c0_3, .slice A0_4 l0_4.length c0_4] 26 (0, 0)) (by (with_reducible repeat (first | refine blk_drewN ?_ _ | refine blk_drew ?_ | refine blk_alloc ?_ _)); exact BK180.out) hb); have n7_ := Aside0.mk (below_step (by repeat (first | (with_reducible first | exact HB.out | apply below_alloc | apply pw_below_drewN | apply below_drew1 | refine below_set ?_ GE180.out) | exact HB.out)) hb); have n8_ := Aside0.mk (hbox); have n9_ := Aside0.mk ((by rw [hg]; exact (below_size (by repeat (first | (with_reducible first | exact HB.out | apply below_alloc | apply pw_below_drewN | apply below_drew1 | refine below_set ?_ GE180.out) | exact HB.out))) : w.heap.size ≤ gb205)); have n10_ := Aside0.mk ((by rw [hg]; exact (below_size (by repeat (first | (with_reducible first | exact HB.out | apply below_alloc | apply pw_below_drewN | apply below_drew1 | refine below_set ?_ GE180.out) | exact HB.out))) : w.heap.size ≤ gb205)); have n11_ := Aside0.mk ((by rw [hg]; exact Nat.ne_of_lt (blk_lt (g := gb180) (o := .cells #[.slice A0_0 l0_0.length c0_0, .int .i64 a0_1, .bool a0_2, .slice A0_3 l0_3.length c0_3, .slice A0_4 l0_4.length c0_4] 26 (0, 0)) (by (with_reducible repeat (first | refine blk_drewN ?_ _ | refine blk_drew ?_ | refine blk_alloc ?_ _)); exact BK180.out)) : gb180 ≠ gb205)); have n12_ := Aside0.mk ((by rw [hg]; exact Nat.ne_of_gt (blk_lt (g := gb180) (o := .cells #[.slice A0_0 l0_0.length c0_0, .int .i64 a0_1, .bool a0_2, .slice A0_3 l0_3.length c0_3, .slice A0_4 l0_4.length c0_4] 26 (0, 0)) (by (with_reducible repeat (first | refine blk_drewN ?_ _ | refine blk_drew ?_ | refine blk_alloc ?_ _)); exact BK180.out)) : gb205 ≠ gb180)); clear HO184; clear HO189; clear HO192; clear HO196; clear HO201; clear HO204; clear BK180; clear HB; have HO184 := n0_; have HO189 := n1_; have HO192 := n2_; have HO196 := n3_; have HO201 := n4_; have HO204 := n5_; have BK180 := n6_; have HB := n7_; have BK205 := n8_; have GW205 := n9_; have GE205 := n10_; have NB180_205 := n11_; have NB205_180 := n12_; clear n0_ n1_ n2_ n3_ n4_ n5_ n6_ n7_ n8_ n9_ n10_ n11_ n12_; clear hb hbox hg; obtain ⟨Ao48, co48, eo48⟩ := Kd.R_slice HO196.out; subst eo48; have hnb49 := NB205_180.out; have hnc49 := NB180_205.out; have hcz50_0 : w47.cell? ⟨gb205, 0, none⟩ = some (.slice none 0 0) := (blk_cell BK205.out 0).trans rfl; have hcz50_1 : w47.cell? ⟨gb205, 1, none⟩ = some (.int .i64 0) := (blk_cell BK205.out 1).trans rfl; have hcz50_2 : w47.cell? ⟨gb205, 2, none⟩ = some (.bool false) := (blk_cell BK205.out 2).trans rfl; have hcz50_3 : w47.cell? ⟨gb205, 3, none⟩ = some (.slice none 0 0) := (blk_cell BK205.out 3).trans rfl; have hcz50_4 : w47.cell? ⟨gb205, 4, none⟩ = some (.slice none 0 0) := (blk_cell BK205.out 4).trans rfl; have hfz50_0 := blk_frozen BK205.out 0; have hfz50_1 := blk_frozen BK205.out 1; have hfz50_2 := blk_frozen BK205.out 2; have hfz50_3 := blk_frozen BK205.out 3; have hfz50_4 := blk_frozen BK205.out 4; obtain ⟨Ao51, co51, eo51⟩ := Kd.R_slice HO201.out; subst eo51; obtain ⟨Ao52, co52, eo52⟩ := Kd.R_slice HO204.out; subst eo52) | ((with_reducible refine gate_callee (f := 17) rfl ?_); refine goesL_ (some 25) rfl rfl Tryd.func17 (by kernel_rfl) rfl #[.agg #[.slice Ao48 t194.length co48, .int .i64 t197, .bool t198, .slice Ao51 t199.length co51, .slice Ao52 t202.length co52], .string a1] rfl (by (try simp only [List.map_toArray, List.map_cons, List.map_nil]); first | done | rfl | (simp only [List.length_drop, List.length_take]; rfl)) ?_; (with_reducible refine (impl_PsalmFits.calls _ _ t194 t197 t198 _ _ t199 _ _ t202 a1 t206 _ ?side1 ?side2 ?side3 ?side4 ?side5 ?side6 A13.out).mono ?_); (case side1 => refine (Kd.R_reads' (e := 29) (base := w.heap.size) (ok := fun k_ => ((((some k_ ≠ (.slice Ao51 t199.length co51 : Value).ownBlock ∧ some k_ ≠ (.slice Ao52 t202.length co52 : Value).ownBlock) ∧ some k_ ≠ (.slice Ao41 t182.length co41 : Value).ownBlock) ∧ some k_ ≠ (.slice Ao42 t187.length co42 : Value).ownBlock) ∧ some k_ ≠ (.slice Ao43 t190.length co43 : Value).ownBlock)) (n := t194.length) (c := co48) ?_).2.2; exact (by (with_reducible repeat (first | apply Kd.R_alloc | apply Kd.R_drewN | apply Kd.R_drew)); exact (Kd.R_mono (Kd.R_far (p := ⟨gb205, 4, none⟩) (Kd.R_far (p := ⟨gb205, 3, none⟩) (Kd.R_far (p := ⟨gb205, 2, none⟩) (Kd.R_far (p := ⟨gb205, 1, none⟩) (Kd.R_far (p := ⟨gb205, 0, none⟩) (Kd.R_types HO196.out BK205.out (by decide)) (fun _ hk => hk.2) (.slice Ao48 t194.length co48)) (fun _ hk => hk.2) (.int .i64 t197)) (fun _ hk => hk.2) (.bool t198)) (fun _ hk => hk.2) (.slice Ao51 t199.length co51)) (fun _ hk => hk.2) (.slice Ao52 t202.length co52)) (fun _ h_ => h_.1)))); (case side2 => exact (Kd.R_reads' HO196.out).2.1); (case side3 => refine (Kd.R_reads' (e := 29) (base := w.heap.size) (ok := fun k_ => ((((some k_ ≠ (.slice Ao48 t194.length co48 : Value).ownBlock ∧ some k_ ≠ (.slice Ao52 t202.length co52 : Value).ownBlock) ∧ some k_ ≠ (.slice Ao41 t182.length co41 : Value).ownBlock) ∧ some k_ ≠ (.slice Ao42 t187.length co42 : Value).ownBlock) ∧ some k_ ≠ (.slice Ao43 t190.length co43 : Value).ownBlock)) (n := t199.length) (c := co51) ?_).2.2; exact (by (with_reducible repeat (first | apply Kd.R_alloc | apply Kd.R_drewN | apply Kd.R_drew)); exact (Kd.R_mono (Kd.R_far (p := ⟨gb205, 4, none⟩) (Kd.R_far (p := ⟨gb205, 3, none⟩) (Kd.R_far (p := ⟨gb205, 2, none⟩) (Kd.R_far (p := ⟨gb205, 1, none⟩) (Kd.R_far (p := ⟨gb205, 0, none⟩) (Kd.R_types HO201.out BK205.out (by decide)) (fun _ hk => hk.2) (.slice Ao48 t194.length co48)) (fun _ hk => hk.2) (.int .i64 t197)) (fun _ hk => hk.2) (.bool t198)) (fun _ hk => hk.2) (.slice Ao51 t199.length co51)) (fun _ hk => hk.2) (.slice Ao52 t202.length co52)) (fun _ h_ => h_.1)))); (case side4 => exact (Kd.R_reads' HO201.out).2.1); (case side5 => refine (Kd.R_reads' (e := 29) (base := w.heap.size) (ok := fun k_ => ((((some k_ ≠ (.slice Ao48 t194.length co48 : Value).ownBlock ∧ some k_ ≠ (.slice Ao51 t199.length co51 : Value).ownBlock) ∧ some k_ ≠ (.slice Ao41 t182.length co41 : Value).ownBlock) ∧ some k_ ≠ (.slice Ao42 t187.length co42 : Value).ownBlock) ∧ some k_ ≠ (.slice Ao43 t190.length co43 : Value).ownBlock)) (n := t202.length) (c := co52) ?_).2.2; exact (by (with_reducible repeat (first | apply Kd.R_alloc | apply Kd.R_drewN | apply Kd.R_drew)); exact (Kd.R_mono (Kd.R_far (p := ⟨gb205, 4, none⟩) (Kd.R_far (p := ⟨gb205, 3, none⟩) (Kd.R_far (p := ⟨gb205, 2, none⟩) (Kd.R_far (p := ⟨gb205, 1, none⟩) (Kd.R_far (p := ⟨gb205, 0, none⟩) (Kd.R_types HO204.out BK205.out (by decide)) (fun _ hk => hk.2) (.slice Ao48 t194.length co48)) (fun _ hk => hk.2) (.int .i64 t197)) (fun _ hk => hk.2) (.bool t198)) (fun _ hk => hk.2) (.slice Ao51 t199.length co51)) (fun _ hk => hk.2) (.slice Ao52 t202.length co52)) (fun _ h_ => h_.1)))); (case side6 => exact (Kd.R_reads' HO204.out).2.1); rintro e w53 ⟨rfl, hb⟩; refine ⟨_, rfl, ?_⟩; have n0_ := Aside0.mk (Kd.R_below (by (with_reducible repeat (first | apply Kd.R_alloc | apply Kd.R_drewN | apply Kd.R_drew)); exact (Kd.R_mono (Kd.R_far (p := ⟨gb205, 4, none⟩) (Kd.R_far (p := ⟨gb205, 3, none⟩) (Kd.R_far (p := ⟨gb205, 2, none⟩) (Kd.R_far (p := ⟨gb205, 1, none⟩) (Kd.R_far (p := ⟨gb205, 0, none⟩) (Kd.R_types HO184.out BK205.out (by decide)) (fun _ hk => hk.2) (.slice Ao48 t194.length co48)) (fun _ hk => hk.2) (.int .i64 t197)) (fun _ hk => hk.2) (.bool t198)) (fun _ hk => hk.2) (.slice Ao51 t199.length co51)) (fun _ hk => hk.2) (.slice Ao52 t202.length co52)) (fun _ h_ => h_.1))) hb); have n1_ := Aside0.mk (Kd.R_below (by (with_reducible repeat (first | apply Kd.R_alloc | apply Kd.R_drewN | apply Kd.R_drew)); exact (Kd.R_mono (Kd.R_far (p := ⟨gb205, 4, none⟩) (Kd.R_far (p := ⟨gb205, 3, none⟩) (Kd.R_far (p := ⟨gb205, 2, none⟩) (Kd.R_far (p := ⟨gb205, 1, none⟩) (Kd.R_far (p := ⟨gb205, 0, none⟩) (Kd.R_types HO189.out BK205.out (by decide)) (fun _ hk => hk.2) (.slice Ao48 t194.length co48)) (fun _ hk => hk.2) (.int .i64 t197)) (fun _ hk => hk.2) (.bool t198)) (fun _ hk => hk.2) (.slice Ao51 t199.length co51)) (fun _ hk => hk.2) (.slice Ao52 t202.length co52)) (fun _ h_ => h_.1))) hb); have n2_ := Aside0.mk (Kd.R_below (by (with_reducible repeat (first | apply Kd.R_alloc | apply Kd.R_drewN | apply Kd.R_drew)); exact (Kd.R_mono (Kd.R_far (p := ⟨gb205, 4, none⟩) (Kd.R_far (p := ⟨gb205, 3, none⟩) (Kd.R_far (p := ⟨gb205, 2, none⟩) (Kd.R_far (p := ⟨gb205, 1, none⟩) (Kd.R_far (p := ⟨gb205, 0, none⟩) (Kd.R_types HO192.out BK205.out (by decide)) (fun _ hk => hk.2) (.slice Ao48 t194.length co48)) (fun _ hk => hk.2) (.int .i64 t197)) (fun _ hk => hk.2) (.bool t198)) (fun _ hk => hk.2) (.slice Ao51 t199.length co51)) (fun _ hk => hk.2) (.slice Ao52 t202.length co52)) (fun _ h_ => h_.1))) hb); have n3_ := Aside0.mk (Kd.R_below (by (with_reducible repeat (first | apply Kd.R_alloc | apply Kd.R_drewN | apply Kd.R_drew)); exact (Kd.R_mono (Kd.R_far (p := ⟨gb205, 4, none⟩) (Kd.R_far (p := ⟨gb205, 3, none⟩) (Kd.R_far (p := ⟨gb205, 2, none⟩) (Kd.R_far (p := ⟨gb205, 1, none⟩) (Kd.R_far (p := ⟨gb205, 0, none⟩) (Kd.R_types HO196.out BK205.out (by decide)) (fun _ hk => hk.2) (.slice Ao48 t194.length co48)) (fun _ hk => hk.2) (.int .i64 t197)) (fun _ hk => hk.2) (.bool t198)) (fun _ hk => hk.2) (.slice Ao51 t199.length co51)) (fun _ hk => hk.2) (.slice Ao52 t202.length co52)) (fun _ h_ => h_.1))) hb); have n4_ := Aside0.mk (Kd.R_below (by (with_reducible repeat (first | apply Kd.R_alloc | apply Kd.R_drewN | apply Kd.R_drew)); exact (Kd.R_mono (Kd.R_far (p := ⟨gb205, 4, none⟩) (Kd.R_far (p := ⟨gb205, 3, none⟩) (Kd.R_far (p := ⟨gb205, 2, none⟩) (Kd.R_far (p := ⟨gb205, 1, none⟩) (Kd.R_far (p := ⟨gb205, 0, none⟩) (Kd.R_types HO201.out BK205.out (by decide)) (fun _ hk => hk.2) (.slice Ao48 t194.length co48)) (fun _ hk => hk.2) (.int .i64 t197)) (fun _ hk => hk.2) (.bool t198)) (fun _ hk => hk.2) (.slice Ao51 t199.length co51)) (fun _ hk => hk.2) (.slice Ao52 t202.length co52)) (fun _ h_ => h_.1))) hb); have n5_ := Aside0.mk (Kd.R_below (by (with_reducible repeat (first | apply Kd.R_alloc | apply Kd.R_drewN | apply Kd.R_drew)); exact (Kd.R_mono (Kd.R_far (p := ⟨gb205, 4, none⟩) (Kd.R_far (p := ⟨gb205, 3, none⟩) (Kd.R_far (p := ⟨gb205, 2, none⟩) (Kd.R_far (p := ⟨gb205, 1, none⟩) (Kd.R_far (p := ⟨gb205, 0, none⟩) (Kd.R_types HO204.out BK205.out (by decide)) (fun _ hk => hk.2) (.slice Ao48 t194.length co48)) (fun _ hk => hk.2) (.int .i64 t197)) (fun _ hk => hk.2) (.bool t198)) (fun _ hk => hk.2) (.slice Ao51 t199.length co51)) (fun _ hk => hk.2) (.slice Ao52 t202.length co52)) (fun _ h_ => h_.1))) hb); have n6_ := Aside0.mk (blk_below (g := gb180) (o := .cells #[.slice A0_0 l0_0.length c0_0, .int .i64 a0_1, .bool a0_2, .slice A0_3 l0_3.length c0_3, .slice A0_4 l0_4.length c0_4] 26 (0, 0)) (by (with_reducible repeat (first | refine blk_drewN ?_ _ | refine blk_drew ?_ | refine blk_alloc ?_ _)); refine blk_far ?_ NB180_205.out _; (with_reducible repeat (first | refine blk_drewN ?_ _ | refine blk_drew ?_ | refine blk_alloc ?_ _)); refine blk_far ?_ NB180_205.out _; (with_reducible repeat (first | refine blk_drewN ?_ _ | refine blk_drew ?_ | refine blk_alloc ?_ _)); refine blk_far ?_ NB180_205.out _; (with_reducible repeat (first | refine blk_drewN ?_ _ | refine blk_drew ?_ | refine blk_alloc ?_ _)); refine blk_far ?_ NB180_205.out _; (with_reducible repeat (first | refine blk_drewN ?_ _ | refine blk_drew ?_ | refine blk_alloc ?_ _)); refine blk_far ?_ NB180_205.out _; (with_reducible repeat (first | refine blk_drewN ?_ _ | refine blk_drew ?_ | refine blk_alloc ?_ _)); exact BK180.out) hb); have n7_ := Aside0.mk (blk_below (g := gb205) (o := .cells #[.slice Ao48 t194.length co48, .int .i64 t197, .bool t198, .slice Ao51 t199.length co51, .slice Ao52 t202.length co52] 31 (0, 0)) (by (with_reducible repeat (first | refine blk_drewN ?_ _ | refine blk_drew ?_ | refine blk_alloc ?_ _)); refine blk_put (cs := #[.slice Ao48 t194.length co48, .int .i64 t197, .bool t198, .slice Ao51 t199.length co51, .slice none 0 0]) ?_ 4 _ rfl; (with_reducible repeat (first | refine blk_drewN ?_ _ | refine blk_drew ?_ | refine blk_alloc ?_ _)); refine blk_put (cs := #[.slice Ao48 t194.length co48, .int .i64 t197, .bool t198, .slice none 0 0, .slice none 0 0]) ?_ 3 _ rfl; (with_reducible repeat (first | refine blk_drewN ?_ _ | refine blk_drew ?_ | refine blk_alloc ?_ _)); refine blk_put (cs := #[.slice Ao48 t194.length co48, .int .i64 t197, .bool false, .slice none 0 0, .slice none 0 0]) ?_ 2 _ rfl; (with_reducible repeat (first | refine blk_drewN ?_ _ | refine blk_drew ?_ | refine blk_alloc ?_ _)); refine blk_put (cs := #[.slice Ao48 t194.length co48, .int .i64 0, .bool false, .slice none 0 0, .slice none 0 0]) ?_ 1 _ rfl; (with_reducible repeat (first | refine blk_drewN ?_ _ | refine blk_drew ?_ | refine blk_alloc ?_ _)); refine blk_put (cs := #[.slice none 0 0, .int .i64 0, .bool false, .slice none 0 0, .slice none 0 0]) ?_ 0 _ rfl; (with_reducible repeat (first | refine blk_drewN ?_ _ | refine blk_drew ?_ | refine blk_alloc ?_ _)); exact BK205.out) hb); have n8_ := Aside0.mk (below_step (by repeat (first | (with_reducible first | exact HB.out | apply below_alloc | apply pw_below_drewN | apply below_drew1 | refine below_set ?_ GE180.out | refine below_set ?_ GE205.out) | exact HB.out)) hb); clear HO184; clear HO189; clear HO192; clear HO196; clear HO201; clear HO204; clear BK180; clear BK205; clear HB; have HO184 := n0_; have HO189 := n1_; have HO192 := n2_; have HO196 := n3_; have HO201 := n4_; have HO204 := n5_; have BK180 := n6_; have BK205 := n7_; have HB := n8_; clear n0_ n1_ n2_ n3_ n4_ n5_ n6_ n7_ n8_; (try clear hb); (try clear hb2); (try clear hk); (try clear hi)))
     have n0_ := Aside0.mk (Kd.R_drew HO184.out); have n1_ := Aside0.mk (Kd.R_drew HO189.out); have n2_ := Aside0.mk (Kd.R_drew HO192.out); have n3_ := Aside0.mk (Kd.R_drew HO196.out); have n4_ := Aside0.mk (Kd.R_drew HO201.out); have n5_ := Aside0.mk (Kd.R_drew HO204.out); have n6_ := Aside0.mk (blk_drew BK180.out); have n7_ := Aside0.mk (blk_drew BK205.out); have n8_ := Aside0.mk (below_drew1 HB.out); clear HO184; clear HO189; clear HO192; clear HO196; clear HO201; clear HO204; clear BK180; clear BK205; clear HB; have HO184 := n0_; have HO189 := n1_; have HO192 := n2_; have HO196 := n3_; have HO201 := n4_; have HO204 := n5_; have BK180 := n6_; have BK205 := n7_; have HB := n8_; clear n0_ n1_ n2_ n3_ n4_ n5_ n6_ n7_ n8_; refine start_ (n := 5) (S := fun w' => w'.cell? ⟨gb205, 0, none⟩ = some (.slice Ao48 t194.length co48) ∧ w'.cell? ⟨gb205, 1, none⟩ = some (.int .i64 t197) ∧ w'.cell? ⟨gb205, 2, none⟩ = some (.bool t198) ∧ w'.cell? ⟨gb205, 3, none⟩ = some (.slice Ao51 t199.length co51) ∧ w'.cell? ⟨gb205, 4, none⟩ = some (.slice Ao52 t202.length co52) ∧ w'.cell? ⟨gb180, 0, none⟩ = some (.slice A0_0 l0_0.length c0_0) ∧ w'.cell? ⟨gb180, 1, none⟩ = some (.int .i64 a0_1) ∧ w'.cell? ⟨gb180, 2, none⟩ = some (.bool a0_2) ∧ w'.cell? ⟨gb180, 3, none⟩ = some (.slice A0_3 l0_3.length c0_3) ∧ w'.cell? ⟨gb180, 4, none⟩ = some (.slice A0_4 l0_4.length c0_4)) (ds := []) #[false, false, false, false, false] (by kernel_rfl) rfl rfl ⟨(blk_cell BK205.out 0).trans rfl, (blk_cell BK205.out 1).trans rfl, (blk_cell BK205.out 2).trans rfl, (blk_cell BK205.out 3).trans rfl, (blk_cell BK205.out 4).trans rfl, (blk_cell BK180.out 0).trans rfl, (blk_cell BK180.out 1).trans rfl, (blk_cell BK180.out 2).trans rfl, (blk_cell BK180.out 3).trans rfl, (blk_cell BK180.out 4).trans rfl⟩ (fun hHeld => ?_); generalize w53.drew = w54 at HO184 HO189 HO192 HO196 HO201 HO204 BK180 BK205 HB hHeld ⊢; refine take_ (i := 0) (N := some 29) (v := ?_) (a' := ?_) #[true, false, false, false, false] rfl rfl (by kernel_rfl) (fun _ _ _ h => h) (Or.inl ⟨by rfl, ?_⟩) hHeld ?_ ?_; rotate_left; (· rintro w' ⟨s0, s1, s2, s3, s4, s5, s6, s7, s8, s9⟩; go_simp; with_reducible rfl); rotate_left; (· simp only [Act.put, List.setIfInBounds_toArray, List.set_cons_zero, List.set_cons_succ, i64_w, i32_w]; rfl); refine take_ (i := 1) (N := some 30) (v := ?_) (a' := ?_) #[true, true, false, false, false] rfl rfl (by kernel_rfl) (fun _ _ _ h => h) (Or.inl ⟨by rfl, ?_⟩) hHeld ?_ ?_; rotate_left; (· rintro w' ⟨s0, s1, s2, s3, s4, s5, s6, s7, s8, s9⟩; go_simp; with_reducible rfl); rotate_left; (· simp only [Act.put, List.setIfInBounds_toArray, List.set_cons_zero, List.set_cons_succ, i64_w, i32_w]; rfl); refine one_ (i := 2) (N := some 31) #[true, true, true, false, false] rfl rfl (by kernel_rfl) (by decide) (fun K hK => ?_); refine goes_ Tryd.func11 (by kernel_rfl) rfl #[.agg #[.slice A0_0 l0_0.length c0_0, .int .i64 a0_1, .bool a0_2, .slice A0_3 l0_3.length c0_3, .slice A0_4 l0_4.length c0_4]] (by rfl) rfl rfl (by (try simp only [List.map_toArray, List.map_cons, List.map_nil]); first | done | rfl | (simp only [List.length_drop, List.length_take]; rfl)) ?_; with_reducible refine (laws_toPsalm.calls k _ _ l0_0 a0_1 a0_2 _ _ l0_3 _ _ l0_4 t207 t210 t211 t212 t215 _ ?side1 ?side2 ?side3 ?side4 ?side5 ?side6 A33.out).mono ?_
     (case side1 => repeat (first | exact (Kd.C_below HR0_0.out HB.out) | (with_reducible refine Kd.C_alloc ?_ _) | (with_reducible refine Kd.C_drewN ?_ _) | (with_reducible refine Kd.C_drew ?_)))
     (case side2 => exact HC0_0.out)
     (case side3 => repeat (first | exact (Kd.C_below HR0_3.out HB.out) | (with_reducible refine Kd.C_alloc ?_ _) | (with_reducible refine Kd.C_drewN ?_ _) | (with_reducible refine Kd.C_drew ?_)))
     (case side4 => exact HC0_3.out)
     (case side5 => repeat (first | exact (Kd.C_below HR0_4.out HB.out) | (with_reducible refine Kd.C_alloc ?_ _) | (with_reducible refine Kd.C_drewN ?_ _) | (with_reducible refine Kd.C_drew ?_)))
     (case side6 => exact HC0_4.out)
     rintro e w55 ⟨v208, v213, v216, rfl, ho0, ho1, ho2, hb⟩; refine ⟨_, rfl, ?_⟩; have n0_ := Aside0.mk (Kd.R_mono (Kd.R_told (Kd.R_told (Kd.R_told (Kd.R_old (by (with_reducible repeat (first | apply Kd.R_alloc | apply Kd.R_drewN | apply Kd.R_drew)); exact HO184.out) hb) (Kd.R_base ho0)) (Kd.R_base ho1)) (Kd.R_base ho2)) (fun _ h_ => h_.1)); have n1_ := Aside0.mk (Kd.R_mono (Kd.R_told (Kd.R_told (Kd.R_told (Kd.R_old (by (with_reducible repeat (first | apply Kd.R_alloc | apply Kd.R_drewN | apply Kd.R_drew)); exact HO189.out) hb) (Kd.R_base ho0)) (Kd.R_base ho1)) (Kd.R_base ho2)) (fun _ h_ => h_.1)); have n2_ := Aside0.mk (Kd.R_mono (Kd.R_told (Kd.R_told (Kd.R_told (Kd.R_old (by (with_reducible repeat (first | apply Kd.R_alloc | apply Kd.R_drewN | apply Kd.R_drew)); exact HO192.out) hb) (Kd.R_base ho0)) (Kd.R_base ho1)) (Kd.R_base ho2)) (fun _ h_ => h_.1)); have n3_ := Aside0.mk (Kd.R_mono (Kd.R_told (Kd.R_told (Kd.R_told (Kd.R_old (by (with_reducible repeat (first | apply Kd.R_alloc | apply Kd.R_drewN | apply Kd.R_drew)); exact HO196.out) hb) (Kd.R_base ho0)) (Kd.R_base ho1)) (Kd.R_base ho2)) (fun _ h_ => h_.1)); have n4_ := Aside0.mk (Kd.R_mono (Kd.R_told (Kd.R_told (Kd.R_told (Kd.R_old (by (with_reducible repeat (first | apply Kd.R_alloc | apply Kd.R_drewN | apply Kd.R_drew)); exact HO201.out) hb) (Kd.R_base ho0)) (Kd.R_base ho1)) (Kd.R_base ho2)) (fun _ h_ => h_.1)); have n5_ := Aside0.mk (Kd.R_mono (Kd.R_told (Kd.R_told (Kd.R_told (Kd.R_old (by (with_reducible repeat (first | apply Kd.R_alloc | apply Kd.R_drewN | apply Kd.R_drew)); exact HO204.out) hb) (Kd.R_base ho0)) (Kd.R_base ho1)) (Kd.R_base ho2)) (fun _ h_ => h_.1)); have n6_ := Aside0.mk (Kd.R_lower (Kd.R_new' (Kd.R_new' (Kd.R_new' (Kd.R_new' (Kd.R_new' (Kd.R_new' ho0 (Kd.R_lt (by (with_reducible repeat (first | apply Kd.R_alloc | apply Kd.R_drewN | apply Kd.R_drew)); exact HO184.out))) (Kd.R_lt (by (with_reducible repeat (first | apply Kd.R_alloc | apply Kd.R_drewN | apply Kd.R_drew)); exact HO189.out))) (Kd.R_lt (by (with_reducible repeat (first | apply Kd.R_alloc | apply Kd.R_drewN | apply Kd.R_drew)); exact HO192.out))) (Kd.R_lt (by (with_reducible repeat (first | apply Kd.R_alloc | apply Kd.R_drewN | apply Kd.R_drew)); exact HO196.out))) (Kd.R_lt (by (with_reducible repeat (first | apply Kd.R_alloc | apply Kd.R_drewN | apply Kd.R_drew)); exact HO201.out))) (Kd.R_lt (by (with_reducible repeat (first | apply Kd.R_alloc | apply Kd.R_drewN | apply Kd.R_drew)); exact HO204.out))) (below_size (by repeat (first | (with_reducible first | exact HB.out | apply below_alloc | apply pw_below_drewN | apply below_drew1 | refine below_set ?_ GE180.out | refine below_set ?_ GE205.out) | exact HB.out)))); have n7_ := Aside0.mk (Kd.R_lower (Kd.R_new' (Kd.R_new' (Kd.R_new' (Kd.R_new' (Kd.R_new' (Kd.R_new' ho1 (Kd.R_lt (by (with_reducible repeat (first | apply Kd.R_alloc | apply Kd.R_drewN | apply Kd.R_drew)); exact HO184.out))) (Kd.R_lt (by (with_reducible repeat (first | apply Kd.R_alloc | apply Kd.R_drewN | apply Kd.R_drew)); exact HO189.out))) (Kd.R_lt (by (with_reducible repeat (first | apply Kd.R_alloc | apply Kd.R_drewN | apply Kd.R_drew)); exact HO192.out))) (Kd.R_lt (by (with_reducible repeat (first | apply Kd.R_alloc | apply Kd.R_drewN | apply Kd.R_drew)); exact HO196.out))) (Kd.R_lt (by (with_reducible repeat (first | apply Kd.R_alloc | apply Kd.R_drewN | apply Kd.R_drew)); exact HO201.out))) (Kd.R_lt (by (with_reducible repeat (first | apply Kd.R_alloc | apply Kd.R_drewN | apply Kd.R_drew)); exact HO204.out))) (below_size (by repeat (first | (with_reducible first | exact HB.out | apply below_alloc | apply pw_below_drewN | apply below_drew1 | refine below_set ?_ GE180.out | refine below_set ?_ GE205.out) | exact HB.out)))); have n8_ := Aside0.mk (Kd.R_lower (Kd.R_new' (Kd.R_new' (Kd.R_new' (Kd.R_new' (Kd.R_new' (Kd.R_new' ho2 (Kd.R_lt (by (with_reducible repeat (first | apply Kd.R_alloc | apply Kd.R_drewN | apply Kd.R_drew)); exact HO184.out))) (Kd.R_lt (by (with_reducible repeat (first | apply Kd.R_alloc | apply Kd.R_drewN | apply Kd.R_drew)); exact HO189.out))) (Kd.R_lt (by (with_reducible repeat (first | apply Kd.R_alloc | apply Kd.R_drewN | apply Kd.R_drew)); exact HO192.out))) (Kd.R_lt (by (with_reducible repeat (first | apply Kd.R_alloc | apply Kd.R_drewN | apply Kd.R_drew)); exact HO196.out))) (Kd.R_lt (by (with_reducible repeat (first | apply Kd.R_alloc | apply Kd.R_drewN | apply Kd.R_drew)); exact HO201.out))) (Kd.R_lt (by (with_reducible repeat (first | apply Kd.R_alloc | apply Kd.R_drewN | apply Kd.R_drew)); exact HO204.out))) (below_size (by repeat (first | (with_reducible first | exact HB.out | apply below_alloc | apply pw_below_drewN | apply below_drew1 | refine below_set ?_ GE180.out | refine below_set ?_ GE205.out) | exact HB.out)))); have n9_ := Aside0.mk (blk_below (g := gb180) (o := .cells #[.slice A0_0 l0_0.length c0_0, .int .i64 a0_1, .bool a0_2, .slice A0_3 l0_3.length c0_3, .slice A0_4 l0_4.length c0_4] 26 (0, 0)) (by (with_reducible repeat (first | refine blk_drewN ?_ _ | refine blk_drew ?_ | refine blk_alloc ?_ _)); exact BK180.out) hb); have n10_ := Aside0.mk (blk_below (g := gb205) (o := .cells #[.slice Ao48 t194.length co48, .int .i64 t197, .bool t198, .slice Ao51 t199.length co51, .slice Ao52 t202.length co52] 31 (0, 0)) (by (with_reducible repeat (first | refine blk_drewN ?_ _ | refine blk_drew ?_ | refine blk_alloc ?_ _)); exact BK205.out) hb); have n11_ := Aside0.mk (below_step (by repeat (first | (with_reducible first | exact HB.out | apply below_alloc | apply pw_below_drewN | apply below_drew1 | refine below_set ?_ GE180.out | refine below_set ?_ GE205.out) | exact HB.out)) hb); clear HO184; clear HO189; clear HO192; clear HO196; clear HO201; clear HO204; clear BK180; clear BK205; clear HB; have HO184 := n0_; have HO189 := n1_; have HO192 := n2_; have HO196 := n3_; have HO201 := n4_; have HO204 := n5_; have HO209 := n6_; have HO214 := n7_; have HO217 := n8_; have BK180 := n9_; have BK205 := n10_; have HB := n11_; clear n0_ n1_ n2_ n3_ n4_ n5_ n6_ n7_ n8_ n9_ n10_ n11_; (try clear hb)
     (try clear hb2)
     (try clear hk)
     (try clear hi)
     (try clear ho0)
     (try clear ho1)
     (try clear ho2)
     obtain ⟨Ao56, co56, eo56⟩ := Kd.R_slice HO209.out; (first | subst eo56 | (injection eo56 with f1_ f2_ f3_; have f4_ := f1_.symm; have f5_ := f3_.symm; clear f1_ f2_ f3_; subst f4_; subst f5_))
     obtain ⟨Ao57, co57, eo57⟩ := Kd.R_slice HO214.out; (first | subst eo57 | (injection eo57 with f1_ f2_ f3_; have f4_ := f1_.symm; have f5_ := f3_.symm; clear f1_ f2_ f3_; subst f4_; subst f5_))
     obtain ⟨Ao58, co58, eo58⟩ := Kd.R_slice HO217.out; (first | subst eo58 | (injection eo58 with f1_ f2_ f3_; have f4_ := f1_.symm; have f5_ := f3_.symm; clear f1_ f2_ f3_; subst f4_; subst f5_))
     refine hK.out _ _ ⟨(blk_cell BK205.out 0).trans rfl, (blk_cell BK205.out 1).trans rfl, (blk_cell BK205.out 2).trans rfl, (blk_cell BK205.out 3).trans rfl, (blk_cell BK205.out 4).trans rfl, (blk_cell BK180.out 0).trans rfl, (blk_cell BK180.out 1).trans rfl, (blk_cell BK180.out 2).trans rfl, (blk_cell BK180.out 3).trans rfl, (blk_cell BK180.out 4).trans rfl⟩ (fun hHeld => ?_); clear hK K; refine norm_ (a' := ?_) ?_ ?_; rotate_left; (· show Act.put _ (some 31) _ = _; simp only [Act.put, List.setIfInBounds_toArray, List.set_cons_zero, List.set_cons_succ, i64_w, i32_w]; rfl); refine one_ (i := 3) (N := some 32) #[true, true, true, true, false] rfl rfl (by kernel_rfl) (by decide) (fun K hK => ?_); refine goes_ Tryd.func13 (by kernel_rfl) rfl #[.agg #[.slice _ t194.length co48, .int .i64 t197, .bool t198, .slice _ t199.length co51, .slice _ t202.length co52], .agg #[.slice Ao56 t207.length co56, .int .i64 t210, .bool t211, .slice Ao57 t212.length co57, .slice Ao58 t215.length co58]] (by rfl) rfl rfl (by (try simp only [List.map_toArray, List.map_cons, List.map_nil]); first | done | rfl | (simp only [List.length_drop, List.length_take]; rfl)) ?_; with_reducible refine (laws_eqPsalm.calls k _ _ t194 t197 t198 _ _ t199 _ _ t202 _ _ t207 t210 t211 _ _ t212 _ _ t215 true _ ?side1 ?side2 ?side3 ?side4 ?side5 ?side6 ?side7 ?side8 ?side9 ?side10 ?side11 ?side12 A34.out).mono ?_
     (case side1 => repeat (first | exact (Kd.R_reads' HO196.out).2.2 | (with_reducible refine Kd.C_alloc ?_ _) | (with_reducible refine Kd.C_drewN ?_ _) | (with_reducible refine Kd.C_drew ?_)))
     (case side2 => exact (Kd.R_reads' HO196.out).2.1)
     (case side3 => repeat (first | exact (Kd.R_reads' HO201.out).2.2 | (with_reducible refine Kd.C_alloc ?_ _) | (with_reducible refine Kd.C_drewN ?_ _) | (with_reducible refine Kd.C_drew ?_)))
     (case side4 => exact (Kd.R_reads' HO201.out).2.1)
     (case side5 => repeat (first | exact (Kd.R_reads' HO204.out).2.2 | (with_reducible refine Kd.C_alloc ?_ _) | (with_reducible refine Kd.C_drewN ?_ _) | (with_reducible refine Kd.C_drew ?_)))
     (case side6 => exact (Kd.R_reads' HO204.out).2.1)
     (case side7 => repeat (first | exact (Kd.R_reads' HO209.out).2.2 | (with_reducible refine Kd.C_alloc ?_ _) | (with_reducible refine Kd.C_drewN ?_ _) | (with_reducible refine Kd.C_drew ?_)))
     (case side8 => exact (Kd.R_reads' HO209.out).2.1)
     (case side9 => repeat (first | exact (Kd.R_reads' HO214.out).2.2 | (with_reducible refine Kd.C_alloc ?_ _) | (with_reducible refine Kd.C_drewN ?_ _) | (with_reducible refine Kd.C_drew ?_)))
     (case side10 => exact (Kd.R_reads' HO214.out).2.1)
     (case side11 => repeat (first | exact (Kd.R_reads' HO217.out).2.2 | (with_reducible refine Kd.C_alloc ?_ _) | (with_reducible refine Kd.C_drewN ?_ _) | (with_reducible refine Kd.C_drew ?_)))
     (case side12 => exact (Kd.R_reads' HO217.out).2.1)
     rintro e w59 ⟨rfl, hb⟩; refine ⟨_, rfl, ?_⟩; have n0_ := Aside0.mk (Kd.R_below (by (with_reducible repeat (first | apply Kd.R_alloc | apply Kd.R_drewN | apply Kd.R_drew)); exact HO184.out) hb); have n1_ := Aside0.mk (Kd.R_below (by (with_reducible repeat (first | apply Kd.R_alloc | apply Kd.R_drewN | apply Kd.R_drew)); exact HO189.out) hb); have n2_ := Aside0.mk (Kd.R_below (by (with_reducible repeat (first | apply Kd.R_alloc | apply Kd.R_drewN | apply Kd.R_drew)); exact HO192.out) hb); have n3_ := Aside0.mk (Kd.R_below (by (with_reducible repeat (first | apply Kd.R_alloc | apply Kd.R_drewN | apply Kd.R_drew)); exact HO196.out) hb); have n4_ := Aside0.mk (Kd.R_below (by (with_reducible repeat (first | apply Kd.R_alloc | apply Kd.R_drewN | apply Kd.R_drew)); exact HO201.out) hb); have n5_ := Aside0.mk (Kd.R_below (by (with_reducible repeat (first | apply Kd.R_alloc | apply Kd.R_drewN | apply Kd.R_drew)); exact HO204.out) hb); have n6_ := Aside0.mk (Kd.R_below (by (with_reducible repeat (first | apply Kd.R_alloc | apply Kd.R_drewN | apply Kd.R_drew)); exact HO209.out) hb); have n7_ := Aside0.mk (Kd.R_below (by (with_reducible repeat (first | apply Kd.R_alloc | apply Kd.R_drewN | apply Kd.R_drew)); exact HO214.out) hb); have n8_ := Aside0.mk (Kd.R_below (by (with_reducible repeat (first | apply Kd.R_alloc | apply Kd.R_drewN | apply Kd.R_drew)); exact HO217.out) hb); have n9_ := Aside0.mk (blk_below (g := gb180) (o := .cells #[.slice A0_0 l0_0.length c0_0, .int .i64 a0_1, .bool a0_2, .slice A0_3 l0_3.length c0_3, .slice A0_4 l0_4.length c0_4] 26 (0, 0)) (by (with_reducible repeat (first | refine blk_drewN ?_ _ | refine blk_drew ?_ | refine blk_alloc ?_ _)); exact BK180.out) hb); have n10_ := Aside0.mk (blk_below (g := gb205) (o := .cells #[.slice Ao48 t194.length co48, .int .i64 t197, .bool t198, .slice Ao51 t199.length co51, .slice Ao52 t202.length co52] 31 (0, 0)) (by (with_reducible repeat (first | refine blk_drewN ?_ _ | refine blk_drew ?_ | refine blk_alloc ?_ _)); exact BK205.out) hb); have n11_ := Aside0.mk (below_step (by repeat (first | (with_reducible first | exact HB.out | apply below_alloc | apply pw_below_drewN | apply below_drew1 | refine below_set ?_ GE180.out | refine below_set ?_ GE205.out) | exact HB.out)) hb); clear HO184; clear HO189; clear HO192; clear HO196; clear HO201; clear HO204; clear HO209; clear HO214; clear HO217; clear BK180; clear BK205; clear HB; have HO184 := n0_; have HO189 := n1_; have HO192 := n2_; have HO196 := n3_; have HO201 := n4_; have HO204 := n5_; have HO209 := n6_; have HO214 := n7_; have HO217 := n8_; have BK180 := n9_; have BK205 := n10_; have HB := n11_; clear n0_ n1_ n2_ n3_ n4_ n5_ n6_ n7_ n8_ n9_ n10_ n11_; (try clear hb)
     (try clear hb2)
     (try clear hk)
     (try clear hi)
     refine hK.out _ _ ⟨(blk_cell BK205.out 0).trans rfl, (blk_cell BK205.out 1).trans rfl, (blk_cell BK205.out 2).trans rfl, (blk_cell BK205.out 3).trans rfl, (blk_cell BK205.out 4).trans rfl, (blk_cell BK180.out 0).trans rfl, (blk_cell BK180.out 1).trans rfl, (blk_cell BK180.out 2).trans rfl, (blk_cell BK180.out 3).trans rfl, (blk_cell BK180.out 4).trans rfl⟩ (fun hHeld => ?_); clear hK K; refine norm_ (a' := ?_) ?_ ?_; rotate_left; (· show Act.put _ (some 32) _ = _; simp only [Act.put, List.setIfInBounds_toArray, List.set_cons_zero, List.set_cons_succ, i64_w, i32_w]; rfl); refine pure_ (i := 4) (N := some 33) (v := ?_) (a' := ?_) #[true, true, true, true, true] rfl rfl (by kernel_rfl) (fun _ _ _ h => h) (Or.inl ⟨by rfl, ?_⟩) ?_ ?_; rotate_left; (· intro w'; go_simp; with_reducible rfl); rotate_left; (· simp only [Act.put, List.setIfInBounds_toArray, List.set_cons_zero, List.set_cons_succ, i64_w, i32_w]; rfl); refine done_ (by kernel_rfl) ?_; try go_wp2
     go_ret
     exact ⟨by first | rfl | (simp [errW_none, errW_some] <;> rfl) | (simp [*, errW_none, errW_some] <;> rfl), by repeat (first | (with_reducible first | exact HB.out | apply below_alloc | apply pw_below_drewN | apply below_drew1 | refine below_set ?_ GE180.out | refine below_set ?_ GE205.out) | exact HB.out)⟩
    ·
     replace c35 := Bool.eq_false_iff.mpr c35; subst c35; have H1 : (some false) = some r := by rw [if_neg (show ¬ (false = true) by decide)] at H; exact H
     exact absurd (H1.trans (congrArg some HRR.out)) (by simp)
end Go.Proofs.YtpcohkffbjdmfaaDoor.PFnExactPsalmFits
namespace Go.Proofs.YtpcohkffbjdmfaaDoor.Pure
set_option linter.unusedVariables false
set_option linter.unusedSimpArgs false
open Go Go.RowKit Go.Proofs.YtpcohkffbjdmfaaDoor.PFnExactPsalmFits Go.Proofs.YtpcohkffbjdmfaaDoorW.PrintWords Go.Proofs.YtpcohkffbjdmfaaDoorW.PrintLast Go.Proofs.YtpcohkffbjdmfaaDoorW.PrintMore

theorem spec_l6In_eq (a b c : Int) : spec_l6In.f a b c = some (decide (b ≤ a ∧ a ≤ c)) := by
 unfold spec_l6In.f
 by_cases h : a ≥ b
 ·
  rw [if_pos h]; simp [show b ≤ a from h]
 ·
  rw [if_neg h]; simp [show ¬ b ≤ a from h]

theorem spec_ToneValid_eq (a : Int) (b : Bool) : spec_ToneValid.f a b = some (toneOk ⟨a, b⟩) := by
 unfold spec_ToneValid.f toneOk
 rw [spec_l6In_eq]
 by_cases h : 0 ≤ a ∧ a ≤ 20
 ·
  cases b <;> simp [h, spec_l1Letter.f]
 ·
  simp [h]
theorem spec_MelodyValid_ev (m : List S29) (hm : m.length ≤ 1000000000000) : Ev (fun k => spec_MelodyValid.f k m) (melOk m) := by
 unfold spec_MelodyValid.f
 have := Ev.over z29 m (fun k (_ : Unit) i => spec_MelodyValid.l0 k m i) (fun _ l => l.all toneOk && decide (m.length ≤ 24)) (fun _ _ => True) (by
  intro s _
  refine Ev.succ ?_
  simp only [spec_MelodyValid.l0]
  refine Ev.eqr (Ev.neg (by omega) (Ev.now _)) ?_
  simp; omega) (by
  intro s i rest _ hi _ ih
  refine Ev.succ ?_
  simp only [spec_MelodyValid.l0]
  refine Ev.pos (by omega) (Ev.pos (by omega) (Ev.conb (spec_ToneValid_eq _ _) ?_))
  show Ev _ (toneOk (rd_T29 m i) && _ && _)
  cases ht : toneOk (rd_T29 m i)
  ·
   exact Ev.neg (by simp [ht]) (Ev.now _)
  ·
   refine Ev.pos (by simp [ht]) ?_
   rw [w64 (by omega) (by omega)]
   simpa using ih () trivial) 0 () (Nat.zero_le _) trivial
 refine Ev.eqr (by simpa using this) ?_
 unfold melOk
 rw [Bool.and_comm]

theorem spec_l4Tones_ev (l : List S29) (a b : Int) (hl : l.length ≤ 1000000000000) : Ev (fun n => spec_l4Tones.f n l a b) (decide (a ≤ (l.length : Int) ∧ (l.length : Int) ≤ b) && melOk l) := by
 unfold spec_l4Tones.f
 refine Ev.bind (spec_MelodyValid_ev l hl) ?_
 cases melOk l
 ·
  exact Ev.neg (by simp) (Ev.eqr (Ev.now _) (by simp))
 ·
  exact Ev.pos rfl (Ev.conb (spec_l6In_eq _ _ _) (Ev.eqr (Ev.now _) (by simp)))
theorem spec_PsalmValid_ev (S : List S29) (t : S29) (M E : List S29) (hS : S.length ≤ 1000000000000) (hM : M.length ≤ 1000000000000) (hE : E.length ≤ 1000000000000) : Ev (fun n => spec_PsalmValid.f n S t.f0 t.f1 M E) (psOk S t M E) := by
 unfold spec_PsalmValid.f psOk
 have e1 := spec_l4Tones_ev S 0 3 hS
 have e2 := spec_l4Tones_ev M 1 4 hM
 have e3 := spec_l4Tones_ev E 1 4 hE
 rw [show (decide ((0 : Int) ≤ (S.length : Int) ∧ (S.length : Int) ≤ 3)) = decide (S.length ≤ 3) from decide_eq_decide.2 (by omega)] at e1
 rw [show (decide ((1 : Int) ≤ (M.length : Int) ∧ (M.length : Int) ≤ 4)) = decide (1 ≤ M.length ∧ M.length ≤ 4) from decide_eq_decide.2 (by omega)] at e2
 rw [show (decide ((1 : Int) ≤ (E.length : Int) ∧ (E.length : Int) ≤ 4)) = decide (1 ≤ E.length ∧ E.length ≤ 4) from decide_eq_decide.2 (by omega)] at e3
 refine Ev.bind e1 ?_
 cases decide (S.length ≤ 3) && melOk S
 ·
  exact Ev.neg (by simp) (Ev.now _)
 refine Ev.pos rfl (Ev.conb (spec_ToneValid_eq t.f0 t.f1) ?_)
 show Ev _ (true && (toneOk ⟨t.f0, t.f1⟩ && _))
 cases toneOk ⟨t.f0, t.f1⟩
 ·
  exact Ev.neg (by simp) (Ev.now _)
 refine Ev.pos rfl (Ev.bind e2 ?_)
 cases decide (1 ≤ M.length ∧ M.length ≤ 4) && melOk M
 ·
  exact Ev.neg (by simp) (Ev.now _)
 refine Ev.pos rfl (Ev.bind e3 (Ev.eqr (Ev.now _) ?_))
 simp

theorem bt_get (s : ByteArray) (i : Nat) (h : i < s.size) : ∃ c : UInt8, bt s (i : Int) = (c.toNat : Int) ∧ s.data.toList.drop i = c :: s.data.toList.drop (i + 1) := by
 refine ⟨s[i], ?_, ?_⟩
 ·
  rw [← bt_at s (i : Int) (by simpa using h)]
  simp
 ·
  have hl : i < s.data.toList.length := by simpa using h
  rw [List.drop_eq_getElem_cons hl]; rfl
theorem u8_eq {c : UInt8} (n : Nat) (hn : n < 256) : (c.toNat : Int) = (n : Int) ↔ c = UInt8.ofNat n := by
 have h : (UInt8.ofNat n).toNat = n := by rw [UInt8.toNat_ofNat']; omega
 constructor
 ·
  intro e
  exact UInt8.toNat_inj.1 (by rw [h]; omega)
 ·
  rintro rfl
  rw [h]
theorem indexByte_nil (c : UInt8) : Lib.indexByte [] c = -1 := rfl
theorem spec_l4Halves_ev (s : ByteArray) (hs : s.size ≤ 1000000000000) : Ev (fun n => spec_l4Halves.f n s) ((cutB s).1, (cutB s).2.1) := by
 unfold spec_l4Halves.f
 have hl : s.data.toList.length = s.size := (Lib.size_eq s).symm
 have key : ∀ d i : Nat, i + d = s.size → Lib.indexByte s.data.toList 124 = (if Lib.indexByte (s.data.toList.drop i) 124 = -1 then -1 else (i : Int) + Lib.indexByte (s.data.toList.drop i) 124) → Ev (fun n => spec_l4Halves.l0 n s (i : Int)) ((cutB s).1, (cutB s).2.1) := by
  intro d
  induction d with
  | zero =>
   intro i hi h
   refine Ev.succ ?_
   simp only [spec_l4Halves.l0]
   rw [List.drop_of_length_le (by omega), indexByte_nil, if_pos rfl] at h
   refine Ev.neg (by omega) (Ev.eqr (Ev.now _) ?_)
   unfold cutB
   rw [if_pos h]
  | succ d ih =>
   intro i hi h
   obtain ⟨c, hc, hdr⟩ := bt_get s i (by omega)
   refine Ev.succ ?_
   simp only [spec_l4Halves.l0]
   rw [hc, w64 (x := (i : Int) + 1) (by omega) (by omega)]
   refine Ev.pos (by omega) (Ev.pos (by omega) ?_)
   rw [hdr] at h
   by_cases hcc : c = 124
   ·
    refine Ev.pos (by rw [hcc]; rfl) (Ev.pos (by omega) (Ev.pos (by omega) (Ev.pos (by omega) (Ev.eqr (Ev.now _) ?_))))
    have e : Lib.indexByte (c :: s.data.toList.drop (i + 1)) 124 = 0 := by unfold Lib.indexByte; rw [if_pos (by rw [hcc]; rfl)]
    rw [e, if_neg (by decide)] at h
    have e2 : Lib.indexByte s.data.toList 124 = (i : Int) := by rw [h]; omega
    unfold cutB
    rw [if_neg (by rw [e2]; omega), e2]
    simp only [Int.toNat_natCast]
    rw [show ((i : Int) + 1).toNat = i + 1 by omega]
   ·
    refine Ev.neg (fun hh => hcc ((u8_eq 124 (by decide)).1 hh)) ?_
    refine ih (i + 1) (by omega) ?_
    rw [h]
    have e : Lib.indexByte (c :: s.data.toList.drop (i + 1)) 124 = if Lib.indexByte (s.data.toList.drop (i + 1)) 124 = -1 then -1 else 1 + Lib.indexByte (s.data.toList.drop (i + 1)) 124 := by
     conv => lhs; unfold Lib.indexByte
     rw [if_neg (by rw [beq_iff_eq]; exact hcc)]
     rcases indexByte_cases 124 (s.data.toList.drop (i + 1)) with h' | ⟨j, h', _⟩
     ·
      rw [h']; rfl
     ·
      rw [h', if_neg (by rw [beq_iff_eq]; omega), if_neg (by omega)]
      omega
    rw [e]
    rcases indexByte_cases 124 (s.data.toList.drop (i + 1)) with h' | ⟨j, h', _⟩
    ·
     rw [h']; rfl
    ·
     rw [h', if_neg (show ¬ ((j : Int) = -1) by omega), if_neg (by omega), if_neg (by omega)]
     omega
 refine key s.size 0 (by omega) ?_
 rw [List.drop_zero]
 split
 ·
  assumption
 ·
  omega
theorem spec_l4Half_ev (s : ByteArray) (hs : s.size ≤ 1000000000000) : Ev (fun n => spec_l4Half.f n s) (hvOk s) := by
 unfold spec_l4Half.f
 have hl : s.data.toList.length = s.size := (Lib.size_eq s).symm
 have key : ∀ d i : Nat, i + d = s.size → Ev (fun n => spec_l4Half.l0 n s (i : Int)) (decide (0 < s.size) && (s.data.toList.drop i).all (fun b => ([120, 47] : List UInt8).contains b)) := by
  intro d
  induction d with
  | zero =>
   intro i hi
   refine Ev.succ ?_
   simp only [spec_l4Half.l0]
   refine Ev.neg (by omega) (Ev.eqr (Ev.now _) ?_)
   rw [List.drop_of_length_le (by omega), List.all_nil, Bool.and_true]
   exact decide_eq_decide.2 (by omega)
  | succ d ih =>
   intro i hi
   obtain ⟨c, hc, hdr⟩ := bt_get s i (by omega)
   refine Ev.succ ?_
   simp only [spec_l4Half.l0]
   rw [hc, w64 (x := (i : Int) + 1) (by omega) (by omega), hdr, List.all_cons]
   refine Ev.pos (by omega) (Ev.pos (by omega) ?_)
   have hr := ih (i + 1) (by omega)
   by_cases h1 : c = 120
   ·
    refine Ev.pos (by rw [h1]; rfl) ?_
    rw [show ([120, 47] : List UInt8).contains c = true by rw [h1]; rfl, Bool.true_and]
    exact hr
   refine Ev.neg (fun hh => h1 ((u8_eq 120 (by decide)).1 hh)) ?_
   by_cases h2 : c = 47
   ·
    refine Ev.pos (by rw [h2]; rfl) ?_
    rw [show ([120, 47] : List UInt8).contains c = true by rw [h2]; rfl, Bool.true_and]
    exact hr
   refine Ev.neg (fun hh => h2 ((u8_eq 47 (by decide)).1 hh)) (Ev.eqr (Ev.now _) ?_)
   have : ([120, 47] : List UInt8).contains c = false := by simp [h1, h2]
   rw [this]
   simp
 refine Ev.eqr (key s.size 0 (by omega)) ?_
 unfold hvOk
 rw [List.drop_zero]
 congr 1
 cases hh : s.data.toList with
 | nil => rw [hh] at hl; rw [decide_eq_false (by have : ([] : List UInt8).length = 0 := rfl; omega)]; rfl
 | cons x xs => rw [hh] at hl; rw [decide_eq_true (by have : (x :: xs).length = xs.length + 1 := rfl; omega)]; rfl
theorem vhOk_eq (s : ByteArray) : vhOk s = (hvOk (cutB s).1 && (hvOk (cutB s).2.1 && decide ((cutB s).1.size + (cutB s).2.1.size ≤ 20))) := by
 unfold vhOk
 have h : (cutB s).2.2 = false → hvOk (cutB s).2.1 = false := by
  unfold cutB
  split
  ·
   intro _; rfl
  ·
   intro hh; cases hh
 cases hk : (cutB s).2.2
 ·
  rw [h hk]; simp
 ·
  rw [Bool.true_and]
  cases hvOk (cutB s).1 <;> cases hvOk (cutB s).2.1 <;> simp
theorem spec_VerseValid_ev (s : ByteArray) (hs : s.size ≤ 1000000000000) : Ev (fun n => spec_VerseValid.f n s) (vhOk s) := by
 unfold spec_VerseValid.f
 rw [vhOk_eq]
 obtain ⟨z1, z2⟩ := cutB_sizes s
 refine Ev.bind (spec_l4Halves_ev s hs) (Ev.bind (spec_l4Half_ev (cutB s).1 (by omega)) ?_)
 dsimp only
 cases hvOk (cutB s).1
 ·
  exact Ev.neg (by simp) (Ev.now _)
 refine Ev.pos rfl (Ev.bind (spec_l4Half_ev (cutB s).2.1 (by omega)) ?_)
 cases hvOk (cutB s).2.1
 ·
  exact Ev.neg (by simp) (Ev.now _)
 refine Ev.pos rfl (Ev.eqr (Ev.now _) ?_)
 rw [w64 (by omega) (by omega), Bool.true_and, Bool.true_and]
 exact decide_eq_decide.2 (by omega)
theorem spec_PsalmFits_ev (S : List S29) (t : S29) (M E : List S29) (s : ByteArray) (hS : S.length ≤ 1000000000000) (hM : M.length ≤ 1000000000000) (hE : E.length ≤ 1000000000000) (hs : s.size ≤ 1000000000000) : Ev (fun n => spec_PsalmFits.f n S t.f0 t.f1 M E s) (fitsOk S t M E s) := by
 unfold spec_PsalmFits.f fitsOk
 refine Ev.bind (spec_l4Halves_ev s hs) (Ev.bind (spec_PsalmValid_ev S t M E hS hM hE) ?_)
 dsimp only
 cases psOk S t M E
 ·
  exact Ev.neg (by simp) (Ev.eqr (Ev.now _) (by simp))
 refine Ev.pos rfl (Ev.bind (spec_VerseValid_ev s hs) ?_)
 rw [Bool.true_and]
 cases vhOk s
 ·
  exact Ev.neg (by simp) (Ev.now _)
 refine Ev.pos rfl ?_
 rw [w64 (by omega) (by omega), Bool.true_and]
 by_cases h : S.length + M.length ≤ (cutB s).1.size
 ·
  refine Ev.pos (by omega) (Ev.eqr (Ev.now _) ?_)
  rw [decide_eq_true h, Bool.true_and]
  exact decide_eq_decide.2 (by omega)
 ·
  refine Ev.neg (by omega) (Ev.eqr (Ev.now _) ?_)
  rw [decide_eq_false h, Bool.false_and]

end Go.Proofs.YtpcohkffbjdmfaaDoor.Pure
namespace Go.Proofs.YtpcohkffbjdmfaaDoor.Pure
set_option linter.unusedVariables false
set_option linter.unusedSimpArgs false
open Go Go.RowKit Go.Proofs.YtpcohkffbjdmfaaDoor.PFnExactPsalmFits Go.Proofs.YtpcohkffbjdmfaaDoorW.PrintWords Go.Proofs.YtpcohkffbjdmfaaDoorW.PrintLast Go.Proofs.YtpcohkffbjdmfaaDoorW.PrintMore

section
variable {α : Type} {d : Kd α} {e : Nat} {W W' w0 : World} {B a b n c : Nat} {v : Value} {A : Option Addr} {xs ys : List α} {S : Nat → Prop}
end
section
variable {α : Type} {d : Kd α} {e : Nat} {W W' w0 : World} {B a b n c : Nat} {v : Value} {A : Option Addr} {xs ys : List α} {S : Nat → Prop}
end

def convTone (x : S24) : S29 := ⟨x.f0, x.f1⟩
theorem szToneS_eq (l : List S24) (left : Int) (h0 : 0 ≤ left) (h1 : left ≤ 1000000000000) (hl : (l.length : Int) ≤ 9223372036854775807) : laws_szToneS.f l left = some (if left - (l.length : Int) < 0 then -1 else left - (l.length : Int)) := by
 unfold laws_szToneS.f
 rw [w64 (by omega) (by omega)]
 split <;> rfl
theorem toToneS_ev (l : List S24) (hl : l.length ≤ 1000000000000) : Ev (fun k => laws_toToneS.f k l) (l.map convTone) := by
 unfold laws_toToneS.f
 refine Ev.pos (by omega) (Ev.pos (by simp; omega) ?_)
 have := Ev.over z24 l (fun k (s : List S29) i => laws_toToneS.l0 k l s i) (fun s rest => s.take (l.length - rest.length) ++ rest.map convTone) (fun _ s => s.length = l.length) (by
  intro s hs
  refine Ev.succ ?_
  simp only [laws_toToneS.l0]
  refine Ev.eqr (Ev.neg (by omega) (Ev.now _)) ?_
  simp [← hs]) (by
  intro s i rest hs hi hdr ih
  have hrl : rest.length + 1 + i = l.length := by
   have := congrArg List.length hdr
   simp at this; omega
  refine Ev.succ ?_
  simp only [laws_toToneS.l0]
  refine Ev.pos (by omega) (Ev.pos (by omega) (Ev.conb (a := ((rd_T24 l i).f0, (rd_T24 l i).f1)) rfl (Ev.pos (by omega) ?_)))
  rw [w64 (by omega) (by omega)]
  refine Ev.eqr (ih _ (by simpa using hs)) ?_
  have e1 : l.length - rest.length = i + 1 := by omega
  have e2 : l.length - (l.getD i z24 :: rest).length = i := by simp; omega
  rw [e1, e2]
  simp only [Int.toNat_natCast, List.map_cons]
  rw [List.take_set, List.take_succ_eq_append_getElem (by omega), List.set_append_right _ _ (by simp; omega)]
  have e3 : i - (s.take i).length = 0 := by simp; omega
  rw [e3]
  simp [convTone, rd_T24]) 0 (List.replicate l.length z29) (Nat.zero_le _) (by simp)
 simpa using this
theorem eqToneS_ev (l : List S29) (hl : l.length ≤ 1000000000000000) : Ev (fun k => laws_eqToneS.f k l l) true := by
 unfold laws_eqToneS.f
 refine Ev.pos rfl ?_
 have := Ev.over z29 l (fun k (_ : Unit) i => laws_eqToneS.l0 k l l i) (fun _ _ => true) (fun _ _ => True) (by
  intro s _
  refine Ev.succ ?_
  simp only [laws_eqToneS.l0]
  exact Ev.neg (by omega) (Ev.now _)) (by
  intro s i rest _ hi _ ih
  refine Ev.succ ?_
  simp only [laws_eqToneS.l0]
  refine Ev.pos (by omega) (Ev.pos (by omega) (Ev.pos (by omega) (Ev.conb (a := true) (by simp [laws_eqTone.f]) (Ev.pos rfl ?_))))
  rw [w64 (by omega) (by omega)]
  exact ih () trivial) 0 () (Nat.zero_le _) trivial
 simpa using this

end Go.Proofs.YtpcohkffbjdmfaaDoor.Pure
namespace Go.Proofs.YtpcohkffbjdmfaaDoor.Pure
set_option linter.unusedVariables false
set_option linter.unusedSimpArgs false
open Go Go.RowKit Go.Proofs.YtpcohkffbjdmfaaDoor.PFnExactPsalmFits Go.Proofs.YtpcohkffbjdmfaaDoorW.PrintWords Go.Proofs.YtpcohkffbjdmfaaDoorW.PrintLast Go.Proofs.YtpcohkffbjdmfaaDoorW.PrintMore

theorem szPsalm_eq (S : List S24) (x : Int) (s : Bool) (M E : List S24) (hS : (S.length : Int) ≤ 9223372036854775807) (hM : (M.length : Int) ≤ 9223372036854775807) (hE : (E.length : Int) ≤ 9223372036854775807) : ∃ r, laws_szPsalm.f S x s M E 1048576 = some r ∧ (r < 0 ∨ (S.length ≤ 1048576 ∧ M.length ≤ 1048576 ∧ E.length ≤ 1048576)) := by
 unfold laws_szPsalm.f
 rw [szToneS_eq S 1048576 (by omega) (by omega) hS]
 simp only [Option.bind_some]
 by_cases h1 : (1048576 : Int) - (S.length : Int) < 0
 ·
  rw [if_pos h1]; exact ⟨-1, rfl, .inl (by omega)⟩
 rw [if_neg h1, if_neg h1, szToneS_eq M _ (by omega) (by omega) hM]
 simp only [Option.bind_some]
 by_cases h2 : (1048576 : Int) - (S.length : Int) - (M.length : Int) < 0
 ·
  rw [if_pos h2]; exact ⟨-1, rfl, .inl (by omega)⟩
 rw [if_neg h2, if_neg h2, szToneS_eq E _ (by omega) (by omega) hE]
 simp only [Option.bind_some]
 by_cases h3 : (1048576 : Int) - (S.length : Int) - (M.length : Int) - (E.length : Int) < 0
 ·
  rw [if_pos h3]; exact ⟨-1, rfl, .inl (by omega)⟩
 rw [if_neg h3, if_neg h3]
 exact ⟨_, rfl, .inr ⟨by omega, by omega, by omega⟩⟩
theorem toPsalm_ev (S : List S24) (x : Int) (s : Bool) (M E : List S24) (hS : S.length ≤ 1048576) (hM : M.length ≤ 1048576) (hE : E.length ≤ 1048576) : Ev (fun n => laws_toPsalm.f n S x s M E) (S.map convTone, x, s, M.map convTone, E.map convTone) := by
 unfold laws_toPsalm.f
 exact Ev.bind (toToneS_ev S (by omega)) (Ev.conb (a := (x, s)) rfl (Ev.bind (toToneS_ev M (by omega)) (Ev.bind (toToneS_ev E (by omega)) (Ev.now _))))
theorem eqPsalm_ev (S : List S29) (x : Int) (s : Bool) (M E : List S29) (hS : S.length ≤ 1048576) (hM : M.length ≤ 1048576) (hE : E.length ≤ 1048576) : Ev (fun n => laws_eqPsalm.f n S x s M E S x s M E) true := by
 unfold laws_eqPsalm.f
 exact Ev.bind (eqToneS_ev S (by omega)) (Ev.pos rfl (Ev.conb (a := true) (by simp [laws_eqTone.f]) (Ev.pos rfl (Ev.bind (eqToneS_ev M (by omega)) (Ev.pos rfl (Ev.bind (eqToneS_ev E (by omega)) (Ev.pos rfl (Ev.now _))))))))
theorem FnExactPsalmFits_core (S : List S24) (x : Int) (s : Bool) (M E : List S24) (b : ByteArray) (hS : S.length ≤ maxLen) (hM : M.length ≤ maxLen) (hE : E.length ≤ maxLen) : ∃ n, laws_FnExactPsalmFits.f n S x s M E b = some true := by
 unfold maxLen at hS hM hE
 have key : Ev (fun n => laws_FnExactPsalmFits.f n S x s M E b) true := by
  unfold laws_FnExactPsalmFits.f
  by_cases hb : (b.size : Int) > 1048576
  ·
   exact Ev.pos hb (Ev.now _)
  refine Ev.neg hb ?_
  obtain ⟨r, hr, hc⟩ := szPsalm_eq S x s M E (by omega) (by omega) (by omega)
  refine Ev.conb hr ?_
  by_cases h0 : r < 0
  ·
   exact Ev.pos h0 (Ev.now _)
  refine Ev.neg h0 ?_
  obtain ⟨lS, lM, lE⟩ := hc.resolve_left h0
  have hto := toPsalm_ev S x s M E lS lM lE
  obtain ⟨S', hS'⟩ : ∃ l, l = S.map convTone := ⟨_, rfl⟩
  obtain ⟨M', hM'⟩ : ∃ l, l = M.map convTone := ⟨_, rfl⟩
  obtain ⟨E', hE'⟩ : ∃ l, l = E.map convTone := ⟨_, rfl⟩
  rw [← hS', ← hM', ← hE'] at hto
  have lS' : S'.length ≤ 1048576 := by rw [hS', List.length_map]; exact lS
  have lM' : M'.length ≤ 1048576 := by rw [hM', List.length_map]; exact lM
  have lE' : E'.length ≤ 1048576 := by rw [hE', List.length_map]; exact lE
  have hs := spec_PsalmFits_ev S' ⟨x, s⟩ M' E' b (by omega) (by omega) (by omega) (by omega)
  have hi : impl_PsalmFits.f S' x s M' E' b = some (fitsOk S' ⟨x, s⟩ M' E' b) := by
   unfold impl_PsalmFits.f
   rw [if_pos (by omega)]
  have heA := eqPsalm_ev S' x s M' E' lS' lM' lE'
  exact Ev.bind hto (Ev.bind hs (Ev.bind hto (Ev.conb hi (Ev.neg (by simp) (Ev.bind hto (Ev.bind heA (Ev.pos rfl (Ev.now _))))))))
 exact Ev.rounds key
theorem FnExactPsalmFits_walk (S : List S24) (x : Int) (s : Bool) (M E : List S24) (b : ByteArray) (A0 : Option Addr) (c0 : Nat) (A3 : Option Addr) (c3 : Nat) (A4 : Option Addr) (c4 : Nat) (w : World) (hr0 : Kd.C k24 w A0 S.length S) (hc0 : S.length ≤ c0) (hm0 : S.length ≤ maxLen) (hr3 : Kd.C k24 w A3 M.length M) (hc3 : M.length ≤ c3) (hm3 : M.length ≤ maxLen) (hr4 : Kd.C k24 w A4 E.length E) (hc4 : E.length ≤ c4) (hm4 : E.length ≤ maxLen) (hb : b.size ≤ maxLen) :
 Calls Tryd.prog 4 #[.agg #[.slice A0 S.length c0, .int .i64 x, .bool s, .slice A3 M.length c3, .slice A4 E.length c4], .string b] w fun e w' => e = .returned (.bool true) ∧ Below w.heap.size w w' := by
 obtain ⟨n, h⟩ := FnExactPsalmFits_core S x s M E b hm0 hm3 hm4
 exact laws_FnExactPsalmFits.calls n A0 c0 S x s A3 c3 M A4 c4 E b true w hr0 hc0 hr3 hc3 hr4 hc4 rfl h

def Opn {α : Type} (P : Program) (t : TypeId) (d : Kd α) (ok : α → Prop) : Prop :=
 P.cellsOf t = d.sz ∧ ∀ {H : Type} (enc : TypeId × Value → H) (w : World) (base : Nat) (held : Bool) (fuel : Nat) (cs : List Value) (x : DataW H × List MemPlace), DataW.trod enc P w base (fun _ => true) held fuel t cs = some x → ∃ p, d.K w p cs ∧ ok p
theorem opn_int {P : Program} {t : TypeId} (k : IntKind) (ht : P.underlying t = some (.int k)) (hc : P.cellsOf t = 1) : Opn P t (Kd.int k) (fun n => (Lit.int k n).wf = true) :=
 ⟨hc, fun enc w base held fuel cs x h => by obtain ⟨n, rfl, _, hw⟩ := DataW.trod_int ht h; exact ⟨n, rfl, hw⟩⟩
theorem opn_bool {P : Program} {t : TypeId} (ht : P.underlying t = some .bool) (hc : P.cellsOf t = 1) : Opn P t Kd.bool (fun _ => True) :=
 ⟨hc, fun enc w base held fuel cs x h => by obtain ⟨n, rfl, _⟩ := DataW.trod_bool ht h; exact ⟨n, rfl, trivial⟩⟩
theorem opn_slice {α : Type} {P : Program} {t e : TypeId} {d : Kd α} {ok : α → Prop} (ht : P.underlying t = some (.slice e)) (hc : P.cellsOf t = 1) (he : Opn P e d ok) : Opn P t (Kd.slice e d) (fun l => (∀ x ∈ l, ok x) ∧ l.length ≤ maxLen) := by
 refine ⟨hc, fun enc w base held fuel cs x h => ?_⟩
 rcases Go.Deep.open_slice ht h with ⟨rfl, _⟩ | ⟨a, len, cap, m, n, D, Pl, rfl, _, hl, hm, hmm, _, hi⟩
 ·
  exact ⟨[], ⟨none, 0, rfl, Nat.le_refl _, rfl, by simp, fun h => by simp at h⟩, by simp, by simp⟩
 ·
  have hmc : m = cap := by simpa using hmm
  clear hmm
  have key : ∀ k, k ≤ len → ∃ l : List α, l.length = k ∧ (∀ x ∈ l, ok x) ∧ ∀ j p, l[j]? = some p → ∃ c, c.length = d.sz ∧ d.K w p c ∧ ∀ i u, c[i]? = some u → w.cell? (a.add (j * d.sz + i)) = some u := by
   intro k
   induction k with
   | zero => intro _; exact ⟨[], rfl, by simp, by simp⟩
   | succ k ih =>
    intro hk
    obtain ⟨l, hll, hlo, hlc⟩ := ih (by omega)
    obtain ⟨cs', hcs, ht'⟩ := hi k (by omega)
    rw [he.1] at hcs
    obtain ⟨p, hp, hop⟩ := he.2 enc w base held n cs' _ ht'
    obtain ⟨_, hcl, hat⟩ := World.cells?_some hcs
    refine ⟨l ++ [p], by simp [hll], ?_, ?_⟩
    ·
     intro x hx
     rcases List.mem_append.1 hx with hx | hx
     ·
      exact hlo x hx
     ·
      rw [List.mem_singleton.1 hx]; exact hop
    ·
     intro j q hq
     by_cases hj : j < l.length
     ·
      rw [List.getElem?_append_left hj] at hq
      exact hlc j q hq
     ·
      have hj2 : j = l.length := by
       have := (List.getElem?_eq_some_iff.1 hq).1
       simp at this; omega
      subst hj2
      rw [List.getElem?_append_right (Nat.le_refl _)] at hq
      simp at hq
      subst hq
      refine ⟨cs', hcl, hp, fun i u hu => ?_⟩
      have hil : i < d.sz := by rw [← hcl]; exact (List.getElem?_eq_some_iff.1 hu).1
      rw [hll, ← Go.Deep.add_add, hat i hil, hu]
  obtain ⟨l, hll, hlo, hlc⟩ := key len (Nat.le_refl _)
  subst hll
  exact ⟨l, ⟨some a, cap, rfl, hl, rfl, by unfold maxLen at hm; omega, fun _ => ⟨a, rfl, hlc⟩⟩, hlo, by omega⟩
theorem opn_iso {α β : Type} {P : Program} {t : TypeId} {d : Kd α} {ok : α → Prop} (h : Opn P t d ok) (f : β → α) (g : α → β) (hfg : ∀ x, f (g x) = x) : Opn P t (Kd.iso d f) (fun y => ok (f y)) :=
 ⟨h.1, fun enc w base held fuel cs x hx => by
  obtain ⟨p, hp, ho⟩ := h.2 enc w base held fuel cs x hx
  exact ⟨g p, by show d.K w (f (g p)) cs; rw [hfg]; exact hp, by show ok (f (g p)); rw [hfg]; exact ho⟩⟩
theorem opn_struct2 {α β : Type} {P : Program} {t : TypeId} {f0 f1 : Field} {a : Kd α} {b : Kd β} {oka : α → Prop} {okb : β → Prop} (ht : P.underlying t = some (.struct #[f0, f1])) (h0 : Opn P f0.type a oka) (h1 : Opn P f1.type b okb)
 (o0 : f0.offset = 0) (o1 : f1.offset = a.sz) (hc : P.cellsOf t = a.sz + b.sz) : Opn P t (Kd.pair a b) (fun p => oka p.1 ∧ okb p.2) := by
 refine ⟨hc, fun enc w base held fuel cs x h => ?_⟩
 obtain ⟨xs, n, _, _, hl, hxl, hg⟩ := DataW.trod_struct ht h
 have g0 := hg 0 f0 rfl
 have g1 := hg 1 f1 rfl
 rw [o0, h0.1, List.drop_zero] at g0
 rw [o1, h1.1] at g1
 rw [List.getElem?_eq_getElem (by rw [hxl]; simp)] at g0 g1
 obtain ⟨p, hp, hop⟩ := h0.2 enc w base held n _ _ g0
 obtain ⟨q, hq, hoq⟩ := h1.2 enc w base held n _ _ g1
 refine ⟨(p, q), ⟨cs.take a.sz, (cs.drop a.sz).take b.sz, ?_, hp, hq⟩, hop, hoq⟩
 rw [List.take_of_length_le (l := cs.drop a.sz) (by rw [List.length_drop, hl, hc]; omega), List.take_append_drop]
theorem opn_struct4 {α β γ δ : Type} {P : Program} {t : TypeId} {f0 f1 f2 f3 : Field} {a : Kd α} {b : Kd β} {c : Kd γ} {d : Kd δ} {oka : α → Prop} {okb : β → Prop} {okc : γ → Prop} {okd : δ → Prop} (ht : P.underlying t = some (.struct #[f0, f1, f2, f3])) (h0 : Opn P f0.type a oka) (h1 : Opn P f1.type b okb) (h2 : Opn P f2.type c okc) (h3 : Opn P f3.type d okd)
 (o0 : f0.offset = 0) (o1 : f1.offset = a.sz) (o2 : f2.offset = a.sz + b.sz) (o3 : f3.offset = a.sz + b.sz + c.sz) (hc : P.cellsOf t = a.sz + (b.sz + (c.sz + d.sz))) : Opn P t (Kd.pair a (Kd.pair b (Kd.pair c d))) (fun p => oka p.1 ∧ okb p.2.1 ∧ okc p.2.2.1 ∧ okd p.2.2.2) := by
 refine ⟨hc, fun enc w base held fuel cs x h => ?_⟩
 obtain ⟨xs, n, _, _, hl, hxl, hg⟩ := DataW.trod_struct ht h
 have g0 := hg 0 f0 rfl
 have g1 := hg 1 f1 rfl
 have g2 := hg 2 f2 rfl
 have g3 := hg 3 f3 rfl
 rw [o0, h0.1, List.drop_zero] at g0
 rw [o1, h1.1] at g1
 rw [o2, h2.1] at g2
 rw [o3, h3.1] at g3
 rw [List.getElem?_eq_getElem (by rw [hxl]; simp)] at g0 g1 g2 g3
 obtain ⟨p, hp, hop⟩ := h0.2 enc w base held n _ _ g0
 obtain ⟨q, hq, hoq⟩ := h1.2 enc w base held n _ _ g1
 obtain ⟨r, hr, hor⟩ := h2.2 enc w base held n _ _ g2
 obtain ⟨s, hs, hos⟩ := h3.2 enc w base held n _ _ g3
 refine ⟨(p, q, r, s), ⟨cs.take a.sz, cs.drop a.sz, by rw [List.take_append_drop], hp, (cs.drop a.sz).take b.sz, cs.drop (a.sz + b.sz), by rw [← List.drop_drop, List.take_append_drop], hq, (cs.drop (a.sz + b.sz)).take c.sz, (cs.drop (a.sz + b.sz + c.sz)).take d.sz, ?_, hr, hs⟩, hop, hoq, hor, hos⟩
 rw [List.take_of_length_le (l := cs.drop (a.sz + b.sz + c.sz)) (by rw [List.length_drop, hl, hc]; omega)]
 exact (List.take_append_drop c.sz (cs.drop (a.sz + b.sz))).symm.trans (by rw [List.drop_drop])
theorem opn_aggPsalm {P : Program} {t : TypeId} {e : Nat} {ok : List S24 × S24 × List S24 × List S24 → Prop} (h : Opn P t (Kd.pair (Kd.slice e k24) (Kd.pair k24 (Kd.pair (Kd.slice e k24) (Kd.slice e k24)))) ok) {H : Type} {enc : TypeId × Value → H} {w : World} {base : Nat} {held : Bool} {cs : Array Value} {x : DataW H} {p : List MemPlace} (hr : DataW.Trod enc P w base (fun _ => true) held t (.agg cs) x p) :
 ∃ (S : List S24) (y : S24) (M E : List S24) (A0 : Option Addr) (c0 : Nat) (A3 : Option Addr) (c3 : Nat) (A4 : Option Addr) (c4 : Nat), cs = #[.slice A0 S.length c0, .int .i64 y.f0, .bool y.f1, .slice A3 M.length c3, .slice A4 E.length c4] ∧ ok (S, y, M, E) ∧ S.length ≤ c0 ∧ Kd.C k24 w A0 S.length S ∧ M.length ≤ c3 ∧ Kd.C k24 w A3 M.length M ∧ E.length ≤ c4 ∧ Kd.C k24 w A4 E.length E := by
 obtain ⟨fuel, hf⟩ := hr
 obtain ⟨⟨S, y, M, E⟩, ⟨l0, r0, e0, ⟨A0, c0, h0, g0, C0⟩, l1, r1, e1, ⟨_, _, h1, hx, hy⟩, l2, r2, e2, ⟨A3, c3, h2, g2, C2⟩, A4, c4, h3, g3, C3⟩, ho⟩ := h.2 enc w base held fuel _ _ hf
 subst h0 h2 h3 e2
 cases hx
 cases hy
 subst h1 e1
 exact ⟨S, y, M, E, A0, c0, A3, c3, A4, c4, Array.ext' e0, ho, g0, C0, g2, C2, g3, C3⟩

end Go.Proofs.YtpcohkffbjdmfaaDoor.Pure
